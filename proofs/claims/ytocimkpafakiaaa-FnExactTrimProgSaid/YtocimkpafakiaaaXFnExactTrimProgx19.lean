/- Each Go function that the law reaches as a Lean function, and that Go comes to just its answer; written by this session's xprint.py over the kit's printer. -/
import Derived.Test.YtocimkpafakiaaaXFnExactTrimProgx0
import Derived.Test.YtocimkpafakiaaaXFnExactTrimProgx14
import Derived.Test.YtocimkpafakiaaaXFnExactTrimProgx16
import Derived.Test.YtocimkpafakiaaaXFnExactTrimProgx17
import Derived.Test.YtocimkpafakiaaaXFnExactTrimProgx18
namespace Go.Proofs.Ytocimkpafakiaaa.XFnExactTrimProg
open Go.RowKit Go.Proofs.YtocimkpafakiaaaW.PrintWords Go.Proofs.YtocimkpafakiaaaW.PrintLast Go.Proofs.YtocimkpafakiaaaW.PrintMore
attribute [local go_sem] max2_int min2_int max_two min_two max_three min_three max_four min_four   -- for this text's walks alone
set_option linter.unusedVariables false
set_option linter.unusedSimpArgs false

theorem att20_0_1 {p : Prop} (h : p := by rw [hw]; exact (by (with_reducible repeat (first | refine blk_drewN ?_ _ | refine blk_drew ?_ | refine blk_alloc ?_ _)); refine blk_put (cs := #[.int .i64 ((rd_T63 l0 x21_1).f0), .int .i64 ((rd_T63 l0 x21_1).f1), .int .i64 ((rd_T63 l0 x21_1).f2), .int .i64 ((rd_T63 l0 x21_1).f3), .int .i64 0]) ?_ 4 _ rfl; (with_reducible repeat (first | refine blk_drewN ?_ _ | refine blk_drew ?_ | refine blk_alloc ?_ _)); refine blk_put (cs := #[.int .i64 ((rd_T63 l0 x21_1).f0), .int .i64 ((rd_T63 l0 x21_1).f1), .int .i64 ((rd_T63 l0 x21_1).f2), .int .i64 0, .int .i64 0]) ?_ 3 _ rfl; (with_reducible repeat (first | refine blk_drewN ?_ _ | refine blk_drew ?_ | refine blk_alloc ?_ _)); refine blk_put (cs := #[.int .i64 ((rd_T63 l0 x21_1).f0), .int .i64 ((rd_T63 l0 x21_1).f1), .int .i64 0, .int .i64 0, .int .i64 0]) ?_ 2 _ rfl; (with_reducible repeat (first | refine blk_drewN ?_ _ | refine blk_drew ?_ | refine blk_alloc ?_ _)); refine blk_put (cs := #[.int .i64 ((rd_T63 l0 x21_1).f0), .int .i64 0, .int .i64 0, .int .i64 0, .int .i64 0]) ?_ 1 _ rfl; (with_reducible repeat (first | refine blk_drewN ?_ _ | refine blk_drew ?_ | refine blk_alloc ?_ _)); refine blk_put (cs := #[.int .i64 0, .int .i64 0, .int .i64 0, .int .i64 0, .int .i64 0]) ?_ 0 _ rfl; (with_reducible repeat (first | refine blk_drewN ?_ _ | refine blk_drew ?_ | refine blk_alloc ?_ _)); exact BK550.out)) : p := h
theorem att20_0_2 {p : Prop} (h : p := by exact toR_ (Kd.R_mono (farR5_ (Kd.R_types HO_5.out BK550.out (by decide))) (fun _ hk => trivial))) : p := h
theorem att20_0_3 {p : Prop} (h : p := by exact toR_ (Kd.R_mono (farR5_ (Kd.R_types HO_3.out BK550.out (by decide))) (fun _ hk => trivial))) : p := h
theorem att20_0_4 {p : Prop} (h : p := by exact toS_ (Kd.S_mono (farS5_ (Kd.S_types HO_4.out BK550.out (by decide))) (fun _ hk => hk.1))) : p := h
theorem att20_0_6 {p : Prop} (h : p := by repeat (first | (with_reducible first | exact HB.out | apply below_alloc | apply pw_below_drewN | apply below_drew1 | refine below_set ?_ GE550.out) | exact HB.out)) : p := h
theorem att20_0_7 {p : Prop} (h : p := by exact toR_ (HO_5.out)) : p := h
theorem att20_0_8 {p : Prop} (h : p := by exact toR_ (HO_3.out)) : p := h
theorem att20_0_9 {p : Prop} (h : p := by exact toR_ (HO538.out)) : p := h
theorem att20_0_10 {p : Prop} (h : p := by exact toS_ (HO_4.out)) : p := h
theorem att20_0_11 {p : Prop} (h : p := by repeat (first | (with_reducible exact HR553_0.out) | (with_reducible refine Kd.C_alloc ?_ _) | (with_reducible refine Kd.C_drewN ?_ _) | (with_reducible refine Kd.C_drew ?_) | exact HR553_0.out)) : p := h
theorem att20_0_13 {p : Prop} (h : p := by (with_reducible repeat (first | apply Kd.Q_alloc | apply Kd.Q_drewN | apply Kd.Q_drew)); exact HO527.out) : p := h
theorem att20_0_14 {p : Prop} (h : p := by exact toS_ (HO542.out)) : p := h
theorem att20_0_16 {p : Prop} (h : p := by exact toR_ (Kd.R_mono HL553_0.out (fun _ hk => ⟨hk.2, hk.1⟩))) : p := h
theorem att20_0_17 {p : Prop} (h : p := by exact toS_ (Kd.S_mono HO_4.out (fun _ hk => ⟨trivial, hk⟩))) : p := h
theorem att20_0_19 {p : Prop} (h : p := by (with_reducible repeat (first | refine blk_drewN ?_ _ | refine blk_drew ?_ | refine blk_alloc ?_ _)); exact BK550.out) : p := h
theorem att20_0_20 {p : Prop} (h : p := by exact toR_ (HO566.out)) : p := h
theorem att20_0_21 {p : Prop} (h : p := by exact toR_ (HO545.out)) : p := h
theorem att20_0_22 {p : Prop} (h : p := by exact toR_ (HO532.out)) : p := h
theorem att20_0_23 {p : Prop} (h : p := by exact toR_ (HO520.out)) : p := h
theorem att20_0_24 {p : Prop} (h : p := by exact toR_ (HO_9.out)) : p := h
theorem att20_0_25 {p : Prop} (h : p := by first | rfl | (simp; done) | (simp only [← hji23] <;> (first | rfl | simp)) | (simp [*]; done)) : p := h
theorem att20_1_0 {p : Prop} (h : p := by first | exact q553 | exact of_decide_eq_true atgA_ | (have e_ := (Kd.S_reads' HO_4.out).1; omega)) : p := h
theorem att20_1_1 {p : Prop} (h : p := by have h_ : ((rd t567 x11_1) : Int) < ((x3_1.length : Int) : Int) := of_decide_eq_true atgA_; first | exact h_ | (have e_ := (Kd.R_reads' HO_3.out).1; omega) | simpa using h_) : p := h
/-! ### impl_reached: function 68 -/
def impl_reached.l0 : Nat → List (S63) → List Bool → List Int → Option (List Bool)
 | 0, _, _, _ => none
 | k + 1, x0, x5, x6 => if (x6.length : Int) > 0 then (if 0 < (x6.length : Int) then (if 1 ≤ (x6.length : Int) then ((some (x6.drop (1 : Int).toNat : List Int)).bind fun y525 => (if 0 ≤ (rd x6 0) then (if (rd x6 0) < (x5.length : Int) then (if (rdOf false x5 (rd x6 0) = true) then (impl_reached.l0 k x0 x5 y525) else ((impl_nextOf.f x0 (rd x6 0)).bind fun t530 => (if y525.length + t530.length < 17592186044416 then (impl_reached.l0 k x0 (x5.set ((rd x6 0) : Int).toNat true) (y525 ++ t530)) else (none)))) else (none)) else (none))) else (none)) else (none)) else (some x5)
def impl_reached.f (k : Nat) (l0 : List (S63)) (l1 : List Int) : Option (List Bool) := if 0 ≤ (l0.length : Int) then (if ((l0.length : Int) : Int).toNat ≤ 281474976710656 then ((impl_copyInts.f l1).bind fun t521 => (impl_reached.l0 k l0 (List.replicate ((l0.length : Int) : Int).toNat false) t521)) else (none)) else (none)
theorem impl_reached.mono_l : ∀ k, (∀ y0 y1 y2, LeO (impl_reached.l0 k y0 y1 y2) (impl_reached.l0 (k + 1) y0 y1 y2))
 | 0 => fun _ _ _ r h => by simp [impl_reached.l0] at h
 | k + 1 => by
  have ih0 := impl_reached.mono_l k
  ·intro y0 y1 y2
   unfold impl_reached.l0
   repeat' (with_reducible first | exact ih0 .. | exact LeO.refl _ | exact LeO.none _ | refine LeO.ite ?_ ?_ | refine LeO.bind ?_ (fun _ => ?_))
theorem impl_reached.mono : ∀ a0 a1 k, LeO (impl_reached.f k a0 a1) (impl_reached.f (k + 1) a0 a1) := by
 intro a0 a1 k
 have ih0 := impl_reached.mono_l k
 unfold impl_reached.f
 repeat' (with_reducible first | exact ih0 .. | exact LeO.refl _ | exact LeO.none _ | refine LeO.ite ?_ ?_ | refine LeO.bind ?_ (fun _ => ?_))
set_option maxHeartbeats 80000000 in
set_option maxRecDepth 100000 in
theorem impl_reached.calls (k : Nat) (A0 : Option Addr) (c0 : Nat) (l0 : List (S63)) (A1 : Option Addr) (c1 : Nat) (l1 : List Int) (r : List Bool) (w : World) (hr0 : Kd.C k63 w A0 l0.length l0) (hc0 : l0.length ≤ c0) (hr1 : Kd.C (Kd.int .i64) w A1 l1.length l1) (hc1 : l1.length ≤ c1) (h : impl_reached.f k l0 l1 = some r) :
  Calls Try.prog 68 #[.slice A0 l0.length c0, .slice A1 l1.length c1] w fun e w' => ∃ v0_ : Value, e = .returned (v0_) ∧ Kd.R Kd.bool 4 w' w.heap.size (fun _ => True) v0_ r ∧ Below w.heap.size w w' := by
 have HR0 := Aside0.mk hr0
 have HC0 := Aside0.mk hc0
 clear hr0 hc0
 have HR1 := Aside0.mk hr1
 have HC1 := Aside0.mk hc1
 clear hr1 hc1
 have HB := Aside0.mk (Below.refl w.heap.size w)
 have H : (if 0 ≤ (l0.length : Int) then (if ((l0.length : Int) : Int).toNat ≤ 281474976710656 then ((impl_copyInts.f l1).bind fun t521 => (impl_reached.l0 k l0 (List.replicate ((l0.length : Int) : Int).toNat false) t521)) else (none)) else (none)) = some r := h
 clear h
 by_cases c3 : 0 ≤ (l0.length : Int)
 ·rw [if_pos c3] at H
  have c3b0 := eq_true c3
  have c3b1 := decide_eq_true c3
  clear c3
  by_cases c4 : ((l0.length : Int) : Int).toNat ≤ 281474976710656
  ·rw [if_pos c4] at H
   have c4b0 := eq_true c4
   have c4b1 := decide_eq_true c4
   clear c4
   obtain ⟨y518, hy518⟩ : ∃ y_ : List Bool, y_ = (List.replicate ((l0.length : Int) : Int).toNat false) := ⟨_, rfl⟩
   replace H : ((impl_copyInts.f l1).bind fun t521 => (impl_reached.l0 k l0 y518 t521)) = some r := by rw [hy518]; exact H
   have Ny518 := Aside0.mk hy518
   clear hy518
   replace H := Option.bind_eq_some_iff.mp H
   obtain ⟨t521, A50, H⟩ := H
   (try dsimp only at H)
   have A5 := Aside0.mk A50
   clear A50
   have H' := Aside0.mk H
   clear H
   go_enter Try.func68, Try.ntmps68
   go_wp2_with (first | ((with_reducible refine gate_dst (N := 10) rfl ?_); refine Kd.R_make Kd.bool _ 4 rfl (N := 10) rfl 66 _ _ rfl (l0.length : Int) rfl rfl Try.underlying66 (.bool false) 1 info4 rfl (by decide) (by omega) false (ok := fun _ => True) (okp := fun _ => True) rfl (fun _ hk => hk) trivial (of_decide_eq_true atgA_) (Nat.le_trans (Nat.mul_le_mul_right _ (of_decide_eq_true atgA_ : (l0.length : Int).toNat ≤ 281474976710656)) (by omega)) (Below.refl _ _) (Nat.le_refl _) ?_; intro v519 w6 ho7 hb hg_ hnew_; clear hg_ hnew_; (first | rw [← Ny518.out] at ho7 | (simp only [Int.reduceToNat] at ho7; rw [← Ny518.out] at ho7)); refine swap2_ (Kd.R_lower ho7 (below_size atgB_)) (below_step atgB_ hb) ?_; clear HB; intro HO520 HB; clear hb ho7) | ((with_reducible refine gate_callee (f := 82) rfl ?_); refine goesL_ (some 12) rfl rfl Try.func82 (by kernel_rfl) rfl #[.slice A1 l1.length c1] rfl atgM_ ?_; (with_reducible refine (impl_copyInts.calls _ _ l1 t521 _ ?side1 ?side2 A5.out).mono ?_); (case side1 => repeat (first | exact (Kd.C_below HR1.out HB.out) | (with_reducible refine Kd.C_alloc ?_ _) | (with_reducible refine Kd.C_drewN ?_ _) | (with_reducible refine Kd.C_drew ?_))); (case side2 => exact HC1.out); rintro e w8 ⟨v522, rfl, ho0, hb⟩; refine ⟨_, rfl, ?_⟩; refine swap3_ (Kd.R_below att20_0_23 hb) (Kd.R_lower ho0 (below_size atgB_)) (below_step atgB_ hb) ?_; clear HO520 HB; intro HO520 HO523 HB; (try clear hb); (try clear hb2); (try clear hk); (try clear hi); (try clear ho0)))
   go_loopg [6] k (fun kq v6 w' => ∃ (x5_1 : List Bool) (x6_1 : List Int), Aside0 (impl_reached.l0 kq l0 x5_1 x6_1 = some r) ∧ Aside0 (kq ≤ k) ∧ Aside0 (Kd.R Kd.bool 4 w' w.heap.size (fun _ => True) v519 x5_1) ∧ Aside0 (Kd.Q (Kd.int .i64) 3 w' w.heap.size (fun _ => True) v6 x6_1) ∧ Aside0 (Below w.heap.size w w'))
   case atStart => exact ⟨(y518), (t521), H', ⟨Nat.le_refl _⟩, ⟨att20_0_23⟩, ⟨Kd.Q_of_R (by exact toR_ (HO523.out))⟩, ⟨atgB_⟩⟩
   case round =>
    clear H'
    try clear c1
    try clear p2
    try clear c3
    try clear c3b0
    try clear c3b1
    try clear c4
    try clear c4b0
    try clear c4b1
    try clear c6
    try clear c8
    obtain ⟨x5_1, x6_1, HA, HK1, HO_5, HO_6, HB⟩ := hrel
    cases gk with
    | zero => exact absurd HA.out (by simp [impl_reached.l0])
    | succ k1 =>
     have H := HA.out
     clear HA
     simp only [impl_reached.l0] at H
     by_cases c9 : (x6_1.length : Int) > 0
     ·rw [if_pos c9] at H
      have c9b0 := decide_eq_true c9
      have c9b1 : decide (0 < x6_1.length) = true := decide_eq_true (by omega)
      clear c9
      by_cases c10 : 0 < (x6_1.length : Int)
      ·rw [if_pos c10] at H
       have c10b0 := decide_eq_true c10
       have c10b1 : decide (0 < x6_1.length) = true := decide_eq_true (by omega)
       clear c10
       by_cases c11 : 1 ≤ (x6_1.length : Int)
       ·rw [if_pos c11] at H
        have c11b0 := eq_true c11
        have c11b1 := decide_eq_true c11
        clear c11
        obtain ⟨y525, hy525⟩ : ∃ y_ : List Int, y_ = (x6_1.drop (1 : Int).toNat) := ⟨_, rfl⟩
        replace H := yy_ H hy525
        have Ny525 := Aside0.mk hy525
        clear hy525
        by_cases c12 : 0 ≤ (rd x6_1 0)
        ·rw [if_pos c12] at H
         have c12b0 := decide_eq_true c12
         clear c12
         by_cases c13 : (rd x6_1 0) < (x5_1.length : Int)
         ·rw [if_pos c13] at H
          have c13b0 := decide_eq_true c13
          clear c13
          obtain ⟨bq14, hbq14⟩ : ∃ b_ : Bool, b_ = (rdOf false x5_1 (rd x6_1 0)) := ⟨_, rfl⟩
          replace H : (if (bq14 = true) then (impl_reached.l0 k1 l0 x5_1 y525) else ((impl_nextOf.f l0 (rd x6_1 0)).bind fun t530 => (if y525.length + t530.length < 17592186044416 then (impl_reached.l0 k1 l0 (x5_1.set ((rd x6_1 0) : Int).toNat true) (y525 ++ t530)) else (none)))) = some r := by rw [← hbq14] at H; exact H
          have Nbq14 := Aside0.mk hbq14
          clear hbq14
          by_cases c15 : (bq14 = true)
          ·subst c15
           rw [if_pos rfl] at H
           have H' := Aside0.mk H
           clear H
           obtain ⟨Ao16, co16, eo16, _⟩ := Kd.Q_slice HO_6.out
           subst eo16
           have p524 : 0 ≤ (0 : Int) := (by omega)
           have q524 : 0 < (x6_1.length : Int) := of_decide_eq_true atgA_
           obtain ⟨ad524, e524, hx524_0⟩ := Kd.at_int (Kd.Q_reads' HO_6.out).2.2 0 p524 q524
           cases e524
           have qi524 : (0 < x6_1.length) = True := eq_true (by omega)
           (try rw [show ((0 : Int)).toNat = 0 from rfl] at hx524_0)
           (try rw [Addr.add_zero'] at hx524_0)
           replace p524 := eq_true p524
           replace q524 := eq_true q524
           have q17 : (1 : Int) ≤ ((x6_1.length : Int) : Int) := of_decide_eq_true atgA_
           obtain ⟨i017, hi017, _, hsz17, _⟩ := info_parts info3
           have hcut17 := cut_from (P := Try.prog) 34 3 .i64 Try.underlying34 hi017 1 hsz17 (some ad524) x6_1.length co16 1 (by omega) q17
           have hr17 := Kd.Q_drop (k := (1 : Int).toNat) HO_6.out (by omega)
           obtain ⟨A17, hA17⟩ : ∃ A1, A1 = (if co16 = (1 : Int).toNat then (some ad524) else ((some ad524) : Option Addr).map (·.add ((1 : Int).toNat * 1))) := ⟨_, rfl⟩
           obtain ⟨c17, hc17⟩ : ∃ c1, c1 = co16 - (1 : Int).toNat := ⟨_, rfl⟩
           have hy17 : y525.length = x6_1.length - (1 : Int).toNat := (by rw [Ny525.out, List.length_drop])
           rw [← Ny525.out] at hr17
           rw [← hy17, ← hA17, ← hc17] at hcut17
           replace hr17 : Kd.Q (Kd.int .i64) 3 wr w.heap.size (fun _ => True) (.slice A17 y525.length c17) y525 := (by rw [hA17, hc17, hy17]; exact hr17)
           have HE17 : Aside0 ((Value.slice A17 y525.length c17).ownBlock = (.slice (some ad524) x6_1.length co16 : Value).ownBlock) := ⟨by rw [hA17]; split <;> (cases ((some ad524) : Option Addr) <;> rfl)⟩
           clear hy17 hi017 hsz17 HO_6 hA17 hc17
           have HO527 := Aside0.mk hr17
           clear hr17
           replace q17 := eq_true q17
           obtain ⟨Ao18, co18, eo18⟩ := Kd.R_slice HO_5.out
           subst eo18
           have p528 : 0 ≤ ((rd x6_1 0) : Int) := of_decide_eq_true atgA_
           have q528 : (rd x6_1 0) < (x5_1.length : Int) := of_decide_eq_true atgA_
           obtain ⟨ad528, e528, hx528_0⟩ := Kd.at_bool (Kd.R_reads' HO_5.out).2.2 (rd x6_1 0) p528 q528
           (try rw [← Nbq14.out] at hx528_0)
           cases e528
           replace p528 := eq_true p528
           replace q528 := eq_true q528
           go_wp2
           go_roundg k1
           case measure => have := HK1.out; omega
           case rel => exact ⟨(x5_1), (y525), H', ⟨atgK_⟩, ⟨att20_0_7⟩, ⟨att20_0_13⟩, ⟨atgB_⟩⟩
          ·replace c15 := Bool.eq_false_iff.mpr c15
           subst c15
           rw [if_neg (show ¬ (false = true) by decide)] at H
           obtain ⟨y529, hy529⟩ : ∃ y_ : List Bool, y_ = (x5_1.set ((rd x6_1 0) : Int).toNat true) := ⟨_, rfl⟩
           replace H : ((impl_nextOf.f l0 (rd x6_1 0)).bind fun t530 => (if y525.length + t530.length < 17592186044416 then (impl_reached.l0 k1 l0 y529 (y525 ++ t530)) else (none))) = some r := by rw [hy529]; exact H
           have Ny529 := Aside0.mk hy529
           clear hy529
           replace H := Option.bind_eq_some_iff.mp H
           obtain ⟨t530, A200, H⟩ := H
           (try dsimp only at H)
           have A20 := Aside0.mk A200
           clear A200
           by_cases c21 : y525.length + t530.length < 17592186044416
           ·rw [if_pos c21] at H
            have LMc21 := Aside0.mk c21
            clear c21
            obtain ⟨y533, hy533⟩ : ∃ y_ : List Int, y_ = (y525 ++ t530) := ⟨_, rfl⟩
            replace H : (impl_reached.l0 k1 l0 y529 y533) = some r := by rw [hy533]; exact H
            have Ny533 := Aside0.mk hy533
            clear hy533
            have H' := Aside0.mk H
            clear H
            obtain ⟨Ao22, co22, eo22, _⟩ := Kd.Q_slice HO_6.out
            subst eo22
            have p524 : 0 ≤ (0 : Int) := (by omega)
            have q524 : 0 < (x6_1.length : Int) := of_decide_eq_true atgA_
            obtain ⟨ad524, e524, hx524_0⟩ := Kd.at_int (Kd.Q_reads' HO_6.out).2.2 0 p524 q524
            cases e524
            have qi524 : (0 < x6_1.length) = True := eq_true (by omega)
            (try rw [show ((0 : Int)).toNat = 0 from rfl] at hx524_0)
            (try rw [Addr.add_zero'] at hx524_0)
            replace p524 := eq_true p524
            replace q524 := eq_true q524
            have q23 : (1 : Int) ≤ ((x6_1.length : Int) : Int) := of_decide_eq_true atgA_
            obtain ⟨i023, hi023, _, hsz23, _⟩ := info_parts info3
            have hcut23 := cut_from (P := Try.prog) 34 3 .i64 Try.underlying34 hi023 1 hsz23 (some ad524) x6_1.length co22 1 (by omega) q23
            have hr23 := Kd.Q_drop (k := (1 : Int).toNat) HO_6.out (by omega)
            obtain ⟨A23, hA23⟩ : ∃ A1, A1 = (if co22 = (1 : Int).toNat then (some ad524) else ((some ad524) : Option Addr).map (·.add ((1 : Int).toNat * 1))) := ⟨_, rfl⟩
            obtain ⟨c23, hc23⟩ : ∃ c1, c1 = co22 - (1 : Int).toNat := ⟨_, rfl⟩
            have hy23 : y525.length = x6_1.length - (1 : Int).toNat := (by rw [Ny525.out, List.length_drop])
            rw [← Ny525.out] at hr23
            rw [← hy23, ← hA23, ← hc23] at hcut23
            replace hr23 : Kd.Q (Kd.int .i64) 3 wr w.heap.size (fun _ => True) (.slice A23 y525.length c23) y525 := (by rw [hA23, hc23, hy23]; exact hr23)
            have HE23 : Aside0 ((Value.slice A23 y525.length c23).ownBlock = (.slice (some ad524) x6_1.length co22 : Value).ownBlock) := ⟨by rw [hA23]; split <;> (cases ((some ad524) : Option Addr) <;> rfl)⟩
            clear hy23 hi023 hsz23 HO_6 hA23 hc23
            have HO527 := Aside0.mk hr23
            clear hr23
            replace q23 := eq_true q23
            obtain ⟨Ao24, co24, eo24⟩ := Kd.R_slice HO_5.out
            subst eo24
            have p528 : 0 ≤ ((rd x6_1 0) : Int) := of_decide_eq_true atgA_
            have q528 : (rd x6_1 0) < (x5_1.length : Int) := of_decide_eq_true atgA_
            obtain ⟨ad528, e528, hx528_0⟩ := Kd.at_bool (Kd.R_reads' HO_5.out).2.2 (rd x6_1 0) p528 q528
            (try rw [← Nbq14.out] at hx528_0)
            cases e528
            replace p528 := eq_true p528
            replace q528 := eq_true q528
            have p19 : 0 ≤ ((rd x6_1 0) : Int) := of_decide_eq_true atgA_
            have q19 : ((rd x6_1 0) : Int) < ((x5_1.length : Int) : Int) := of_decide_eq_true atgA_
            obtain ⟨go19, co19, eo19, gb19, gl19, cl19, HG19⟩ := Kd.R_form HO_5.out (by omega)
            (first | cases eo19 | (injection eo19 with ea_ en_ ec_; (first | subst ea_ | (injection ea_ with ea_; subst ea_)); subst ec_; clear en_))
            have GB19 := Aside0.mk gb19
            have GG19 := Aside0.mk HG19
            clear gb19 gl19 HG19
            (first | simp only [add_plain] at hx528_0 | skip)
            obtain ⟨hx19_0, hf19_0⟩ := Kd.R_celln false HO_5.out ((rd x6_1 0) : Int) p19 q19
            replace p19 := eq_true p19
            replace q19 := eq_true q19
            have HP25 := Kd.R_putg HO_5.out ((rd x6_1 0) : Int) true
            go_wp2_with (first | ((with_reducible refine gate_store (t := 4) (p := 28) rfl ?_); refine store_event (t := 4) (p := 28) (v := ?vo_w26) (w1 := (wr.setCell ⟨go19, ((rd x6_1 0) : Int).toNat, none⟩ (.bool true))) ?hg ?ho ?hn ?hr ?_; (case ho => rfl); (case hg => rfl); (case hn => rfl); (case hr => first | (go_simp; done) | (go_simp; rfl)); intro w26 hw; have hg : wr.grownBy w26 (some go19) := (by rw [hw]; exact HP25.2); have hp_ : Kd.R Kd.bool 4 w26 w.heap.size (fun _ => True) (.slice (some ⟨go19, 0, none⟩) x5_1.length co24) y529 := (by rw [hw, Ny529.out]; exact HP25.1); clear HP25; refine swap3_ (hp_) (Kd.Q_over' (v := (.slice (some ⟨go19, 0, none⟩) x5_1.length co24)) att20_0_13 (Kd.R_typed HO_5.out) (by decide) hg) ((by rw [hw]; exact below_set (HB.out) GB19.out : Below w.heap.size w w26)) ?_; clear HO_5 HO527 HB; intro HO_5 HO527 HB; clear hg hw hp_) | ((with_reducible refine gate_callee (f := 78) rfl ?_); refine goesL_ (some 32) rfl rfl Try.func78 (by kernel_rfl) rfl #[.slice A0 l0.length c0, .int .i64 (rd x6_1 0)] rfl atgM_ ?_; (with_reducible refine (impl_nextOf.calls _ _ l0 (rd x6_1 0) t530 _ ?side1 ?side2 A20.out).mono ?_); (case side1 => repeat (first | exact (Kd.C_below HR0.out HB.out) | (with_reducible refine Kd.C_alloc ?_ _) | (with_reducible refine Kd.C_drewN ?_ _) | (with_reducible refine Kd.C_drew ?_))); (case side2 => exact HC0.out); rintro e w27 ⟨v531, rfl, ho0, hb⟩; refine ⟨_, rfl, ?_⟩; refine swap4_ (Kd.R_below att20_0_7 hb) (Kd.Q_elder' att20_0_13 (Kd.R_base ho0) hb) (Kd.R_lower (Kd.R_new' ho0 (Kd.Q_lt att20_0_13)) (below_size atgB_)) (below_step atgB_ hb) ?_; clear HO_5 HO527 HB; intro HO_5 HO527 HO532 HB; (try clear hb); (try clear hb2); (try clear hk); (try clear hi); (try clear ho0); obtain ⟨Ao29, co29, eo29⟩ := Kd.R_slice HO532.out; subst eo29) | ((with_reducible refine gate_builtin (b := .append) (xs := #[.tmp 29, .tmp 32]) rfl ?_); at_builtin; refine Kd.Q_append_rows (Kd.int .i64) (w0 := w) w.heap.size rfl (.tmp 29) (.tmp 32) 34 3 (.int .i64 0) 8 rfl Try.underlying34 info3 rfl (by decide) (by omega) (.slice A23 y525.length c23) y525 t530 _ _ _ (fun k_ => some k_ ≠ (.slice Ao29 t530.length co29 : Value).ownBlock) (fun _ => False) rfl rfl ?aO ?aR (fun _ _ h => h) (fun _ h => h.elim) ?aF ?aB ?aS ?aL ?_; (case aR => repeat (first | exact (Kd.R_reads' HO532.out).2.2 | (with_reducible refine Kd.C_alloc ?_ _) | (with_reducible refine Kd.C_drewN ?_ _) | (with_reducible refine Kd.C_drew ?_))); (case aB => exact atgB_); (case aF => exact (fun k_ hk => Kd.fresh' (Kd.R_lt att20_0_22) k_ hk)); (case aO => exact (by (with_reducible repeat (first | apply Kd.Q_alloc | apply Kd.Q_drewN | apply Kd.Q_drew)); exact Kd.Q_mono HO527.out (fun _ hk => hk.2))); (case aS => exact (below_size atgB_)); (case aL => have := LMc21.out; omega); intro v534 w28 ho hb hg hat; rw [← Ny533.out] at ho; refine swap4_ (Kd.R_over' att20_0_7 (Kd.Q_typed att20_0_13) (by decide) hg) (Kd.R_after (ok := (fun _ => True)) att20_0_22 hg hat) (hb) (ho) ?_; clear HO_5 HO532 HB HO527; intro HO_5 HO532 HB HO535; clear ho hb hg hat))
            go_roundg k1
            case measure => have := HK1.out; omega
            case rel => exact ⟨(y529), (y533), H', ⟨atgK_⟩, ⟨att20_0_7⟩, ⟨by (with_reducible repeat (first | apply Kd.Q_alloc | apply Kd.Q_drewN | apply Kd.Q_drew)); exact Kd.Q_mono HO535.out (fun _ hk => trivial)⟩, ⟨atgB_⟩⟩
           ·rw [if_neg c21] at H
            exact absurd H (by simp)
         ·rw [if_neg c13] at H
          exact absurd H (by simp)
        ·rw [if_neg c12] at H
         exact absurd H (by simp)
       ·rw [if_neg c11] at H
        exact absurd H (by simp)
      ·rw [if_neg c10] at H
       exact absurd H (by simp)
     ·rw [if_neg c9] at H
      have c9b0 := decide_eq_false c9
      have c9b1 : decide (0 < x6_1.length) = false := decide_eq_false (by omega)
      clear c9
      obtain rfl := Option.some.inj H
      obtain ⟨Ao30, co30, eo30, _⟩ := Kd.Q_slice HO_6.out
      subst eo30
      go_wp2
      go_ret
      exact ⟨_, retT_, by exact toR_ (HO_5.out), atgB_⟩
  ·rw [if_neg c4] at H
   exact absurd H (by simp)
 ·rw [if_neg c3] at H
  exact absurd H (by simp)

/-! ### impl_DeadAt: function 41 -/
def impl_DeadAt.l0 : Nat → List (S63) → List Int → List (List Int) → List Bool → List (S63) → Int → Int → Option (List Int)
 | 0, _, _, _, _, _, _, _ => none
 | k + 1, x0, x3, x4, x5, x19, x20, x21 => if x21 < x20 then (if 0 ≤ x21 then (if x21 < (x19.length : Int) then ((impl_within.f ((rd_T63 x19 x21).f0) 1 4).bind fun t551 => (if t551 = true then (if x21 < (x5.length : Int) then (if rdOf false x5 x21 = true then (if (wrap64 (x21 + 1)) < (x0.length : Int) then (if 0 ≤ (wrap64 (x21 + 1)) then (if (wrap64 (x21 + 1)) < (x4.length : Int) then ((slices_Contains_int_int.f k (rd_L7 x4 (wrap64 (x21 + 1))) ((rd_T63 x19 x21).f1)).bind fun t554 => (if t554 = true then (impl_DeadAt.l0 k x0 x3 x4 x5 x19 x20 (wrap64 (x21 + 1))) else (if x3.length < 17592186044416 then (impl_DeadAt.l0 k x0 (x3 ++ [x21]) x4 x5 x19 x20 (wrap64 (x21 + 1))) else (none)))) else (none)) else (none)) else (impl_DeadAt.l0 k x0 x3 x4 x5 x19 x20 (wrap64 (x21 + 1)))) else (impl_DeadAt.l0 k x0 x3 x4 x5 x19 x20 (wrap64 (x21 + 1)))) else (none)) else (impl_DeadAt.l0 k x0 x3 x4 x5 x19 x20 (wrap64 (x21 + 1))))) else (none)) else (none)) else (some x3)
def impl_DeadAt.f (k : Nat) (l0 : List (S63)) : Option (List Int) := (some (([] : List Int) : List Int)).bind fun y536 => ((impl_BodyOk.f k l0 3).bind fun t539 => (if t539 = true then ((impl_LiveAt.f k l0).bind fun t540 => ((impl_reached.f k l0 (([0] : List Int))).bind fun t546 => (impl_DeadAt.l0 k l0 y536 t540 t546 l0 (l0.length : Int) 0))) else (some y536)))
theorem impl_DeadAt.mono_l : ∀ k, (∀ y0 y1 y2 y3 y4 y5 y6, LeO (impl_DeadAt.l0 k y0 y1 y2 y3 y4 y5 y6) (impl_DeadAt.l0 (k + 1) y0 y1 y2 y3 y4 y5 y6))
 | 0 => fun _ _ _ _ _ _ _ r h => by simp [impl_DeadAt.l0] at h
 | k + 1 => by
  have ih0 := impl_DeadAt.mono_l k
  ·intro y0 y1 y2 y3 y4 y5 y6
   unfold impl_DeadAt.l0
   repeat' (with_reducible first | exact ih0 .. | exact impl_BodyOk.mono .. | exact impl_LiveAt.mono _ _ | exact impl_reached.mono .. | exact slices_Contains_int_int.mono .. | exact LeO.refl _ | exact LeO.none _ | refine LeO.ite ?_ ?_ | refine LeO.bind ?_ (fun _ => ?_))
theorem impl_DeadAt.mono : ∀ a0 k, LeO (impl_DeadAt.f k a0) (impl_DeadAt.f (k + 1) a0) := by
 intro a0 k
 have ih0 := impl_DeadAt.mono_l k
 unfold impl_DeadAt.f
 repeat' (with_reducible first | exact ih0 .. | exact impl_BodyOk.mono .. | exact impl_LiveAt.mono _ _ | exact impl_reached.mono .. | exact slices_Contains_int_int.mono .. | exact LeO.refl _ | exact LeO.none _ | refine LeO.ite ?_ ?_ | refine LeO.bind ?_ (fun _ => ?_))
set_option maxHeartbeats 80000000 in
set_option maxRecDepth 100000 in
theorem impl_DeadAt.calls (k : Nat) (A0 : Option Addr) (c0 : Nat) (l0 : List (S63)) (r : List Int) (w : World) (hr0 : Kd.C k63 w A0 l0.length l0) (hc0 : l0.length ≤ c0) (h : impl_DeadAt.f k l0 = some r) :
  Calls Try.prog 41 #[.slice A0 l0.length c0] w fun e w' => ∃ v0_ : Value, e = .returned (v0_) ∧ Kd.R (Kd.int .i64) 3 w' w.heap.size (fun _ => True) v0_ r ∧ Below w.heap.size w w' := by
 have hu63 := Try.underlying63
 have HR0 := Aside0.mk hr0
 have HC0 := Aside0.mk hc0
 clear hr0 hc0
 have HB := Aside0.mk (Below.refl w.heap.size w)
 have H : ((some (([] : List Int) : List Int)).bind fun y536 => ((impl_BodyOk.f k l0 3).bind fun t539 => (if t539 = true then ((impl_LiveAt.f k l0).bind fun t540 => ((impl_reached.f k l0 (([0] : List Int))).bind fun t546 => (impl_DeadAt.l0 k l0 y536 t540 t546 l0 (l0.length : Int) 0))) else (some y536)))) = some r := h
 clear h
 obtain ⟨y536, hy536⟩ : ∃ y_ : List Int, y_ = (([] : List Int)) := ⟨_, rfl⟩
 replace H := yy_ H hy536
 have Ny536 := Aside0.mk hy536
 clear hy536
 replace H := Option.bind_eq_some_iff.mp H
 obtain ⟨t539, A20, H⟩ := H
 (try dsimp only at H)
 have A2 := Aside0.mk A20
 clear A20
 by_cases c3 : t539 = true
 ·subst c3
  rw [if_pos rfl] at H
  replace H := Option.bind_eq_some_iff.mp H
  obtain ⟨t540, A40, H⟩ := H
  (try dsimp only at H)
  have A4 := Aside0.mk A40
  clear A40
  obtain ⟨y543, hy543⟩ : ∃ y_ : List Int, y_ = (([0] : List Int)) := ⟨_, rfl⟩
  replace H : ((impl_reached.f k l0 y543).bind fun t546 => (impl_DeadAt.l0 k l0 y536 t540 t546 l0 (l0.length : Int) 0)) = some r := by rw [hy543]; exact H
  have Ny543 := Aside0.mk hy543
  clear hy543
  replace H := Option.bind_eq_some_iff.mp H
  obtain ⟨t546, A50, H⟩ := H
  (try dsimp only at H)
  have A5 := Aside0.mk A50
  clear A50
  have H' := Aside0.mk H
  clear H
  go_enter Try.func41, Try.ntmps41
  have tk0_ : True := trivial
  repeat ((first | clear tk0_ | go_quiet (fail)); try go_wp2_with (first | ((with_reducible refine gate_dst (N := 9) rfl ?_); (try (refine gate_guard (by rfl) ?_; dsimp only)); refine Kd.R_lit (Kd.int .i64) _ 3 ?hg (N := 9) ?hd (xs := ([] : List Int)) (inner := []) (ok := fun _ => True) (okp := fun _ => True) ?hr ?hp (fun _ hk => hk) trivial (Below.refl _ _) (Nat.le_refl _) (by simp) ?_; (case hd => rfl); (case hg => rfl); (case hr => first | (go_simp; done) | (go_simp; rfl)); (case hp => exact (Reps.none _ _)); intro v537 w6 ho7 hb hg_ hnew_; clear hg_ hnew_; (first | rw [← Ny536.out] at ho7 | (simp only [Int.reduceToNat] at ho7; rw [← Ny536.out] at ho7)); refine swap2_ (Kd.R_lower ho7 (below_size atgB_)) (below_step atgB_ hb) ?_; clear HB; intro HO538 HB; clear hb ho7) | (go_at_call 34; (with_reducible refine (impl_BodyOk.calls k _ _ l0 3 true _ ?side1 ?side2 A2.out).mono ?_); (case side1 => repeat (first | exact (Kd.C_below HR0.out HB.out) | (with_reducible refine Kd.C_alloc ?_ _) | (with_reducible refine Kd.C_drewN ?_ _) | (with_reducible refine Kd.C_drew ?_))); (case side2 => exact HC0.out); rintro e w8 ⟨rfl, hb⟩; refine swap2_ (Kd.R_below att20_0_9 hb) (below_step atgB_ hb) ?_; clear HO538 HB; intro HO538 HB; (try clear hb); (try clear hb2); (try clear hk); (try clear hi)) | (go_at_call 36; (with_reducible refine (impl_LiveAt.calls k _ _ l0 t540 _ ?side1 ?side2 A4.out).mono ?_); (case side1 => repeat (first | exact (Kd.C_below HR0.out HB.out) | (with_reducible refine Kd.C_alloc ?_ _) | (with_reducible refine Kd.C_drewN ?_ _) | (with_reducible refine Kd.C_drew ?_))); (case side2 => exact HC0.out); rintro e w9 ⟨v541, rfl, ho0, hb⟩; refine swap3_ (Kd.R_below att20_0_9 hb) (Kd.S_lower (Kd.S_new' ho0 (Kd.R_lt att20_0_9)) (below_size atgB_)) (below_step atgB_ hb) ?_; clear HO538 HB; intro HO538 HO542 HB; (try clear hb); (try clear hb2); (try clear hk); (try clear hi); (try clear ho0)) | ((with_reducible refine gate_dst (N := 17) rfl ?_); (try (refine gate_guard (by rfl) ?_; dsimp only)); refine Kd.R_lit (Kd.int .i64) _ 3 ?hg (N := 17) ?hd (xs := ([0] : List Int)) (inner := [.int .i64 0]) (ok := fun _ => True) (okp := fun _ => True) ?hr ?hp (fun _ hk => hk) trivial (Below.refl _ _) (Nat.le_refl _) (by simp) ?_; (case hd => rfl); (case hg => rfl); (case hr => first | (go_simp; done) | (go_simp; rfl)); (case hp => exact (Reps.one (show Kd.M (Kd.int .i64) _ _ _ 0 [.int .i64 0] from rfl) (Reps.none _ _))); intro v544 w10 ho11 hb hg_ hnew_; clear hg_ hnew_; (first | rw [← Ny543.out] at ho11 | (simp only [Int.reduceToNat] at ho11; rw [← Ny543.out] at ho11)); refine swap4_ (Kd.R_elder' att20_0_9 (Kd.R_base ho11) hb) (Kd.S_elder' att20_0_14 (Kd.R_base ho11) hb) (Kd.R_lower (Kd.R_new' ho11 (Kd.R_lt att20_0_9)) (below_size atgB_)) (below_step atgB_ hb) ?_; clear HO538 HO542 HB; intro HO538 HO542 HO545 HB; clear hb ho11; obtain ⟨Ao12, co12, eo12⟩ := Kd.R_slice HO545.out; subst eo12) | (go_at_call 68; (with_reducible refine (impl_reached.calls k _ _ l0 _ _ y543 t546 _ ?side1 ?side2 ?side3 ?side4 A5.out).mono ?_); (case side1 => repeat (first | exact (Kd.C_below HR0.out HB.out) | (with_reducible refine Kd.C_alloc ?_ _) | (with_reducible refine Kd.C_drewN ?_ _) | (with_reducible refine Kd.C_drew ?_))); (case side2 => exact HC0.out); (case side3 => repeat (first | exact (Kd.R_reads' HO545.out).2.2 | (with_reducible refine Kd.C_alloc ?_ _) | (with_reducible refine Kd.C_drewN ?_ _) | (with_reducible refine Kd.C_drew ?_))); (case side4 => exact (Kd.R_reads' HO545.out).2.1); rintro e w13 ⟨v547, rfl, ho0, hb⟩; refine swap5_ (Kd.R_below att20_0_9 hb) (Kd.S_below att20_0_14 hb) (Kd.R_below att20_0_21 hb) (Kd.R_lower ho0 (below_size atgB_)) (below_step atgB_ hb) ?_; clear HO538 HO542 HO545 HB; intro HO538 HO542 HO545 HO548 HB; (try clear hb); (try clear hb2); (try clear hk); (try clear hi); (try clear ho0))))
  go_loopg [3, 21] k (fun kq v3 v21 w' => ∃ (x3_1 : List Int) (x21_1 : Int), v21 = .int .i64 x21_1 ∧ Aside0 (impl_DeadAt.l0 kq l0 x3_1 t540 t546 l0 (l0.length : Int) x21_1 = some r) ∧ Aside0 (kq ≤ k) ∧ Aside0 (Kd.R (Kd.int .i64) 3 w' w.heap.size (fun _ => True) v3 x3_1) ∧ Aside0 (Kd.S (Kd.slice 3 (Kd.int .i64)) 34 w' w.heap.size (fun k_ => some k_ ≠ (v3 : Value).ownBlock) v541 t540) ∧ Aside0 (Kd.R Kd.bool 4 w' w.heap.size (fun _ => True) v547 t546) ∧ Aside0 (Below w.heap.size w w'))
  case atStart => exact ⟨(y536), (0), atgR_, H', ⟨Nat.le_refl _⟩, ⟨by exact toR_ (Kd.R_mono HO538.out (fun _ hk => trivial))⟩, ⟨by exact toS_ (Kd.S_mono HO542.out (fun _ hk => hk.1.2))⟩, ⟨by exact toR_ (HO548.out)⟩, ⟨atgB_⟩⟩
  case round =>
   clear H'
   try clear p2
   try clear c3
   try clear c4
   obtain ⟨x3_1, x21_1, rfl, HA, HK1, HO_3, HO_4, HO_5, HB⟩ := hrel
   cases gk with
   | zero => exact absurd HA.out (by simp [impl_DeadAt.l0])
   | succ k1 =>
    have H := HA.out
    clear HA
    simp only [impl_DeadAt.l0] at H
    by_cases c14 : x21_1 < (l0.length : Int)
    ·rw [if_pos c14] at H
     have c14b0 := decide_eq_true c14
     clear c14
     by_cases c15 : 0 ≤ x21_1
     ·rw [if_pos c15] at H
      have c15b0 := decide_eq_true c15
      clear c15
      by_cases c16 : x21_1 < (l0.length : Int)
      ·rw [if_pos c16] at H
       have c16b0 := decide_eq_true c16
       clear c16
       replace H := Option.bind_eq_some_iff.mp H
       obtain ⟨t551, A170, H⟩ := H
       (try dsimp only at H)
       have A17 := Aside0.mk A170
       clear A170
       by_cases c18 : t551 = true
       ·subst c18
        rw [if_pos rfl] at H
        by_cases c19 : x21_1 < (t546.length : Int)
        ·rw [if_pos c19] at H
         have c19b0 := decide_eq_true c19
         clear c19
         obtain ⟨bq20, hbq20⟩ : ∃ b_ : Bool, b_ = (rdOf false t546 x21_1) := ⟨_, rfl⟩
         replace H : (if bq20 = true then (if (wrap64 (x21_1 + 1)) < (l0.length : Int) then (if 0 ≤ (wrap64 (x21_1 + 1)) then (if (wrap64 (x21_1 + 1)) < (t540.length : Int) then ((slices_Contains_int_int.f k1 (rd_L7 t540 (wrap64 (x21_1 + 1))) ((rd_T63 l0 x21_1).f1)).bind fun t554 => (if t554 = true then (impl_DeadAt.l0 k1 l0 x3_1 t540 t546 l0 (l0.length : Int) (wrap64 (x21_1 + 1))) else (if x3_1.length < 17592186044416 then (impl_DeadAt.l0 k1 l0 (x3_1 ++ [x21_1]) t540 t546 l0 (l0.length : Int) (wrap64 (x21_1 + 1))) else (none)))) else (none)) else (none)) else (impl_DeadAt.l0 k1 l0 x3_1 t540 t546 l0 (l0.length : Int) (wrap64 (x21_1 + 1)))) else (impl_DeadAt.l0 k1 l0 x3_1 t540 t546 l0 (l0.length : Int) (wrap64 (x21_1 + 1)))) = some r := by rw [← hbq20] at H; exact H
         have Nbq20 := Aside0.mk hbq20
         clear hbq20
         by_cases c21 : bq20 = true
         ·subst c21
          rw [if_pos rfl] at H
          by_cases c22 : (wrap64 (x21_1 + 1)) < (l0.length : Int)
          ·rw [if_pos c22] at H
           have c22b0 := decide_eq_true c22
           clear c22
           obtain ⟨ji23, hji23⟩ : ∃ j_ : Int, (wrap64 (x21_1 + 1)) = j_ := ⟨_, rfl⟩
           replace H : (if 0 ≤ (ji23) then (if (ji23) < (t540.length : Int) then ((slices_Contains_int_int.f k1 (rd_L7 t540 (ji23)) ((rd_T63 l0 x21_1).f1)).bind fun t554 => (if t554 = true then (impl_DeadAt.l0 k1 l0 x3_1 t540 t546 l0 (l0.length : Int) ji23) else (if x3_1.length < 17592186044416 then (impl_DeadAt.l0 k1 l0 (x3_1 ++ [x21_1]) t540 t546 l0 (l0.length : Int) ji23) else (none)))) else (none)) else (none)) = some r := by first | (rw [hji23] at H; exact H) | (simp only [hji23] at H ⊢; exact H)
           (try rw [hji23] at c22b0)
           (try rw [hji23] at A17)
           have hji23w : (IntKind.i64.wrap (x21_1 + 1)) = ji23 := (i64_w _).trans hji23
           by_cases c24 : 0 ≤ (ji23)
           ·rw [if_pos c24] at H
            have c24b0 := decide_eq_true c24
            clear c24
            by_cases c25 : (ji23) < (t540.length : Int)
            ·rw [if_pos c25] at H
             have c25b0 := decide_eq_true c25
             clear c25
             replace H := Option.bind_eq_some_iff.mp H
             obtain ⟨t554, A260, H⟩ := H
             (try dsimp only at H)
             have A26 := Aside0.mk A260
             clear A260
             by_cases c27 : t554 = true
             ·subst c27
              rw [if_pos rfl] at H
              have H' := Aside0.mk H
              clear H
              have p549 : 0 ≤ (x21_1 : Int) := of_decide_eq_true atgA_
              have q549 : x21_1 < (l0.length : Int) := of_decide_eq_true atgA_
              obtain ⟨ad549, e549, hx549_0, hx549_1, hx549_2, hx549_3, hx549_4⟩ := at5B_ HB (at_T63 HR0.out x21_1 p549 q549)
              cases e549
              replace p549 := eq_true p549
              replace q549 := eq_true q549
              have tk0_ : True := trivial
              repeat ((first | clear tk0_ | go_quiet (first | (go_at_call 79; (with_reducible refine (impl_within.calls ((rd_T63 l0 x21_1).f0) 1 4 true _ A17.out).mono ?_); rintro e w' ⟨rfl, ⟨nd, rfl⟩⟩; (try first | exact ⟨rfl, _, World.drewN_drewN _ _ _⟩ | exact ⟨rfl, _, Eq.trans (World.drewN_drewN _ _ _) (congrArg (World.drewN _) (Nat.add_assoc _ _ _))⟩); obtain ⟨Ao32, co32, eo32⟩ := Kd.R_slice HO_5.out; subst eo32; have p552 : 0 ≤ (x21_1 : Int) := of_decide_eq_true atgA_; have q552 : x21_1 < (t546.length : Int) := of_decide_eq_true atgA_; obtain ⟨ad552, e552, hx552_0⟩ := Kd.at_bool (Kd.R_reads' HO_5.out).2.2 x21_1 p552 q552; (try rw [← Nbq20.out] at hx552_0); cases e552; replace p552 := eq_true p552; replace q552 := eq_true q552; obtain ⟨Ao33, co33, eo33⟩ := Kd.S_slice HO_4.out; subst eo33; have p553 : 0 ≤ ((ji23) : Int) := of_decide_eq_true atgA_; have q553 : (ji23) < (t540.length : Int) := of_decide_eq_true atgA_; obtain ⟨ad553, A553_0, c553_0, e553, hx553_0, HC553_0, HR553_0, HL553_0⟩ := rowS_ HO_4.out (rd_L7 t540 (ji23)) (ji23) rfl p553 att20_1_0; cases e553; replace p553 := eq_true p553; replace q553 := eq_true q553) | (go_at_call 84; (with_reducible refine (slices_Contains_int_int.calls k1 _ _ (rd_L7 t540 (ji23)) ((rd_T63 l0 x21_1).f1) true _ ?side1 ?side2 A26.out).mono ?_); (case side1 => repeat (first | exact att20_0_11 | (with_reducible refine Kd.C_alloc ?_ _) | (with_reducible refine Kd.C_drewN ?_ _) | (with_reducible refine Kd.C_drew ?_))); (case side2 => exact HC553_0.out); rintro e w' ⟨rfl, ⟨nd, rfl⟩⟩; (try first | exact ⟨rfl, _, World.drewN_drewN _ _ _⟩ | exact ⟨rfl, _, Eq.trans (World.drewN_drewN _ _ _) (congrArg (World.drewN _) (Nat.add_assoc _ _ _))⟩)))); try go_wp2_with (first | ((with_reducible refine gate_dst (N := 7) rfl ?_); (try (refine gate_guard (by rfl) ?_; dsimp only)); refine box_event ?hg (N := 7) ?hd (cs := #[.int .i64 0, .int .i64 0, .int .i64 0, .int .i64 0, .int .i64 0]) (t := 63) ?hr ?_; (case hd => rfl); (case hg => rfl); (case hr => first | (go_simp; done) | (go_simp; rfl)); intro gb550 hg w28 hbox hb; refine swap7_ (Kd.R_below att20_0_8 hb) (Kd.S_below att20_0_10 hb) (Kd.R_below att20_0_7 hb) (below_step atgB_ hb) (hbox) ((by rw [hg]; exact (below_size atgB_) : w.heap.size ≤ gb550)) ((by rw [hg]; exact (below_size atgB_) : w.heap.size ≤ gb550)) ?_; clear HO_3 HO_4 HO_5 HB; intro HO_3 HO_4 HO_5 HB BK550 GW550 GE550; clear hb hbox hg; obtain ⟨hcz29_0, hcz29_1, hcz29_2, hcz29_3, hcz29_4, hfz29_0, hfz29_1, hfz29_2, hfz29_3, hfz29_4⟩ := blkB5_ BK550) | ((with_reducible refine gate_store (t := 63) (p := 7) rfl ?_); (try (rw [drewN_self w28]; generalize hq_ : World.drewN w28 _ = w28; refine swap5_ (Kd.R_at hq_ HO_3.out) (Kd.S_at hq_ HO_4.out) (Kd.R_at hq_ HO_5.out) (blk_at hq_ BK550.out) (below_at hq_ HB.out) ?_; clear hq_ HO_3 HO_4 HO_5 BK550 HB; intro HO_3 HO_4 HO_5 BK550 HB)); refine store_event (t := 63) (p := 7) (v := ?vo_w30) (w1 := (((((w28.setCell ⟨gb550, 0, none⟩ (.int .i64 ((rd_T63 l0 x21_1).f0))).setCell ⟨gb550, 1, none⟩ (.int .i64 ((rd_T63 l0 x21_1).f1))).setCell ⟨gb550, 2, none⟩ (.int .i64 ((rd_T63 l0 x21_1).f2))).setCell ⟨gb550, 3, none⟩ (.int .i64 ((rd_T63 l0 x21_1).f3))).setCell ⟨gb550, 4, none⟩ (.int .i64 ((rd_T63 l0 x21_1).f4)))) ?hg ?ho ?hn ?hr ?_; (case ho => rfl); (case hg => rfl); (case hn => rfl); (case hr => first | (go_simp; done) | (go_simp; rfl)); intro w30 hw; refine swap5_ (show (Kd.R (Kd.int .i64) 3 w30 w.heap.size (fun _ => True) u3 x3_1) from (by rw [hw]; exact att20_0_3)) (show (Kd.S (Kd.slice 3 (Kd.int .i64)) 34 w30 w.heap.size (fun k_ => some k_ ≠ (u3 : Value).ownBlock) v541 t540) from (by rw [hw]; exact att20_0_4)) (show (Kd.R Kd.bool 4 w30 w.heap.size (fun _ => True) v547 t546) from (by rw [hw]; exact att20_0_2)) (show (w30.heap[gb550]? = some (.cells #[.int .i64 ((rd_T63 l0 x21_1).f0), .int .i64 ((rd_T63 l0 x21_1).f1), .int .i64 ((rd_T63 l0 x21_1).f2), .int .i64 ((rd_T63 l0 x21_1).f3), .int .i64 ((rd_T63 l0 x21_1).f4)] 63 (0, 0))) from att20_0_1) (show (Below w.heap.size w w30) from (by rw [hw]; exact att20_0_6)) ?_; clear hw HO_3 HO_4 HO_5 BK550 HB; intro HO_3 HO_4 HO_5 BK550 HB; obtain ⟨hcz31_0, hcz31_1, hcz31_2, hcz31_3, hcz31_4, hfz31_0, hfz31_1, hfz31_2, hfz31_3, hfz31_4⟩ := blkB5_ BK550) | (go_at_call 79; (with_reducible refine (impl_within.calls ((rd_T63 l0 x21_1).f0) 1 4 true _ A17.out).mono ?_); rintro e w' ⟨rfl, ⟨nd, rfl⟩⟩; (try first | exact ⟨rfl, _, World.drewN_drewN _ _ _⟩ | exact ⟨rfl, _, Eq.trans (World.drewN_drewN _ _ _) (congrArg (World.drewN _) (Nat.add_assoc _ _ _))⟩); obtain ⟨Ao32, co32, eo32⟩ := Kd.R_slice HO_5.out; subst eo32; have p552 : 0 ≤ (x21_1 : Int) := of_decide_eq_true atgA_; have q552 : x21_1 < (t546.length : Int) := of_decide_eq_true atgA_; obtain ⟨ad552, e552, hx552_0⟩ := Kd.at_bool (Kd.R_reads' HO_5.out).2.2 x21_1 p552 q552; (try rw [← Nbq20.out] at hx552_0); cases e552; replace p552 := eq_true p552; replace q552 := eq_true q552; obtain ⟨Ao33, co33, eo33⟩ := Kd.S_slice HO_4.out; subst eo33; have p553 : 0 ≤ ((ji23) : Int) := of_decide_eq_true atgA_; have q553 : (ji23) < (t540.length : Int) := of_decide_eq_true atgA_; obtain ⟨ad553, A553_0, c553_0, e553, hx553_0, HC553_0, HR553_0, HL553_0⟩ := rowS_ HO_4.out (rd_L7 t540 (ji23)) (ji23) rfl p553 att20_1_0; cases e553; replace p553 := eq_true p553; replace q553 := eq_true q553) | (go_at_call 84; (with_reducible refine (slices_Contains_int_int.calls k1 _ _ (rd_L7 t540 (ji23)) ((rd_T63 l0 x21_1).f1) true _ ?side1 ?side2 A26.out).mono ?_); (case side1 => repeat (first | exact att20_0_11 | (with_reducible refine Kd.C_alloc ?_ _) | (with_reducible refine Kd.C_drewN ?_ _) | (with_reducible refine Kd.C_drew ?_))); (case side2 => exact HC553_0.out); rintro e w' ⟨rfl, ⟨nd, rfl⟩⟩; (try first | exact ⟨rfl, _, World.drewN_drewN _ _ _⟩ | exact ⟨rfl, _, Eq.trans (World.drewN_drewN _ _ _) (congrArg (World.drewN _) (Nat.add_assoc _ _ _))⟩))))
              go_roundg k1
              case measure => have := HK1.out; omega
              case rel => exact ⟨(x3_1), (ji23), att20_0_25, H', ⟨atgK_⟩, ⟨att20_0_8⟩, ⟨att20_0_10⟩, ⟨att20_0_7⟩, ⟨att20_0_6⟩⟩
             ·replace c27 := Bool.eq_false_iff.mpr c27
              subst c27
              rw [if_neg (show ¬ (false = true) by decide)] at H
              by_cases c34 : x3_1.length < 17592186044416
              ·rw [if_pos c34] at H
               have LMc34 := Aside0.mk c34
               clear c34
               obtain ⟨y555, hy555⟩ : ∃ y_ : List Int, y_ = (x3_1 ++ [x21_1]) := ⟨_, rfl⟩
               replace H : (impl_DeadAt.l0 k1 l0 y555 t540 t546 l0 (l0.length : Int) ji23) = some r := by rw [hy555]; exact H
               have Ny555 := Aside0.mk hy555
               clear hy555
               have H' := Aside0.mk H
               clear H
               have p549 : 0 ≤ (x21_1 : Int) := of_decide_eq_true atgA_
               have q549 : x21_1 < (l0.length : Int) := of_decide_eq_true atgA_
               obtain ⟨ad549, e549, hx549_0, hx549_1, hx549_2, hx549_3, hx549_4⟩ := at5B_ HB (at_T63 HR0.out x21_1 p549 q549)
               cases e549
               replace p549 := eq_true p549
               replace q549 := eq_true q549
               have tk0_ : True := trivial
               repeat ((first | clear tk0_ | go_quiet (first | (go_at_call 79; (with_reducible refine (impl_within.calls ((rd_T63 l0 x21_1).f0) 1 4 true _ A17.out).mono ?_); rintro e w' ⟨rfl, ⟨nd, rfl⟩⟩; (try first | exact ⟨rfl, _, World.drewN_drewN _ _ _⟩ | exact ⟨rfl, _, Eq.trans (World.drewN_drewN _ _ _) (congrArg (World.drewN _) (Nat.add_assoc _ _ _))⟩); obtain ⟨Ao39, co39, eo39⟩ := Kd.R_slice HO_5.out; subst eo39; have p552 : 0 ≤ (x21_1 : Int) := of_decide_eq_true atgA_; have q552 : x21_1 < (t546.length : Int) := of_decide_eq_true atgA_; obtain ⟨ad552, e552, hx552_0⟩ := Kd.at_bool (Kd.R_reads' HO_5.out).2.2 x21_1 p552 q552; (try rw [← Nbq20.out] at hx552_0); cases e552; replace p552 := eq_true p552; replace q552 := eq_true q552; obtain ⟨Ao40, co40, eo40⟩ := Kd.S_slice HO_4.out; subst eo40; have p553 : 0 ≤ ((ji23) : Int) := of_decide_eq_true atgA_; have q553 : (ji23) < (t540.length : Int) := of_decide_eq_true atgA_; obtain ⟨ad553, A553_0, c553_0, e553, hx553_0, HC553_0, HR553_0, HL553_0⟩ := rowS_ HO_4.out (rd_L7 t540 (ji23)) (ji23) rfl p553 att20_1_0; cases e553; replace p553 := eq_true p553; replace q553 := eq_true q553) | (go_at_call 84; (with_reducible refine (slices_Contains_int_int.calls k1 _ _ (rd_L7 t540 (ji23)) ((rd_T63 l0 x21_1).f1) false _ ?side1 ?side2 A26.out).mono ?_); (case side1 => repeat (first | exact att20_0_11 | (with_reducible refine Kd.C_alloc ?_ _) | (with_reducible refine Kd.C_drewN ?_ _) | (with_reducible refine Kd.C_drew ?_))); (case side2 => exact HC553_0.out); rintro e w' ⟨rfl, ⟨nd, rfl⟩⟩; (try first | exact ⟨rfl, _, World.drewN_drewN _ _ _⟩ | exact ⟨rfl, _, Eq.trans (World.drewN_drewN _ _ _) (congrArg (World.drewN _) (Nat.add_assoc _ _ _))⟩)))); try go_wp2_with (first | ((with_reducible refine gate_dst (N := 7) rfl ?_); (try (refine gate_guard (by rfl) ?_; dsimp only)); refine box_event ?hg (N := 7) ?hd (cs := #[.int .i64 0, .int .i64 0, .int .i64 0, .int .i64 0, .int .i64 0]) (t := 63) ?hr ?_; (case hd => rfl); (case hg => rfl); (case hr => first | (go_simp; done) | (go_simp; rfl)); intro gb550 hg w35 hbox hb; refine swap7_ (Kd.R_below att20_0_8 hb) (Kd.S_below att20_0_10 hb) (Kd.R_below att20_0_7 hb) (below_step atgB_ hb) (hbox) ((by rw [hg]; exact (below_size atgB_) : w.heap.size ≤ gb550)) ((by rw [hg]; exact (below_size atgB_) : w.heap.size ≤ gb550)) ?_; clear HO_3 HO_4 HO_5 HB; intro HO_3 HO_4 HO_5 HB BK550 GW550 GE550; clear hb hbox hg; obtain ⟨hcz36_0, hcz36_1, hcz36_2, hcz36_3, hcz36_4, hfz36_0, hfz36_1, hfz36_2, hfz36_3, hfz36_4⟩ := blkB5_ BK550) | ((with_reducible refine gate_store (t := 63) (p := 7) rfl ?_); (try (rw [drewN_self w35]; generalize hq_ : World.drewN w35 _ = w35; refine swap5_ (Kd.R_at hq_ HO_3.out) (Kd.S_at hq_ HO_4.out) (Kd.R_at hq_ HO_5.out) (blk_at hq_ BK550.out) (below_at hq_ HB.out) ?_; clear hq_ HO_3 HO_4 HO_5 BK550 HB; intro HO_3 HO_4 HO_5 BK550 HB)); refine store_event (t := 63) (p := 7) (v := ?vo_w37) (w1 := (((((w35.setCell ⟨gb550, 0, none⟩ (.int .i64 ((rd_T63 l0 x21_1).f0))).setCell ⟨gb550, 1, none⟩ (.int .i64 ((rd_T63 l0 x21_1).f1))).setCell ⟨gb550, 2, none⟩ (.int .i64 ((rd_T63 l0 x21_1).f2))).setCell ⟨gb550, 3, none⟩ (.int .i64 ((rd_T63 l0 x21_1).f3))).setCell ⟨gb550, 4, none⟩ (.int .i64 ((rd_T63 l0 x21_1).f4)))) ?hg ?ho ?hn ?hr ?_; (case ho => rfl); (case hg => rfl); (case hn => rfl); (case hr => first | (go_simp; done) | (go_simp; rfl)); intro w37 hw; refine swap5_ (show (Kd.R (Kd.int .i64) 3 w37 w.heap.size (fun _ => True) u3 x3_1) from (by rw [hw]; exact att20_0_3)) (show (Kd.S (Kd.slice 3 (Kd.int .i64)) 34 w37 w.heap.size (fun k_ => some k_ ≠ (u3 : Value).ownBlock) v541 t540) from (by rw [hw]; exact att20_0_4)) (show (Kd.R Kd.bool 4 w37 w.heap.size (fun _ => True) v547 t546) from (by rw [hw]; exact att20_0_2)) (show (w37.heap[gb550]? = some (.cells #[.int .i64 ((rd_T63 l0 x21_1).f0), .int .i64 ((rd_T63 l0 x21_1).f1), .int .i64 ((rd_T63 l0 x21_1).f2), .int .i64 ((rd_T63 l0 x21_1).f3), .int .i64 ((rd_T63 l0 x21_1).f4)] 63 (0, 0))) from att20_0_1) (show (Below w.heap.size w w37) from (by rw [hw]; exact att20_0_6)) ?_; clear hw HO_3 HO_4 HO_5 BK550 HB; intro HO_3 HO_4 HO_5 BK550 HB; obtain ⟨hcz38_0, hcz38_1, hcz38_2, hcz38_3, hcz38_4, hfz38_0, hfz38_1, hfz38_2, hfz38_3, hfz38_4⟩ := blkB5_ BK550) | (go_at_call 79; (with_reducible refine (impl_within.calls ((rd_T63 l0 x21_1).f0) 1 4 true _ A17.out).mono ?_); rintro e w' ⟨rfl, ⟨nd, rfl⟩⟩; (try first | exact ⟨rfl, _, World.drewN_drewN _ _ _⟩ | exact ⟨rfl, _, Eq.trans (World.drewN_drewN _ _ _) (congrArg (World.drewN _) (Nat.add_assoc _ _ _))⟩); obtain ⟨Ao39, co39, eo39⟩ := Kd.R_slice HO_5.out; subst eo39; have p552 : 0 ≤ (x21_1 : Int) := of_decide_eq_true atgA_; have q552 : x21_1 < (t546.length : Int) := of_decide_eq_true atgA_; obtain ⟨ad552, e552, hx552_0⟩ := Kd.at_bool (Kd.R_reads' HO_5.out).2.2 x21_1 p552 q552; (try rw [← Nbq20.out] at hx552_0); cases e552; replace p552 := eq_true p552; replace q552 := eq_true q552; obtain ⟨Ao40, co40, eo40⟩ := Kd.S_slice HO_4.out; subst eo40; have p553 : 0 ≤ ((ji23) : Int) := of_decide_eq_true atgA_; have q553 : (ji23) < (t540.length : Int) := of_decide_eq_true atgA_; obtain ⟨ad553, A553_0, c553_0, e553, hx553_0, HC553_0, HR553_0, HL553_0⟩ := rowS_ HO_4.out (rd_L7 t540 (ji23)) (ji23) rfl p553 att20_1_0; cases e553; replace p553 := eq_true p553; replace q553 := eq_true q553) | (go_at_call 84; (with_reducible refine (slices_Contains_int_int.calls k1 _ _ (rd_L7 t540 (ji23)) ((rd_T63 l0 x21_1).f1) false _ ?side1 ?side2 A26.out).mono ?_); (case side1 => repeat (first | exact att20_0_11 | (with_reducible refine Kd.C_alloc ?_ _) | (with_reducible refine Kd.C_drewN ?_ _) | (with_reducible refine Kd.C_drew ?_))); (case side2 => exact HC553_0.out); rintro e w' ⟨rfl, ⟨nd, rfl⟩⟩; (try first | exact ⟨rfl, _, World.drewN_drewN _ _ _⟩ | exact ⟨rfl, _, Eq.trans (World.drewN_drewN _ _ _) (congrArg (World.drewN _) (Nat.add_assoc _ _ _))⟩)) | ((with_reducible refine gate_builtin (b := .append) (xs := #[.tmp 54, .tmp 56]) rfl ?_); (try (refine gate_guard (by rfl) ?_; dsimp only)); at_builtin; refine Kd.R_append (Kd.int .i64) (w0 := w) w.heap.size rfl (.tmp 54) (.tmp 56) 34 3 (.int .i64 0) 8 rfl Try.underlying34 info3 rfl (by decide) (by omega) u3 x3_1 x21_1 [.int .i64 x21_1] (fun _ => True) (fun _ => False) rfl rfl ?aP (fun _ hk => hk.elim) ?aF ?aO ?aB ?aS ?aL ?_; (case aP => exact rfl); (case aB => exact att20_0_6); (case aF => exact (fun _ _ => trivial)); (case aO => exact att20_0_8); (case aS => exact (below_size att20_0_6)); (case aL => have := LMc34.out; omega); intro v556 w41 ho hb hg hat; rw [← Ny555.out] at ho; refine swap6_ (Kd.S_after (ok := (fun _ => True)) att20_0_17 hg hat) (Kd.R_over' att20_0_7 (Kd.R_typed att20_0_8) (by decide) hg) (blk_grown (g := gb550) (o := .cells #[.int .i64 ((rd_T63 l0 x21_1).f0), .int .i64 ((rd_T63 l0 x21_1).f1), .int .i64 ((rd_T63 l0 x21_1).f2), .int .i64 ((rd_T63 l0 x21_1).f3), .int .i64 ((rd_T63 l0 x21_1).f4)] 63 (0, 0)) att20_0_19 hg (Kd.R_ne HO_3.out BK550.out (by decide))) (Kd.R_after (ok := (fun k_ => some k_ ≠ (.slice (some ad553) t540.length co40 : Value).ownBlock)) att20_0_16 hg hat) (hb) (ho) ?_; clear HO_4 HO_5 BK550 HL553_0 HB HO_3; intro HO_4 HO_5 BK550 HL553_0 HB HO557; clear ho hb hg hat)))
               go_roundg k1
               case measure => have := HK1.out; omega
               case rel => exact ⟨(y555), (ji23), att20_0_25, H', ⟨atgK_⟩, ⟨by exact toR_ (HO557.out)⟩, ⟨by exact toS_ (Kd.S_mono HO_4.out (fun _ hk => hk.2))⟩, ⟨att20_0_7⟩, ⟨att20_0_6⟩⟩
              ·rw [if_neg c34] at H
               exact absurd H (by simp)
            ·rw [if_neg c25] at H
             exact absurd H (by simp)
           ·rw [if_neg c24] at H
            exact absurd H (by simp)
          ·rw [if_neg c22] at H
           have c22b0 := decide_eq_false c22
           clear c22
           have H' := Aside0.mk H
           clear H
           have p549 : 0 ≤ (x21_1 : Int) := of_decide_eq_true atgA_
           have q549 : x21_1 < (l0.length : Int) := of_decide_eq_true atgA_
           obtain ⟨ad549, e549, hx549_0, hx549_1, hx549_2, hx549_3, hx549_4⟩ := at5B_ HB (at_T63 HR0.out x21_1 p549 q549)
           cases e549
           replace p549 := eq_true p549
           replace q549 := eq_true q549
           have tk0_ : True := trivial
           repeat ((first | clear tk0_ | go_quiet (first | (go_at_call 79; (with_reducible refine (impl_within.calls ((rd_T63 l0 x21_1).f0) 1 4 true _ A17.out).mono ?_); rintro e w' ⟨rfl, ⟨nd, rfl⟩⟩; (try first | exact ⟨rfl, _, World.drewN_drewN _ _ _⟩ | exact ⟨rfl, _, Eq.trans (World.drewN_drewN _ _ _) (congrArg (World.drewN _) (Nat.add_assoc _ _ _))⟩); obtain ⟨Ao44, co44, eo44⟩ := Kd.R_slice HO_5.out; subst eo44; have p552 : 0 ≤ (x21_1 : Int) := of_decide_eq_true atgA_; have q552 : x21_1 < (t546.length : Int) := of_decide_eq_true atgA_; obtain ⟨ad552, e552, hx552_0⟩ := Kd.at_bool (Kd.R_reads' HO_5.out).2.2 x21_1 p552 q552; (try rw [← Nbq20.out] at hx552_0); cases e552; have hn552_0 : ad552.block ≠ gb550 := Kd.own_blk (Kd.R_ne HO_5.out BK550.out (by decide)); have hn552_1 : ad552.block ≠ gb550 := Kd.own_blk (Kd.R_ne HO_5.out BK550.out (by decide)); have hn552_2 : ad552.block ≠ gb550 := Kd.own_blk (Kd.R_ne HO_5.out BK550.out (by decide)); have hn552_3 : ad552.block ≠ gb550 := Kd.own_blk (Kd.R_ne HO_5.out BK550.out (by decide)); have hn552_4 : ad552.block ≠ gb550 := Kd.own_blk (Kd.R_ne HO_5.out BK550.out (by decide)); replace hx552_0 := (cell_far (p := ⟨gb550, 0, none⟩) (by first | (rw [add_block]; exact hn552_0) | (show (Addr.add _ _).block ≠ _; rw [add_block]; exact hn552_0) | exact hn552_0) (.int .i64 ((rd_T63 l0 x21_1).f0))).trans hx552_0; replace hx552_0 := (cell_far (p := ⟨gb550, 1, none⟩) (by first | (rw [add_block]; exact hn552_1) | (show (Addr.add _ _).block ≠ _; rw [add_block]; exact hn552_1) | exact hn552_1) (.int .i64 ((rd_T63 l0 x21_1).f1))).trans hx552_0; replace hx552_0 := (cell_far (p := ⟨gb550, 2, none⟩) (by first | (rw [add_block]; exact hn552_2) | (show (Addr.add _ _).block ≠ _; rw [add_block]; exact hn552_2) | exact hn552_2) (.int .i64 ((rd_T63 l0 x21_1).f2))).trans hx552_0; replace hx552_0 := (cell_far (p := ⟨gb550, 3, none⟩) (by first | (rw [add_block]; exact hn552_3) | (show (Addr.add _ _).block ≠ _; rw [add_block]; exact hn552_3) | exact hn552_3) (.int .i64 ((rd_T63 l0 x21_1).f3))).trans hx552_0; replace hx552_0 := (cell_far (p := ⟨gb550, 4, none⟩) (by first | (rw [add_block]; exact hn552_4) | (show (Addr.add _ _).block ≠ _; rw [add_block]; exact hn552_4) | exact hn552_4) (.int .i64 ((rd_T63 l0 x21_1).f4))).trans hx552_0; (try have hy552_0 := fun (n_ : Nat) => (show (((((((w42.drewN n_).setCell ⟨gb550, 0, none⟩ (.int .i64 ((rd_T63 l0 x21_1).f0))).setCell ⟨gb550, 1, none⟩ (.int .i64 ((rd_T63 l0 x21_1).f1))).setCell ⟨gb550, 2, none⟩ (.int .i64 ((rd_T63 l0 x21_1).f2))).setCell ⟨gb550, 3, none⟩ (.int .i64 ((rd_T63 l0 x21_1).f3))).setCell ⟨gb550, 4, none⟩ (.int .i64 ((rd_T63 l0 x21_1).f4)))).cell? _ = some _ from hx552_0)); clear hn552_0; clear hn552_1; clear hn552_2; clear hn552_3; clear hn552_4; replace p552 := eq_true p552; replace q552 := eq_true q552))); try go_wp2_with (first | ((with_reducible refine gate_dst (N := 7) rfl ?_); (try (refine gate_guard (by rfl) ?_; dsimp only)); refine box_event ?hg (N := 7) ?hd (cs := #[.int .i64 0, .int .i64 0, .int .i64 0, .int .i64 0, .int .i64 0]) (t := 63) ?hr ?_; (case hd => rfl); (case hg => rfl); (case hr => first | (go_simp; done) | (go_simp; rfl)); intro gb550 hg w42 hbox hb; refine swap7_ (Kd.R_below att20_0_8 hb) (Kd.S_below att20_0_10 hb) (Kd.R_below att20_0_7 hb) (below_step atgB_ hb) (hbox) ((by rw [hg]; exact (below_size atgB_) : w.heap.size ≤ gb550)) ((by rw [hg]; exact (below_size atgB_) : w.heap.size ≤ gb550)) ?_; clear HO_3 HO_4 HO_5 HB; intro HO_3 HO_4 HO_5 HB BK550 GW550 GE550; clear hb hbox hg; obtain ⟨hcz43_0, hcz43_1, hcz43_2, hcz43_3, hcz43_4, hfz43_0, hfz43_1, hfz43_2, hfz43_3, hfz43_4⟩ := blkB5_ BK550) | (go_at_call 79; (with_reducible refine (impl_within.calls ((rd_T63 l0 x21_1).f0) 1 4 true _ A17.out).mono ?_); rintro e w' ⟨rfl, ⟨nd, rfl⟩⟩; (try first | exact ⟨rfl, _, World.drewN_drewN _ _ _⟩ | exact ⟨rfl, _, Eq.trans (World.drewN_drewN _ _ _) (congrArg (World.drewN _) (Nat.add_assoc _ _ _))⟩); obtain ⟨Ao44, co44, eo44⟩ := Kd.R_slice HO_5.out; subst eo44; have p552 : 0 ≤ (x21_1 : Int) := of_decide_eq_true atgA_; have q552 : x21_1 < (t546.length : Int) := of_decide_eq_true atgA_; obtain ⟨ad552, e552, hx552_0⟩ := Kd.at_bool (Kd.R_reads' HO_5.out).2.2 x21_1 p552 q552; (try rw [← Nbq20.out] at hx552_0); cases e552; have hn552_0 : ad552.block ≠ gb550 := Kd.own_blk (Kd.R_ne HO_5.out BK550.out (by decide)); have hn552_1 : ad552.block ≠ gb550 := Kd.own_blk (Kd.R_ne HO_5.out BK550.out (by decide)); have hn552_2 : ad552.block ≠ gb550 := Kd.own_blk (Kd.R_ne HO_5.out BK550.out (by decide)); have hn552_3 : ad552.block ≠ gb550 := Kd.own_blk (Kd.R_ne HO_5.out BK550.out (by decide)); have hn552_4 : ad552.block ≠ gb550 := Kd.own_blk (Kd.R_ne HO_5.out BK550.out (by decide)); replace hx552_0 := (cell_far (p := ⟨gb550, 0, none⟩) (by first | (rw [add_block]; exact hn552_0) | (show (Addr.add _ _).block ≠ _; rw [add_block]; exact hn552_0) | exact hn552_0) (.int .i64 ((rd_T63 l0 x21_1).f0))).trans hx552_0; replace hx552_0 := (cell_far (p := ⟨gb550, 1, none⟩) (by first | (rw [add_block]; exact hn552_1) | (show (Addr.add _ _).block ≠ _; rw [add_block]; exact hn552_1) | exact hn552_1) (.int .i64 ((rd_T63 l0 x21_1).f1))).trans hx552_0; replace hx552_0 := (cell_far (p := ⟨gb550, 2, none⟩) (by first | (rw [add_block]; exact hn552_2) | (show (Addr.add _ _).block ≠ _; rw [add_block]; exact hn552_2) | exact hn552_2) (.int .i64 ((rd_T63 l0 x21_1).f2))).trans hx552_0; replace hx552_0 := (cell_far (p := ⟨gb550, 3, none⟩) (by first | (rw [add_block]; exact hn552_3) | (show (Addr.add _ _).block ≠ _; rw [add_block]; exact hn552_3) | exact hn552_3) (.int .i64 ((rd_T63 l0 x21_1).f3))).trans hx552_0; replace hx552_0 := (cell_far (p := ⟨gb550, 4, none⟩) (by first | (rw [add_block]; exact hn552_4) | (show (Addr.add _ _).block ≠ _; rw [add_block]; exact hn552_4) | exact hn552_4) (.int .i64 ((rd_T63 l0 x21_1).f4))).trans hx552_0; (try have hy552_0 := fun (n_ : Nat) => (show (((((((w42.drewN n_).setCell ⟨gb550, 0, none⟩ (.int .i64 ((rd_T63 l0 x21_1).f0))).setCell ⟨gb550, 1, none⟩ (.int .i64 ((rd_T63 l0 x21_1).f1))).setCell ⟨gb550, 2, none⟩ (.int .i64 ((rd_T63 l0 x21_1).f2))).setCell ⟨gb550, 3, none⟩ (.int .i64 ((rd_T63 l0 x21_1).f3))).setCell ⟨gb550, 4, none⟩ (.int .i64 ((rd_T63 l0 x21_1).f4)))).cell? _ = some _ from hx552_0)); clear hn552_0; clear hn552_1; clear hn552_2; clear hn552_3; clear hn552_4; replace p552 := eq_true p552; replace q552 := eq_true q552)))
           go_roundg k1
           case measure => have := HK1.out; omega
           case rel => exact ⟨(x3_1), (wrap64 (x21_1 + 1)), atgR_, H', ⟨atgK_⟩, ⟨att20_0_3⟩, ⟨att20_0_4⟩, ⟨att20_0_2⟩, ⟨att20_0_6⟩⟩
         ·replace c21 := Bool.eq_false_iff.mpr c21
          subst c21
          rw [if_neg (show ¬ (false = true) by decide)] at H
          have H' := Aside0.mk H
          clear H
          have p549 : 0 ≤ (x21_1 : Int) := of_decide_eq_true atgA_
          have q549 : x21_1 < (l0.length : Int) := of_decide_eq_true atgA_
          obtain ⟨ad549, e549, hx549_0, hx549_1, hx549_2, hx549_3, hx549_4⟩ := at5B_ HB (at_T63 HR0.out x21_1 p549 q549)
          cases e549
          replace p549 := eq_true p549
          replace q549 := eq_true q549
          have tk0_ : True := trivial
          repeat ((first | clear tk0_ | go_quiet (first | (go_at_call 79; (with_reducible refine (impl_within.calls ((rd_T63 l0 x21_1).f0) 1 4 true _ A17.out).mono ?_); rintro e w' ⟨rfl, ⟨nd, rfl⟩⟩; (try first | exact ⟨rfl, _, World.drewN_drewN _ _ _⟩ | exact ⟨rfl, _, Eq.trans (World.drewN_drewN _ _ _) (congrArg (World.drewN _) (Nat.add_assoc _ _ _))⟩); obtain ⟨Ao47, co47, eo47⟩ := Kd.R_slice HO_5.out; subst eo47; have p552 : 0 ≤ (x21_1 : Int) := of_decide_eq_true atgA_; have q552 : x21_1 < (t546.length : Int) := of_decide_eq_true atgA_; obtain ⟨ad552, e552, hx552_0⟩ := Kd.at_bool (Kd.R_reads' HO_5.out).2.2 x21_1 p552 q552; (try rw [← Nbq20.out] at hx552_0); cases e552; have hn552_0 : ad552.block ≠ gb550 := Kd.own_blk (Kd.R_ne HO_5.out BK550.out (by decide)); have hn552_1 : ad552.block ≠ gb550 := Kd.own_blk (Kd.R_ne HO_5.out BK550.out (by decide)); have hn552_2 : ad552.block ≠ gb550 := Kd.own_blk (Kd.R_ne HO_5.out BK550.out (by decide)); have hn552_3 : ad552.block ≠ gb550 := Kd.own_blk (Kd.R_ne HO_5.out BK550.out (by decide)); have hn552_4 : ad552.block ≠ gb550 := Kd.own_blk (Kd.R_ne HO_5.out BK550.out (by decide)); replace hx552_0 := (cell_far (p := ⟨gb550, 0, none⟩) (by first | (rw [add_block]; exact hn552_0) | (show (Addr.add _ _).block ≠ _; rw [add_block]; exact hn552_0) | exact hn552_0) (.int .i64 ((rd_T63 l0 x21_1).f0))).trans hx552_0; replace hx552_0 := (cell_far (p := ⟨gb550, 1, none⟩) (by first | (rw [add_block]; exact hn552_1) | (show (Addr.add _ _).block ≠ _; rw [add_block]; exact hn552_1) | exact hn552_1) (.int .i64 ((rd_T63 l0 x21_1).f1))).trans hx552_0; replace hx552_0 := (cell_far (p := ⟨gb550, 2, none⟩) (by first | (rw [add_block]; exact hn552_2) | (show (Addr.add _ _).block ≠ _; rw [add_block]; exact hn552_2) | exact hn552_2) (.int .i64 ((rd_T63 l0 x21_1).f2))).trans hx552_0; replace hx552_0 := (cell_far (p := ⟨gb550, 3, none⟩) (by first | (rw [add_block]; exact hn552_3) | (show (Addr.add _ _).block ≠ _; rw [add_block]; exact hn552_3) | exact hn552_3) (.int .i64 ((rd_T63 l0 x21_1).f3))).trans hx552_0; replace hx552_0 := (cell_far (p := ⟨gb550, 4, none⟩) (by first | (rw [add_block]; exact hn552_4) | (show (Addr.add _ _).block ≠ _; rw [add_block]; exact hn552_4) | exact hn552_4) (.int .i64 ((rd_T63 l0 x21_1).f4))).trans hx552_0; (try have hy552_0 := fun (n_ : Nat) => (show (((((((w45.drewN n_).setCell ⟨gb550, 0, none⟩ (.int .i64 ((rd_T63 l0 x21_1).f0))).setCell ⟨gb550, 1, none⟩ (.int .i64 ((rd_T63 l0 x21_1).f1))).setCell ⟨gb550, 2, none⟩ (.int .i64 ((rd_T63 l0 x21_1).f2))).setCell ⟨gb550, 3, none⟩ (.int .i64 ((rd_T63 l0 x21_1).f3))).setCell ⟨gb550, 4, none⟩ (.int .i64 ((rd_T63 l0 x21_1).f4)))).cell? _ = some _ from hx552_0)); clear hn552_0; clear hn552_1; clear hn552_2; clear hn552_3; clear hn552_4; replace p552 := eq_true p552; replace q552 := eq_true q552))); try go_wp2_with (first | ((with_reducible refine gate_dst (N := 7) rfl ?_); (try (refine gate_guard (by rfl) ?_; dsimp only)); refine box_event ?hg (N := 7) ?hd (cs := #[.int .i64 0, .int .i64 0, .int .i64 0, .int .i64 0, .int .i64 0]) (t := 63) ?hr ?_; (case hd => rfl); (case hg => rfl); (case hr => first | (go_simp; done) | (go_simp; rfl)); intro gb550 hg w45 hbox hb; refine swap7_ (Kd.R_below att20_0_8 hb) (Kd.S_below att20_0_10 hb) (Kd.R_below att20_0_7 hb) (below_step atgB_ hb) (hbox) ((by rw [hg]; exact (below_size atgB_) : w.heap.size ≤ gb550)) ((by rw [hg]; exact (below_size atgB_) : w.heap.size ≤ gb550)) ?_; clear HO_3 HO_4 HO_5 HB; intro HO_3 HO_4 HO_5 HB BK550 GW550 GE550; clear hb hbox hg; obtain ⟨hcz46_0, hcz46_1, hcz46_2, hcz46_3, hcz46_4, hfz46_0, hfz46_1, hfz46_2, hfz46_3, hfz46_4⟩ := blkB5_ BK550) | (go_at_call 79; (with_reducible refine (impl_within.calls ((rd_T63 l0 x21_1).f0) 1 4 true _ A17.out).mono ?_); rintro e w' ⟨rfl, ⟨nd, rfl⟩⟩; (try first | exact ⟨rfl, _, World.drewN_drewN _ _ _⟩ | exact ⟨rfl, _, Eq.trans (World.drewN_drewN _ _ _) (congrArg (World.drewN _) (Nat.add_assoc _ _ _))⟩); obtain ⟨Ao47, co47, eo47⟩ := Kd.R_slice HO_5.out; subst eo47; have p552 : 0 ≤ (x21_1 : Int) := of_decide_eq_true atgA_; have q552 : x21_1 < (t546.length : Int) := of_decide_eq_true atgA_; obtain ⟨ad552, e552, hx552_0⟩ := Kd.at_bool (Kd.R_reads' HO_5.out).2.2 x21_1 p552 q552; (try rw [← Nbq20.out] at hx552_0); cases e552; have hn552_0 : ad552.block ≠ gb550 := Kd.own_blk (Kd.R_ne HO_5.out BK550.out (by decide)); have hn552_1 : ad552.block ≠ gb550 := Kd.own_blk (Kd.R_ne HO_5.out BK550.out (by decide)); have hn552_2 : ad552.block ≠ gb550 := Kd.own_blk (Kd.R_ne HO_5.out BK550.out (by decide)); have hn552_3 : ad552.block ≠ gb550 := Kd.own_blk (Kd.R_ne HO_5.out BK550.out (by decide)); have hn552_4 : ad552.block ≠ gb550 := Kd.own_blk (Kd.R_ne HO_5.out BK550.out (by decide)); replace hx552_0 := (cell_far (p := ⟨gb550, 0, none⟩) (by first | (rw [add_block]; exact hn552_0) | (show (Addr.add _ _).block ≠ _; rw [add_block]; exact hn552_0) | exact hn552_0) (.int .i64 ((rd_T63 l0 x21_1).f0))).trans hx552_0; replace hx552_0 := (cell_far (p := ⟨gb550, 1, none⟩) (by first | (rw [add_block]; exact hn552_1) | (show (Addr.add _ _).block ≠ _; rw [add_block]; exact hn552_1) | exact hn552_1) (.int .i64 ((rd_T63 l0 x21_1).f1))).trans hx552_0; replace hx552_0 := (cell_far (p := ⟨gb550, 2, none⟩) (by first | (rw [add_block]; exact hn552_2) | (show (Addr.add _ _).block ≠ _; rw [add_block]; exact hn552_2) | exact hn552_2) (.int .i64 ((rd_T63 l0 x21_1).f2))).trans hx552_0; replace hx552_0 := (cell_far (p := ⟨gb550, 3, none⟩) (by first | (rw [add_block]; exact hn552_3) | (show (Addr.add _ _).block ≠ _; rw [add_block]; exact hn552_3) | exact hn552_3) (.int .i64 ((rd_T63 l0 x21_1).f3))).trans hx552_0; replace hx552_0 := (cell_far (p := ⟨gb550, 4, none⟩) (by first | (rw [add_block]; exact hn552_4) | (show (Addr.add _ _).block ≠ _; rw [add_block]; exact hn552_4) | exact hn552_4) (.int .i64 ((rd_T63 l0 x21_1).f4))).trans hx552_0; (try have hy552_0 := fun (n_ : Nat) => (show (((((((w45.drewN n_).setCell ⟨gb550, 0, none⟩ (.int .i64 ((rd_T63 l0 x21_1).f0))).setCell ⟨gb550, 1, none⟩ (.int .i64 ((rd_T63 l0 x21_1).f1))).setCell ⟨gb550, 2, none⟩ (.int .i64 ((rd_T63 l0 x21_1).f2))).setCell ⟨gb550, 3, none⟩ (.int .i64 ((rd_T63 l0 x21_1).f3))).setCell ⟨gb550, 4, none⟩ (.int .i64 ((rd_T63 l0 x21_1).f4)))).cell? _ = some _ from hx552_0)); clear hn552_0; clear hn552_1; clear hn552_2; clear hn552_3; clear hn552_4; replace p552 := eq_true p552; replace q552 := eq_true q552)))
          go_roundg k1
          case measure => have := HK1.out; omega
          case rel => exact ⟨(x3_1), (wrap64 (x21_1 + 1)), atgR_, H', ⟨atgK_⟩, ⟨att20_0_3⟩, ⟨att20_0_4⟩, ⟨att20_0_2⟩, ⟨att20_0_6⟩⟩
        ·rw [if_neg c19] at H
         exact absurd H (by simp)
       ·replace c18 := Bool.eq_false_iff.mpr c18
        subst c18
        rw [if_neg (show ¬ (false = true) by decide)] at H
        have H' := Aside0.mk H
        clear H
        have p549 : 0 ≤ (x21_1 : Int) := of_decide_eq_true atgA_
        have q549 : x21_1 < (l0.length : Int) := of_decide_eq_true atgA_
        obtain ⟨ad549, e549, hx549_0, hx549_1, hx549_2, hx549_3, hx549_4⟩ := at5B_ HB (at_T63 HR0.out x21_1 p549 q549)
        cases e549
        replace p549 := eq_true p549
        replace q549 := eq_true q549
        have tk0_ : True := trivial
        repeat ((first | clear tk0_ | go_quiet (first | (go_at_call 79; (with_reducible refine (impl_within.calls ((rd_T63 l0 x21_1).f0) 1 4 false _ A17.out).mono ?_); rintro e w' ⟨rfl, ⟨nd, rfl⟩⟩; (try first | exact ⟨rfl, _, World.drewN_drewN _ _ _⟩ | exact ⟨rfl, _, Eq.trans (World.drewN_drewN _ _ _) (congrArg (World.drewN _) (Nat.add_assoc _ _ _))⟩)))); try go_wp2_with (first | ((with_reducible refine gate_dst (N := 7) rfl ?_); (try (refine gate_guard (by rfl) ?_; dsimp only)); refine box_event ?hg (N := 7) ?hd (cs := #[.int .i64 0, .int .i64 0, .int .i64 0, .int .i64 0, .int .i64 0]) (t := 63) ?hr ?_; (case hd => rfl); (case hg => rfl); (case hr => first | (go_simp; done) | (go_simp; rfl)); intro gb550 hg w48 hbox hb; refine swap7_ (Kd.R_below att20_0_8 hb) (Kd.S_below att20_0_10 hb) (Kd.R_below att20_0_7 hb) (below_step atgB_ hb) (hbox) ((by rw [hg]; exact (below_size atgB_) : w.heap.size ≤ gb550)) ((by rw [hg]; exact (below_size atgB_) : w.heap.size ≤ gb550)) ?_; clear HO_3 HO_4 HO_5 HB; intro HO_3 HO_4 HO_5 HB BK550 GW550 GE550; clear hb hbox hg; obtain ⟨hcz49_0, hcz49_1, hcz49_2, hcz49_3, hcz49_4, hfz49_0, hfz49_1, hfz49_2, hfz49_3, hfz49_4⟩ := blkB5_ BK550) | (go_at_call 79; (with_reducible refine (impl_within.calls ((rd_T63 l0 x21_1).f0) 1 4 false _ A17.out).mono ?_); rintro e w' ⟨rfl, ⟨nd, rfl⟩⟩; (try first | exact ⟨rfl, _, World.drewN_drewN _ _ _⟩ | exact ⟨rfl, _, Eq.trans (World.drewN_drewN _ _ _) (congrArg (World.drewN _) (Nat.add_assoc _ _ _))⟩))))
        go_roundg k1
        case measure => have := HK1.out; omega
        case rel => exact ⟨(x3_1), (wrap64 (x21_1 + 1)), atgR_, H', ⟨atgK_⟩, ⟨att20_0_3⟩, ⟨att20_0_4⟩, ⟨att20_0_2⟩, ⟨att20_0_6⟩⟩
      ·rw [if_neg c16] at H
       exact absurd H (by simp)
     ·rw [if_neg c15] at H
      exact absurd H (by simp)
    ·rw [if_neg c14] at H
     have c14b0 := decide_eq_false c14
     clear c14
     obtain rfl := Option.some.inj H
     go_wp2
     repeat (go_quiet (fail); try go_wp2)
     go_ret
     exact ⟨_, retT_, by exact toR_ (HO_3.out), atgB_⟩
 ·replace c3 := Bool.eq_false_iff.mpr c3
  subst c3
  rw [if_neg (show ¬ (false = true) by decide)] at H
  obtain rfl := Option.some.inj H
  go_enter Try.func41, Try.ntmps41
  have tk0_ : True := trivial
  repeat ((first | clear tk0_ | go_quiet (fail)); try go_wp2_with (first | ((with_reducible refine gate_dst (N := 9) rfl ?_); (try (refine gate_guard (by rfl) ?_; dsimp only)); refine Kd.R_lit (Kd.int .i64) _ 3 ?hg (N := 9) ?hd (xs := ([] : List Int)) (inner := []) (ok := fun _ => True) (okp := fun _ => True) ?hr ?hp (fun _ hk => hk) trivial (Below.refl _ _) (Nat.le_refl _) (by simp) ?_; (case hd => rfl); (case hg => rfl); (case hr => first | (go_simp; done) | (go_simp; rfl)); (case hp => exact (Reps.none _ _)); intro v537 w50 ho51 hb hg_ hnew_; clear hg_ hnew_; (first | rw [← Ny536.out] at ho51 | (simp only [Int.reduceToNat] at ho51; rw [← Ny536.out] at ho51)); refine swap2_ (Kd.R_lower ho51 (below_size atgB_)) (below_step atgB_ hb) ?_; clear HB; intro HO538 HB; clear hb ho51) | (go_at_call 34; (with_reducible refine (impl_BodyOk.calls k _ _ l0 3 false _ ?side1 ?side2 A2.out).mono ?_); (case side1 => repeat (first | exact (Kd.C_below HR0.out HB.out) | (with_reducible refine Kd.C_alloc ?_ _) | (with_reducible refine Kd.C_drewN ?_ _) | (with_reducible refine Kd.C_drew ?_))); (case side2 => exact HC0.out); rintro e w52 ⟨rfl, hb⟩; refine swap2_ (Kd.R_below att20_0_9 hb) (below_step atgB_ hb) ?_; clear HO538 HB; intro HO538 HB; (try clear hb); (try clear hb2); (try clear hk); (try clear hi))))
  go_ret
  exact ⟨_, retT_, by exact toR_ (HO538.out), atgB_⟩

/-! ### impl_copyBody: function 66 -/
def impl_copyBody.f (l0 : List (S63)) : Option ((List (S63))) := (some (([] : List (S63)) : List (S63))).bind fun y558 => (if y558.length + l0.length < 3518437208883 then (some (y558 ++ l0)) else (none))
set_option maxHeartbeats 80000000 in
set_option maxRecDepth 100000 in
theorem impl_copyBody.calls (A0 : Option Addr) (c0 : Nat) (l0 : List (S63)) (r : List (S63)) (w : World) (hr0 : Kd.C k63 w A0 l0.length l0) (hc0 : l0.length ≤ c0) (h : impl_copyBody.f l0 = some r) :
  Calls Try.prog 66 #[.slice A0 l0.length c0] w fun e w' => ∃ v0_ : Value, e = .returned (v0_) ∧ Kd.R k63 63 w' w.heap.size (fun _ => True) v0_ r ∧ Below w.heap.size w w' := by
 have HR0 := Aside0.mk hr0
 have HC0 := Aside0.mk hc0
 clear hr0 hc0
 have HB := Aside0.mk (Below.refl w.heap.size w)
 have H : ((some (([] : List (S63)) : List (S63))).bind fun y558 => (if y558.length + l0.length < 3518437208883 then (some (y558 ++ l0)) else (none))) = some r := h
 clear h
 obtain ⟨y558, hy558⟩ : ∃ y_ : List (S63), y_ = (([] : List (S63))) := ⟨_, rfl⟩
 replace H := yy_ H hy558
 have Ny558 := Aside0.mk hy558
 clear hy558
 by_cases c2 : y558.length + l0.length < 3518437208883
 ·rw [if_pos c2] at H
  have LMc2 := Aside0.mk c2
  clear c2
  obtain ⟨y561, hy561⟩ : ∃ y_ : List (S63), y_ = (y558 ++ l0) := ⟨_, rfl⟩
  replace H : (some y561) = some r := by rw [hy561]; exact H
  have Ny561 := Aside0.mk hy561
  clear hy561
  obtain rfl := Option.some.inj H
  go_enter Try.func66, Try.ntmps66
  go_wp2_with (first | ((with_reducible refine gate_dst (N := 3) rfl ?_); refine Kd.R_lit k63 _ 63 ?hg (N := 3) ?hd (xs := ([] : List (S63))) (inner := []) (ok := fun _ => True) (okp := fun _ => True) ?hr ?hp (fun _ hk => hk) trivial (Below.refl _ _) (Nat.le_refl _) (by simp) ?_; (case hd => rfl); (case hg => rfl); (case hr => first | (go_simp; done) | (go_simp; rfl)); (case hp => exact (Reps.none _ _)); intro v559 w3 ho4 hb hg_ hnew_; clear hg_ hnew_; (first | rw [← Ny558.out] at ho4 | (simp only [Int.reduceToNat] at ho4; rw [← Ny558.out] at ho4)); refine swap2_ (Kd.R_lower ho4 (below_size atgB_)) (below_step atgB_ hb) ?_; clear HB; intro HO560 HB; clear hb ho4) | ((with_reducible refine gate_builtin (b := .append) (xs := #[.tmp 3, .tmp 4]) rfl ?_); at_builtin; refine Kd.R_append_rows k63 (w0 := w) w.heap.size rfl (.tmp 3) (.tmp 4) 24 63 (.agg #[(.int .i64 0), (.int .i64 0), (.int .i64 0), (.int .i64 0), (.int .i64 0)]) 40 rfl Try.underlying24 info63 rfl (by decide) (by omega) v559 y558 l0 _ _ _ (fun _ => True) (fun _ => False) rfl rfl ?aO ?aR (fun _ _ h => h) (fun _ h => h.elim) ?aF ?aB ?aS ?aL ?_; (case aR => repeat (first | exact (Kd.C_below HR0.out HB.out) | (with_reducible refine Kd.C_alloc ?_ _) | (with_reducible refine Kd.C_drewN ?_ _) | (with_reducible refine Kd.C_drew ?_))); (case aB => exact atgB_); (case aF => exact (fun _ _ => trivial)); (case aO => exact (by exact toR_ (HO560.out))); (case aS => exact (below_size atgB_)); (case aL => have := LMc2.out; omega); intro v562 w5 ho hb hg hat; rw [← Ny561.out] at ho; refine swap2_ (hb) (ho) ?_; clear HB HO560; intro HB HO563; clear ho hb hg hat))
  go_ret
  exact ⟨_, retT_, by exact toR_ (HO563.out), atgB_⟩
 ·rw [if_neg c2] at H
  exact absurd H (by simp)

/-! ### impl_TrimBody: function 51 -/
def impl_TrimBody.l0 : Nat → List (S63) → List Int → Int → Int → Option ((List (S63)))
 | 0, _, _, _, _ => none
 | k + 1, x3, x9, x10, x11 => if x11 < x10 then (if 0 ≤ x11 then (if x11 < (x9.length : Int) then (if 0 ≤ (rd x9 x11) then (if (rd x9 x11) < (x3.length : Int) then (impl_TrimBody.l0 k (x3.set ((rd x9 x11) : Int).toNat (⟨11, 0, 0, 0, wrap64 ((rd x9 x11) + 1)⟩ : S63)) x9 x10 (wrap64 (x11 + 1))) else (none)) else (none)) else (none)) else (none)) else (some x3)
def impl_TrimBody.f (k : Nat) (l0 : List (S63)) : Option ((List (S63))) := (impl_copyBody.f l0).bind fun t564 => ((impl_DeadAt.f k l0).bind fun t567 => (impl_TrimBody.l0 k t564 t567 (t567.length : Int) 0))
theorem impl_TrimBody.mono_l : ∀ k, (∀ y0 y1 y2 y3, LeO (impl_TrimBody.l0 k y0 y1 y2 y3) (impl_TrimBody.l0 (k + 1) y0 y1 y2 y3))
 | 0 => fun _ _ _ _ r h => by simp [impl_TrimBody.l0] at h
 | k + 1 => by
  have ih0 := impl_TrimBody.mono_l k
  ·intro y0 y1 y2 y3
   unfold impl_TrimBody.l0
   repeat' (with_reducible first | exact ih0 .. | exact impl_DeadAt.mono _ _ | exact LeO.refl _ | exact LeO.none _ | refine LeO.ite ?_ ?_ | refine LeO.bind ?_ (fun _ => ?_))
theorem impl_TrimBody.mono : ∀ a0 k, LeO (impl_TrimBody.f k a0) (impl_TrimBody.f (k + 1) a0) := by
 intro a0 k
 have ih0 := impl_TrimBody.mono_l k
 unfold impl_TrimBody.f
 repeat' (with_reducible first | exact ih0 .. | exact impl_DeadAt.mono _ _ | exact LeO.refl _ | exact LeO.none _ | refine LeO.ite ?_ ?_ | refine LeO.bind ?_ (fun _ => ?_))
set_option maxHeartbeats 80000000 in
set_option maxRecDepth 100000 in
theorem impl_TrimBody.calls (k : Nat) (A0 : Option Addr) (c0 : Nat) (l0 : List (S63)) (r : List (S63)) (w : World) (hr0 : Kd.C k63 w A0 l0.length l0) (hc0 : l0.length ≤ c0) (h : impl_TrimBody.f k l0 = some r) :
  Calls Try.prog 51 #[.slice A0 l0.length c0] w fun e w' => ∃ v0_ : Value, e = .returned (v0_) ∧ Kd.R k63 63 w' w.heap.size (fun _ => True) v0_ r ∧ Below w.heap.size w w' := by
 have hu63 := Try.underlying63
 have HR0 := Aside0.mk hr0
 have HC0 := Aside0.mk hc0
 clear hr0 hc0
 have HB := Aside0.mk (Below.refl w.heap.size w)
 have H : ((impl_copyBody.f l0).bind fun t564 => ((impl_DeadAt.f k l0).bind fun t567 => (impl_TrimBody.l0 k t564 t567 (t567.length : Int) 0))) = some r := h
 clear h
 replace H := Option.bind_eq_some_iff.mp H
 obtain ⟨t564, A20, H⟩ := H
 (try dsimp only at H)
 have A2 := Aside0.mk A20
 clear A20
 replace H := Option.bind_eq_some_iff.mp H
 obtain ⟨t567, A30, H⟩ := H
 (try dsimp only at H)
 have A3 := Aside0.mk A30
 clear A30
 have H' := Aside0.mk H
 clear H
 go_enter Try.func51, Try.ntmps51
 go_wp2_with (first | ((with_reducible refine gate_callee (f := 66) rfl ?_); refine goesL_ (some 7) rfl rfl Try.func66 (by kernel_rfl) rfl #[.slice A0 l0.length c0] rfl atgM_ ?_; (with_reducible refine (impl_copyBody.calls _ _ l0 t564 _ ?side1 ?side2 A2.out).mono ?_); (case side1 => repeat (first | exact HR0.out | (with_reducible refine Kd.C_alloc ?_ _) | (with_reducible refine Kd.C_drewN ?_ _) | (with_reducible refine Kd.C_drew ?_))); (case side2 => exact HC0.out); rintro e w4 ⟨v565, rfl, ho0, hb⟩; refine ⟨_, rfl, ?_⟩; refine swap2_ (Kd.R_lower ho0 (below_size atgB_)) (below_step atgB_ hb) ?_; clear HB; intro HO566 HB; (try clear hb); (try clear hb2); (try clear hk); (try clear hi); (try clear ho0)) | ((with_reducible refine gate_callee (f := 41) rfl ?_); refine goesL_ (some 9) rfl rfl Try.func41 (by kernel_rfl) rfl #[.slice A0 l0.length c0] rfl atgM_ ?_; (with_reducible refine (impl_DeadAt.calls k _ _ l0 t567 _ ?side1 ?side2 A3.out).mono ?_); (case side1 => repeat (first | exact (Kd.C_below HR0.out HB.out) | (with_reducible refine Kd.C_alloc ?_ _) | (with_reducible refine Kd.C_drewN ?_ _) | (with_reducible refine Kd.C_drew ?_))); (case side2 => exact HC0.out); rintro e w5 ⟨v568, rfl, ho0, hb⟩; refine ⟨_, rfl, ?_⟩; refine swap3_ (Kd.R_below att20_0_20 hb) (Kd.R_lower ho0 (below_size atgB_)) (below_step atgB_ hb) ?_; clear HO566 HB; intro HO566 HO569 HB; (try clear hb); (try clear hb2); (try clear hk); (try clear hi); (try clear ho0); obtain ⟨Ao6, co6, eo6⟩ := Kd.R_slice HO569.out; subst eo6))
 go_loopg [11] k (fun kq v11 w' => ∃ (x3_1 : List (S63)) (x11_1 : Int), v11 = .int .i64 x11_1 ∧ Aside0 (impl_TrimBody.l0 kq x3_1 t567 (t567.length : Int) x11_1 = some r) ∧ Aside0 (kq ≤ k) ∧ Aside0 (Kd.R k63 63 w' w.heap.size (fun _ => True) v565 x3_1) ∧ Aside0 (Kd.R (Kd.int .i64) 3 w' w.heap.size (fun _ => True) (.slice Ao6 t567.length co6) t567) ∧ Aside0 (Below w.heap.size w w'))
 case atStart => exact ⟨(t564), (0), atgR_, H', ⟨Nat.le_refl _⟩, ⟨att20_0_20⟩, ⟨by exact toR_ (HO569.out)⟩, ⟨atgB_⟩⟩
 case round =>
  clear H'
  try clear p2
  try clear c4
  try clear c5
  try clear c6
  obtain ⟨x3_1, x11_1, rfl, HA, HK1, HO_3, HO_9, HB⟩ := hrel
  cases gk with
  | zero => exact absurd HA.out (by simp [impl_TrimBody.l0])
  | succ k1 =>
   have H := HA.out
   clear HA
   simp only [impl_TrimBody.l0] at H
   by_cases c7 : x11_1 < (t567.length : Int)
   ·rw [if_pos c7] at H
    have c7b0 := decide_eq_true c7
    clear c7
    by_cases c8 : 0 ≤ x11_1
    ·rw [if_pos c8] at H
     have c8b0 := decide_eq_true c8
     clear c8
     by_cases c9 : x11_1 < (t567.length : Int)
     ·rw [if_pos c9] at H
      have c9b0 := decide_eq_true c9
      clear c9
      by_cases c10 : 0 ≤ (rd t567 x11_1)
      ·rw [if_pos c10] at H
       have c10b0 := decide_eq_true c10
       clear c10
       by_cases c11 : (rd t567 x11_1) < (x3_1.length : Int)
       ·rw [if_pos c11] at H
        have c11b0 := decide_eq_true c11
        clear c11
        obtain ⟨y571, hy571⟩ : ∃ y_ : List (S63), y_ = (x3_1.set ((rd t567 x11_1) : Int).toNat (⟨11, 0, 0, 0, wrap64 ((rd t567 x11_1) + 1)⟩ : S63)) := ⟨_, rfl⟩
        replace H : (impl_TrimBody.l0 k1 y571 t567 (t567.length : Int) (wrap64 (x11_1 + 1))) = some r := by rw [hy571]; exact H
        have Ny571 := Aside0.mk hy571
        clear hy571
        have H' := Aside0.mk H
        clear H
        have p570 : 0 ≤ (x11_1 : Int) := of_decide_eq_true atgA_
        have q570 : x11_1 < (t567.length : Int) := of_decide_eq_true atgA_
        obtain ⟨ad570, e570, hx570_0⟩ := Kd.at_int (Kd.R_reads' HO_9.out).2.2 x11_1 p570 q570
        cases e570
        replace p570 := eq_true p570
        replace q570 := eq_true q570
        have p12 : 0 ≤ ((rd t567 x11_1) : Int) := of_decide_eq_true atgA_
        have q12 : ((rd t567 x11_1) : Int) < ((x3_1.length : Int) : Int) := of_decide_eq_true atgA_
        obtain ⟨go12, co12, eo12, gb12, gl12, cl12, HG12⟩ := Kd.R_form HO_3.out (by omega)
        (first | cases eo12 | (injection eo12 with ea_ en_ ec_; (first | subst ea_ | (injection ea_ with ea_; subst ea_)); subst ec_; clear en_))
        have GB12 := Aside0.mk gb12
        have GG12 := Aside0.mk HG12
        clear gb12 gl12 HG12
        obtain ⟨ce12, hcl12, hM12, hcc12, hfr12⟩ := Kd.R_elem HO_3.out z63 ((rd t567 x11_1) : Int) p12 q12
        obtain rfl := k63_openM hM12
        have hx12_0 : wr.cell? ⟨go12, ((rd t567 x11_1) : Int).toNat * 5, none⟩ = some (.int .i64 ((rd_T63 x3_1 (rd t567 x11_1)).f0)) := hcc12 0 _ rfl
        have hx12_1 : wr.cell? ⟨go12, ((rd t567 x11_1) : Int).toNat * 5 + 1, none⟩ = some (.int .i64 ((rd_T63 x3_1 (rd t567 x11_1)).f1)) := hcc12 1 _ rfl
        have hx12_2 : wr.cell? ⟨go12, ((rd t567 x11_1) : Int).toNat * 5 + 2, none⟩ = some (.int .i64 ((rd_T63 x3_1 (rd t567 x11_1)).f2)) := hcc12 2 _ rfl
        have hx12_3 : wr.cell? ⟨go12, ((rd t567 x11_1) : Int).toNat * 5 + 3, none⟩ = some (.int .i64 ((rd_T63 x3_1 (rd t567 x11_1)).f3)) := hcc12 3 _ rfl
        have hx12_4 : wr.cell? ⟨go12, ((rd t567 x11_1) : Int).toNat * 5 + 4, none⟩ = some (.int .i64 ((rd_T63 x3_1 (rd t567 x11_1)).f4)) := hcc12 4 _ rfl
        have hf12_0 : wr.frozen? ⟨go12, ((rd t567 x11_1) : Int).toNat * 5, none⟩ = false := hfr12 0
        have hf12_1 : wr.frozen? ⟨go12, ((rd t567 x11_1) : Int).toNat * 5 + 1, none⟩ = false := hfr12 1
        have hf12_2 : wr.frozen? ⟨go12, ((rd t567 x11_1) : Int).toNat * 5 + 2, none⟩ = false := hfr12 2
        have hf12_3 : wr.frozen? ⟨go12, ((rd t567 x11_1) : Int).toNat * 5 + 3, none⟩ = false := hfr12 3
        have hf12_4 : wr.frozen? ⟨go12, ((rd t567 x11_1) : Int).toNat * 5 + 4, none⟩ = false := hfr12 4
        clear hcl12 hcc12 hfr12 hM12
        replace p12 := eq_true p12
        replace q12 := eq_true q12
        have HX13 := Aside0.mk (show Kd.R k63 63 wr w.heap.size (fun _ => True) (.slice (some ⟨go12, 0, none⟩) x3_1.length co12) x3_1 from att20_0_8)
        obtain ⟨ce13, hcl13, hM13, hcc13, hfr13⟩ := Kd.R_elem HX13.out z63 ((rd t567 x11_1) : Int) (of_decide_eq_true atgA_) att20_1_1
        obtain rfl := k63_openM hM13
        have HP13 := Kd.R_seg HX13.out ((rd t567 x11_1) : Int) (of_decide_eq_true atgA_) att20_1_1 (seg := [.int .i64 11, .int .i64 0, .int .i64 0, .int .i64 0, .int .i64 (wrap64 ((rd t567 x11_1) + 1))]) (j := 0) hcl13 hcc13 (show 5 ≤ 5 from by decide) (x' := (⟨11, 0, 0, 0, wrap64 ((rd t567 x11_1) + 1)⟩ : S63)) (k63_mkM _ _ _ (⟨11, 0, 0, 0, wrap64 ((rd t567 x11_1) + 1)⟩ : S63) ) (fun _ hk => hk)
        have hx13_0 := hcc13 0 _ rfl
        (try simp only [show (k63).sz = 5 from rfl, Nat.mul_one, Nat.add_zero] at hx13_0)
        have hf13_0 := hfr13 0
        (try simp only [show (k63).sz = 5 from rfl, Nat.mul_one, Nat.add_zero] at hf13_0)
        have hx13_1 := hcc13 1 _ rfl
        (try simp only [show (k63).sz = 5 from rfl, Nat.mul_one, Nat.add_zero] at hx13_1)
        have hf13_1 := hfr13 1
        (try simp only [show (k63).sz = 5 from rfl, Nat.mul_one, Nat.add_zero] at hf13_1)
        have hx13_2 := hcc13 2 _ rfl
        (try simp only [show (k63).sz = 5 from rfl, Nat.mul_one, Nat.add_zero] at hx13_2)
        have hf13_2 := hfr13 2
        (try simp only [show (k63).sz = 5 from rfl, Nat.mul_one, Nat.add_zero] at hf13_2)
        have hx13_3 := hcc13 3 _ rfl
        (try simp only [show (k63).sz = 5 from rfl, Nat.mul_one, Nat.add_zero] at hx13_3)
        have hf13_3 := hfr13 3
        (try simp only [show (k63).sz = 5 from rfl, Nat.mul_one, Nat.add_zero] at hf13_3)
        have hx13_4 := hcc13 4 _ rfl
        (try simp only [show (k63).sz = 5 from rfl, Nat.mul_one, Nat.add_zero] at hx13_4)
        have hf13_4 := hfr13 4
        (try simp only [show (k63).sz = 5 from rfl, Nat.mul_one, Nat.add_zero] at hf13_4)
        clear hcl13 hcc13 hfr13 hM13
        go_wp2_with (first | ((with_reducible refine gate_store (t := 63) (p := 20) rfl ?_); refine store_event (t := 63) (p := 20) (v := ?vo_w14) (w1 := (((((wr.setCell ⟨go12, ((rd t567 x11_1) : Int).toNat * 5, none⟩ (.int .i64 11)).setCell ⟨go12, ((rd t567 x11_1) : Int).toNat * 5 + 1, none⟩ (.int .i64 0)).setCell ⟨go12, ((rd t567 x11_1) : Int).toNat * 5 + 2, none⟩ (.int .i64 0)).setCell ⟨go12, ((rd t567 x11_1) : Int).toNat * 5 + 3, none⟩ (.int .i64 0)).setCell ⟨go12, ((rd t567 x11_1) : Int).toNat * 5 + 4, none⟩ (.int .i64 (wrap64 ((rd t567 x11_1) + 1))))) ?hg ?ho ?hn ?hr ?_; (case ho => rfl); (case hg => rfl); (case hn => rfl); (case hr => first | (go_simp; done) | (go_simp; rfl)); intro w14 hw; have hg : wr.grownBy w14 (some go12) := (by rw [hw]; exact HP13.2); have hp_ : Kd.R k63 63 w14 w.heap.size (fun _ => True) (.slice (some ⟨go12, 0, none⟩) x3_1.length co12) y571 := (by rw [hw, Ny571.out]; exact HP13.1); clear HP13; refine swap3_ (hp_) (Kd.R_over' (v := (.slice (some ⟨go12, 0, none⟩) x3_1.length co12)) att20_0_24 (Kd.R_typed HO_3.out) (by decide) hg) ((by rw [hw]; exact below_set (below_set (below_set (below_set (below_set (HB.out) GB12.out) GB12.out) GB12.out) GB12.out) GB12.out : Below w.heap.size w w14)) ?_; clear HO_3 HO_9 HB; intro HO_3 HO_9 HB; clear hg hw hp_))
        go_roundg k1
        case measure => have := HK1.out; omega
        case rel => exact ⟨(y571), (wrap64 (x11_1 + 1)), atgR_, H', ⟨atgK_⟩, ⟨att20_0_8⟩, ⟨att20_0_24⟩, ⟨atgB_⟩⟩
       ·rw [if_neg c11] at H
        exact absurd H (by simp)
      ·rw [if_neg c10] at H
       exact absurd H (by simp)
     ·rw [if_neg c9] at H
      exact absurd H (by simp)
    ·rw [if_neg c8] at H
     exact absurd H (by simp)
   ·rw [if_neg c7] at H
    have c7b0 := decide_eq_false c7
    clear c7
    obtain rfl := Option.some.inj H
    go_wp2
    go_ret
    exact ⟨_, retT_, by exact toR_ (HO_3.out), atgB_⟩

end Go.Proofs.Ytocimkpafakiaaa.XFnExactTrimProg
