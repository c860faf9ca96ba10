/- Each Go function that the law reaches as a Lean function, and that Go comes to just its answer; written by this session's xprint.py over the kit's printer. -/
import Derived.Test.YtocimkpafakiaaaXFnExactDeadAtx0
import Derived.Test.YtocimkpafakiaaaXFnExactDeadAtx8
import Derived.Test.YtocimkpafakiaaaXFnExactDeadAtx10
import Derived.Test.YtocimkpafakiaaaXFnExactDeadAtx11
import Derived.Test.YtocimkpafakiaaaXFnExactDeadAtx12
namespace Go.Proofs.Ytocimkpafakiaaa.XFnExactDeadAt
open Go.RowKit Go.Proofs.YtocimkpafakiaaaW.PrintWords Go.Proofs.YtocimkpafakiaaaW.PrintLast Go.Proofs.YtocimkpafakiaaaW.PrintMore
attribute [local go_sem] max2_int min2_int max_two min_two max_three min_three max_four min_four   -- for this text's walks alone
set_option linter.unusedVariables false
set_option linter.unusedSimpArgs false

theorem att14_0_0 {p : Prop} (h : p := by repeat (first | (with_reducible first | exact HB.out | apply below_alloc | apply pw_below_drewN | apply below_drew1) | exact HB.out)) : p := h
theorem att14_0_1 {p : Prop} (h : p := by rw [hw]; exact (by (with_reducible repeat (first | refine blk_drewN ?_ _ | refine blk_drew ?_ | refine blk_alloc ?_ _)); refine blk_put (cs := #[.int .i64 ((rd_T63 l0 x21_1).f0), .int .i64 ((rd_T63 l0 x21_1).f1), .int .i64 ((rd_T63 l0 x21_1).f2), .int .i64 ((rd_T63 l0 x21_1).f3), .int .i64 0]) ?_ 4 _ rfl; (with_reducible repeat (first | refine blk_drewN ?_ _ | refine blk_drew ?_ | refine blk_alloc ?_ _)); refine blk_put (cs := #[.int .i64 ((rd_T63 l0 x21_1).f0), .int .i64 ((rd_T63 l0 x21_1).f1), .int .i64 ((rd_T63 l0 x21_1).f2), .int .i64 0, .int .i64 0]) ?_ 3 _ rfl; (with_reducible repeat (first | refine blk_drewN ?_ _ | refine blk_drew ?_ | refine blk_alloc ?_ _)); refine blk_put (cs := #[.int .i64 ((rd_T63 l0 x21_1).f0), .int .i64 ((rd_T63 l0 x21_1).f1), .int .i64 0, .int .i64 0, .int .i64 0]) ?_ 2 _ rfl; (with_reducible repeat (first | refine blk_drewN ?_ _ | refine blk_drew ?_ | refine blk_alloc ?_ _)); refine blk_put (cs := #[.int .i64 ((rd_T63 l0 x21_1).f0), .int .i64 0, .int .i64 0, .int .i64 0, .int .i64 0]) ?_ 1 _ rfl; (with_reducible repeat (first | refine blk_drewN ?_ _ | refine blk_drew ?_ | refine blk_alloc ?_ _)); refine blk_put (cs := #[.int .i64 0, .int .i64 0, .int .i64 0, .int .i64 0, .int .i64 0]) ?_ 0 _ rfl; (with_reducible repeat (first | refine blk_drewN ?_ _ | refine blk_drew ?_ | refine blk_alloc ?_ _)); exact BK446.out)) : p := h
theorem att14_0_2 {p : Prop} (h : p := by (with_reducible repeat (first | apply Kd.R_alloc | apply Kd.R_drewN | apply Kd.R_drew)); exact Kd.R_mono (Kd.R_far (p := ⟨gb446, 4, none⟩) (Kd.R_far (p := ⟨gb446, 3, none⟩) (Kd.R_far (p := ⟨gb446, 2, none⟩) (Kd.R_far (p := ⟨gb446, 1, none⟩) (Kd.R_far (p := ⟨gb446, 0, none⟩) (Kd.R_types HO_5.out BK446.out (by decide)) (fun _ hk => hk.2) (.int .i64 ((rd_T63 l0 x21_1).f0))) (fun _ hk => hk.2) (.int .i64 ((rd_T63 l0 x21_1).f1))) (fun _ hk => hk.2) (.int .i64 ((rd_T63 l0 x21_1).f2))) (fun _ hk => hk.2) (.int .i64 ((rd_T63 l0 x21_1).f3))) (fun _ hk => hk.2) (.int .i64 ((rd_T63 l0 x21_1).f4))) (fun _ hk => trivial)) : p := h
theorem att14_0_3 {p : Prop} (h : p := by (with_reducible repeat (first | apply Kd.R_alloc | apply Kd.R_drewN | apply Kd.R_drew)); exact Kd.R_mono (Kd.R_far (p := ⟨gb446, 4, none⟩) (Kd.R_far (p := ⟨gb446, 3, none⟩) (Kd.R_far (p := ⟨gb446, 2, none⟩) (Kd.R_far (p := ⟨gb446, 1, none⟩) (Kd.R_far (p := ⟨gb446, 0, none⟩) (Kd.R_types HO_3.out BK446.out (by decide)) (fun _ hk => hk.2) (.int .i64 ((rd_T63 l0 x21_1).f0))) (fun _ hk => hk.2) (.int .i64 ((rd_T63 l0 x21_1).f1))) (fun _ hk => hk.2) (.int .i64 ((rd_T63 l0 x21_1).f2))) (fun _ hk => hk.2) (.int .i64 ((rd_T63 l0 x21_1).f3))) (fun _ hk => hk.2) (.int .i64 ((rd_T63 l0 x21_1).f4))) (fun _ hk => trivial)) : p := h
theorem att14_0_4 {p : Prop} (h : p := by (with_reducible repeat (first | apply Kd.S_alloc | apply Kd.S_drewN | apply Kd.S_drew)); exact Kd.S_mono (Kd.S_far (p := ⟨gb446, 4, none⟩) (Kd.S_far (p := ⟨gb446, 3, none⟩) (Kd.S_far (p := ⟨gb446, 2, none⟩) (Kd.S_far (p := ⟨gb446, 1, none⟩) (Kd.S_far (p := ⟨gb446, 0, none⟩) (Kd.S_types HO_4.out BK446.out (by decide)) (fun _ hk => hk.2) (.int .i64 ((rd_T63 l0 x21_1).f0))) (fun _ hk => hk.2) (.int .i64 ((rd_T63 l0 x21_1).f1))) (fun _ hk => hk.2) (.int .i64 ((rd_T63 l0 x21_1).f2))) (fun _ hk => hk.2) (.int .i64 ((rd_T63 l0 x21_1).f3))) (fun _ hk => hk.2) (.int .i64 ((rd_T63 l0 x21_1).f4))) (fun _ hk => hk.1)) : p := h
theorem att14_0_5 {p : Prop} (h : p := by first | (with_reducible assumption) | assumption) : p := h
theorem att14_0_6 {p : Prop} (h : p := by repeat (first | (with_reducible first | exact HB.out | apply below_alloc | apply pw_below_drewN | apply below_drew1 | refine below_set ?_ GE446.out) | exact HB.out)) : p := h
theorem att14_0_7 {p : Prop} (h : p := by (with_reducible repeat (first | apply Kd.R_alloc | apply Kd.R_drewN | apply Kd.R_drew)); exact HO_5.out) : p := h
theorem att14_0_8 {p : Prop} (h : p := by (with_reducible repeat (first | apply Kd.R_alloc | apply Kd.R_drewN | apply Kd.R_drew)); exact HO_3.out) : p := h
theorem att14_0_9 {p : Prop} (h : p := by (with_reducible repeat (first | apply Kd.R_alloc | apply Kd.R_drewN | apply Kd.R_drew)); exact HO434.out) : p := h
theorem att14_0_10 {p : Prop} (h : p := by (with_reducible repeat (first | apply Kd.S_alloc | apply Kd.S_drewN | apply Kd.S_drew)); exact HO_4.out) : p := h
theorem att14_0_11 {p : Prop} (h : p := by repeat (first | (with_reducible exact HR449_0.out) | (with_reducible refine Kd.C_alloc ?_ _) | (with_reducible refine Kd.C_drewN ?_ _) | (with_reducible refine Kd.C_drew ?_) | exact HR449_0.out)) : p := h
theorem att14_0_12 {p : Prop} (h : p := by (with_reducible repeat (first | apply Kd.Q_alloc | apply Kd.Q_drewN | apply Kd.Q_drew)); exact HO423.out) : p := h
theorem att14_0_13 {p : Prop} (h : p := by first | rfl | (simp; done) | (simp [*]; done)) : p := h
theorem att14_0_14 {p : Prop} (h : p := by repeat (first | (with_reducible first | exact HK.out | apply Kept.alloc | apply Kept.drewN | apply Kept.drew) | exact HK.out)) : p := h
theorem att14_0_15 {p : Prop} (h : p := by (with_reducible repeat (first | apply Kd.S_alloc | apply Kd.S_drewN | apply Kd.S_drew)); exact HO438.out) : p := h
theorem att14_0_16 {p : Prop} (h : p := by repeat (first | exact Drawn0.refl _ | apply Drawn0.step)) : p := h
theorem att14_0_17 {p : Prop} (h : p := by have := HK1.out; omega) : p := h
theorem att14_0_18 {p : Prop} (h : p := by (with_reducible repeat (first | apply Kd.R_alloc | apply Kd.R_drewN | apply Kd.R_drew)); exact Kd.R_mono HL449_0.out (fun _ hk => ⟨hk.2, hk.1⟩)) : p := h
theorem att14_0_19 {p : Prop} (h : p := by (with_reducible repeat (first | apply Kd.S_alloc | apply Kd.S_drewN | apply Kd.S_drew)); exact Kd.S_mono HO_4.out (fun _ hk => ⟨trivial, hk⟩)) : p := h
theorem att14_0_20 {p : Prop} (h : p := by (try simp only [List.map_toArray, List.map_cons, List.map_nil]); first | done | rfl | (simp only [List.length_drop, List.length_take]; rfl)) : p := h
theorem att14_0_21 {p : Prop} (h : p := by (with_reducible repeat (first | refine blk_drewN ?_ _ | refine blk_drew ?_ | refine blk_alloc ?_ _)); exact BK446.out) : p := h
theorem att14_0_22 {p : Prop} (h : p := by (with_reducible repeat (first | apply Kd.R_alloc | apply Kd.R_drewN | apply Kd.R_drew)); exact HO441.out) : p := h
theorem att14_0_23 {p : Prop} (h : p := by (with_reducible repeat (first | apply Kd.R_alloc | apply Kd.R_drewN | apply Kd.R_drew)); exact HO428.out) : p := h
theorem att14_0_24 {p : Prop} (h : p := by (with_reducible repeat (first | apply Kd.R_alloc | apply Kd.R_drewN | apply Kd.R_drew)); exact HO416.out) : p := h
theorem att14_0_25 {p : Prop} (h : p := by first | rfl | (simp; done) | (simp only [← hji23] <;> (first | rfl | simp)) | (simp [*]; done)) : p := h
theorem att14_1_0 {p : Prop} (h : p := by first | exact q449 | exact of_decide_eq_true att14_0_5 | (have e_ := (Kd.S_reads' HO_4.out).1; omega)) : p := h
/-! ### impl_reached: function 68 -/
def impl_reached.l0 : Nat → List (S63) → List Bool → List Int → Option (List Bool)
 | 0, _, _, _ => none
 | k + 1, x0, x5, x6 => if (x6.length : Int) > 0 then (if 0 < (x6.length : Int) then (if 1 ≤ (x6.length : Int) then ((some (x6.drop (1 : Int).toNat : List Int)).bind fun y421 => (if 0 ≤ (rd x6 0) then (if (rd x6 0) < (x5.length : Int) then (if (rdOf false x5 (rd x6 0) = true) then (impl_reached.l0 k x0 x5 y421) else ((impl_nextOf.f x0 (rd x6 0)).bind fun t426 => (if y421.length + t426.length < 17592186044416 then (impl_reached.l0 k x0 (x5.set ((rd x6 0) : Int).toNat true) (y421 ++ t426)) else (none)))) else (none)) else (none))) else (none)) else (none)) else (some x5)
def impl_reached.f (k : Nat) (l0 : List (S63)) (l1 : List Int) : Option (List Bool) := if 0 ≤ (l0.length : Int) then (if ((l0.length : Int) : Int).toNat ≤ 281474976710656 then ((impl_copyInts.f l1).bind fun t417 => (impl_reached.l0 k l0 (List.replicate ((l0.length : Int) : Int).toNat false) t417)) else (none)) else (none)
theorem impl_reached.mono_l : ∀ k, (∀ y0 y1 y2, LeO (impl_reached.l0 k y0 y1 y2) (impl_reached.l0 (k + 1) y0 y1 y2))
 | 0 => fun _ _ _ r h => by simp [impl_reached.l0] at h
 | k + 1 => by
  have ih0 := impl_reached.mono_l k
  ·intro y0 y1 y2
   unfold impl_reached.l0
   repeat' first
   | (with_reducible exact ih0 _ _ _)
   | (with_reducible exact LeO.refl _)
   | (with_reducible exact LeO.none _)
   | (with_reducible refine LeO.ite ?_ ?_)
   | (with_reducible refine LeO.bind ?_ (fun _ => ?_))
   | exact ih0 _ _ _
   | exact LeO.none _
   | refine LeO.ite ?_ ?_
   | refine LeO.bind ?_ (fun _ => ?_)
theorem impl_reached.mono : ∀ a0 a1 k, LeO (impl_reached.f k a0 a1) (impl_reached.f (k + 1) a0 a1) := by
 intro a0 a1 k
 have ih0 := impl_reached.mono_l k
 unfold impl_reached.f
 repeat' first
   | (with_reducible exact ih0 _ _ _)
   | (with_reducible exact LeO.refl _)
   | (with_reducible exact LeO.none _)
   | (with_reducible refine LeO.ite ?_ ?_)
   | (with_reducible refine LeO.bind ?_ (fun _ => ?_))
   | exact ih0 _ _ _
   | exact LeO.none _
   | refine LeO.ite ?_ ?_
   | refine LeO.bind ?_ (fun _ => ?_)
set_option maxHeartbeats 80000000 in
set_option maxRecDepth 100000 in
theorem impl_reached.calls (k : Nat) (A0 : Option Addr) (c0 : Nat) (l0 : List (S63)) (A1 : Option Addr) (c1 : Nat) (l1 : List Int) (r : List Bool) (w : World) (hr0 : Kd.C k63 w A0 l0.length l0) (hc0 : l0.length ≤ c0) (hr1 : Kd.C (Kd.int .i64) w A1 l1.length l1) (hc1 : l1.length ≤ c1) (h : impl_reached.f k l0 l1 = some r) :
  Calls Try.prog 68 #[.slice A0 l0.length c0, .slice A1 l1.length c1] w fun e w' => ∃ v0_ : Value, e = .returned (v0_) ∧ Kd.R Kd.bool 4 w' w.heap.size (fun _ => True) v0_ r ∧ Below w.heap.size w w' := by
 have HR0 := Aside0.mk hr0
 have HC0 := Aside0.mk hc0
 clear hr0 hc0
 have HR1 := Aside0.mk hr1
 have HC1 := Aside0.mk hc1
 clear hr1 hc1
 have HB := Aside0.mk (Below.refl w.heap.size w)
 have H : (if 0 ≤ (l0.length : Int) then (if ((l0.length : Int) : Int).toNat ≤ 281474976710656 then ((impl_copyInts.f l1).bind fun t417 => (impl_reached.l0 k l0 (List.replicate ((l0.length : Int) : Int).toNat false) t417)) else (none)) else (none)) = some r := h
 clear h
 by_cases c3 : 0 ≤ (l0.length : Int)
 ·rw [if_pos c3] at H
  have c3b0 := eq_true c3
  have c3b1 : decide (0 ≤ (l0.length : Int)) = true := decide_eq_true c3
  clear c3
  by_cases c4 : ((l0.length : Int) : Int).toNat ≤ 281474976710656
  ·rw [if_pos c4] at H
   have c4b0 := eq_true c4
   have c4b1 : decide (((l0.length : Int) : Int).toNat ≤ 281474976710656) = true := decide_eq_true c4
   clear c4
   obtain ⟨y414, hy414⟩ : ∃ y_ : List Bool, y_ = (List.replicate ((l0.length : Int) : Int).toNat false) := ⟨_, rfl⟩
   replace H : ((impl_copyInts.f l1).bind fun t417 => (impl_reached.l0 k l0 y414 t417)) = some r := by first | (rw [hy414]; with_reducible exact H) | (have H2_ := (Option.bind_some _ _).symm.trans H; rw [hy414]; with_reducible exact H2_) | (have H2_ := (Option.bind_some _ _).symm.trans H; with_reducible exact H2_) | with_reducible exact H | (rw [hy414]; exact H) | exact H
   have Ny414 := Aside0.mk hy414
   clear hy414
   replace H := Option.bind_eq_some_iff.mp H
   obtain ⟨t417, A50, H⟩ := H
   (try dsimp only at H)
   have A5 := Aside0.mk A50
   clear A50
   have H' := Aside0.mk H
   clear H
   go_enter Try.func68, Try.ntmps68
   go_wp2_with (first | ((with_reducible refine gate_dst (N := 10) rfl ?_); refine Kd.R_make Kd.bool _ 4 rfl (N := 10) rfl 66 _ _ rfl (l0.length : Int) rfl rfl Try.underlying66 (.bool false) 1 info4 rfl (by decide) (by omega) false (ok := fun _ => True) (okp := fun _ => True) rfl (fun _ hk => hk) trivial (of_decide_eq_true att14_0_5) (Nat.le_trans (Nat.mul_le_mul_right _ (of_decide_eq_true att14_0_5 : (l0.length : Int).toNat ≤ 281474976710656)) (by omega)) (Below.refl _ _) (Nat.le_refl _) ?_; intro v415 w6 ho7 hb hg_ hnew_; clear hg_ hnew_; (first | rw [← Ny414.out] at ho7 | (simp only [Int.reduceToNat] at ho7; rw [← Ny414.out] at ho7)); have n0_ := Aside0.mk (Kd.R_lower ho7 (below_size att14_0_0)); have n1_ := Aside0.mk (below_step att14_0_0 hb); clear HB; have HO416 := n0_; have HB := n1_; clear n0_ n1_; clear hb ho7) | ((with_reducible refine gate_callee (f := 82) rfl ?_); refine goesL_ (some 12) rfl rfl Try.func82 (by kernel_rfl) rfl #[.slice A1 l1.length c1] rfl att14_0_20 ?_; (with_reducible refine (impl_copyInts.calls _ _ l1 t417 _ ?side1 ?side2 A5.out).mono ?_); (case side1 => repeat (first | exact (Kd.C_below HR1.out HB.out) | (with_reducible refine Kd.C_alloc ?_ _) | (with_reducible refine Kd.C_drewN ?_ _) | (with_reducible refine Kd.C_drew ?_))); (case side2 => exact HC1.out); rintro e w8 ⟨v418, rfl, ho0, hb⟩; refine ⟨_, rfl, ?_⟩; have n0_ := Aside0.mk (Kd.R_below att14_0_24 hb); have n1_ := Aside0.mk (Kd.R_lower ho0 (below_size att14_0_0)); have n2_ := Aside0.mk (below_step att14_0_0 hb); clear HO416; clear HB; have HO416 := n0_; have HO419 := n1_; have HB := n2_; clear n0_ n1_ n2_; (try clear hb); (try clear hb2); (try clear hk); (try clear hi); (try clear ho0)))
   go_loopg [6] k (fun kq v6 w' => ∃ (x5_1 : List Bool) (x6_1 : List Int), Aside0 (impl_reached.l0 kq l0 x5_1 x6_1 = some r) ∧ Aside0 (kq ≤ k) ∧ Aside0 (Kd.R Kd.bool 4 w' w.heap.size (fun _ => True) v415 x5_1) ∧ Aside0 (Kd.Q (Kd.int .i64) 3 w' w.heap.size (fun _ => True) v6 x6_1) ∧ Aside0 (Below w.heap.size w w'))
   case atStart => exact ⟨(y414), (t417), H', ⟨Nat.le_refl _⟩, ⟨att14_0_24⟩, ⟨Kd.Q_of_R (by (with_reducible repeat (first | apply Kd.R_alloc | apply Kd.R_drewN | apply Kd.R_drew)); exact HO419.out)⟩, ⟨att14_0_0⟩⟩
   case round =>
    clear H'
    try clear c1
    try clear p2
    try clear c3
    try clear c3b0
    try clear c3b1
    try clear c4
    try clear c4b0
    try clear c4b1
    try clear c6
    try clear c8
    obtain ⟨x5_1, x6_1, HA, HK1, HO_5, HO_6, HB⟩ := hrel
    cases gk with
    | zero => exact absurd HA.out (by simp [impl_reached.l0])
    | succ k1 =>
     have H := HA.out
     clear HA
     simp only [impl_reached.l0] at H
     by_cases c9 : (x6_1.length : Int) > 0
     ·rw [if_pos c9] at H
      have c9b0 : decide (0 < (x6_1.length : Int)) = true := decide_eq_true c9
      have c9b1 : decide (0 < x6_1.length) = true := decide_eq_true (by omega)
      clear c9
      by_cases c10 : 0 < (x6_1.length : Int)
      ·rw [if_pos c10] at H
       have c10b0 : decide (0 < (x6_1.length : Int)) = true := decide_eq_true c10
       have c10b1 : decide (0 < x6_1.length) = true := decide_eq_true (by omega)
       clear c10
       by_cases c11 : 1 ≤ (x6_1.length : Int)
       ·rw [if_pos c11] at H
        have c11b0 := eq_true c11
        have c11b1 : decide (1 ≤ (x6_1.length : Int)) = true := decide_eq_true c11
        clear c11
        obtain ⟨y421, hy421⟩ : ∃ y_ : List Int, y_ = (x6_1.drop (1 : Int).toNat) := ⟨_, rfl⟩
        replace H : (if 0 ≤ (rd x6_1 0) then (if (rd x6_1 0) < (x5_1.length : Int) then (if (rdOf false x5_1 (rd x6_1 0) = true) then (impl_reached.l0 k1 l0 x5_1 y421) else ((impl_nextOf.f l0 (rd x6_1 0)).bind fun t426 => (if y421.length + t426.length < 17592186044416 then (impl_reached.l0 k1 l0 (x5_1.set ((rd x6_1 0) : Int).toNat true) (y421 ++ t426)) else (none)))) else (none)) else (none)) = some r := by first | (rw [hy421]; with_reducible exact H) | (have H2_ := (Option.bind_some _ _).symm.trans H; rw [hy421]; with_reducible exact H2_) | (have H2_ := (Option.bind_some _ _).symm.trans H; with_reducible exact H2_) | with_reducible exact H | (rw [hy421]; exact H) | exact H
        have Ny421 := Aside0.mk hy421
        clear hy421
        by_cases c12 : 0 ≤ (rd x6_1 0)
        ·rw [if_pos c12] at H
         have c12b0 : decide (0 ≤ (rd x6_1 0)) = true := decide_eq_true c12
         clear c12
         by_cases c13 : (rd x6_1 0) < (x5_1.length : Int)
         ·rw [if_pos c13] at H
          have c13b0 : decide ((rd x6_1 0) < (x5_1.length : Int)) = true := decide_eq_true c13
          clear c13
          obtain ⟨bq14, hbq14⟩ : ∃ b_ : Bool, b_ = (rdOf false x5_1 (rd x6_1 0)) := ⟨_, rfl⟩
          replace H : (if (bq14 = true) then (impl_reached.l0 k1 l0 x5_1 y421) else ((impl_nextOf.f l0 (rd x6_1 0)).bind fun t426 => (if y421.length + t426.length < 17592186044416 then (impl_reached.l0 k1 l0 (x5_1.set ((rd x6_1 0) : Int).toNat true) (y421 ++ t426)) else (none)))) = some r := by rw [← hbq14] at H; exact H
          have Nbq14 := Aside0.mk hbq14
          clear hbq14
          by_cases c15 : (bq14 = true)
          ·subst c15
           rw [if_pos rfl] at H
           have H' := Aside0.mk H
           clear H
           obtain ⟨Ao16, co16, eo16, _⟩ := Kd.Q_slice HO_6.out
           subst eo16
           have p420 : 0 ≤ (0 : Int) := (by omega)
           have q420 : 0 < (x6_1.length : Int) := of_decide_eq_true att14_0_5
           obtain ⟨ad420, e420, hx420_0⟩ := Kd.at_int (Kd.Q_reads' HO_6.out).2.2 0 p420 q420
           cases e420
           have qi420 : (0 < x6_1.length) = True := eq_true (by omega)
           (try rw [show ((0 : Int)).toNat = 0 from rfl] at hx420_0)
           (try rw [Addr.add_zero'] at hx420_0)
           replace p420 := eq_true p420
           replace q420 := eq_true q420
           have q17 : (1 : Int) ≤ ((x6_1.length : Int) : Int) := of_decide_eq_true att14_0_5
           obtain ⟨i017, hi017, _, hsz17, _⟩ := info_parts info3
           have hcut17 := cut_from (P := Try.prog) 34 3 .i64 Try.underlying34 hi017 1 hsz17 (some ad420) x6_1.length co16 1 (by omega) q17
           have hr17 := Kd.Q_drop (k := (1 : Int).toNat) HO_6.out (by omega)
           obtain ⟨A17, hA17⟩ : ∃ A1, A1 = (if co16 = (1 : Int).toNat then (some ad420) else ((some ad420) : Option Addr).map (·.add ((1 : Int).toNat * 1))) := ⟨_, rfl⟩
           obtain ⟨c17, hc17⟩ : ∃ c1, c1 = co16 - (1 : Int).toNat := ⟨_, rfl⟩
           have hy17 : y421.length = x6_1.length - (1 : Int).toNat := (by rw [Ny421.out, List.length_drop])
           rw [← Ny421.out] at hr17
           rw [← hy17, ← hA17, ← hc17] at hcut17
           replace hr17 : Kd.Q (Kd.int .i64) 3 wr w.heap.size (fun _ => True) (.slice A17 y421.length c17) y421 := (by rw [hA17, hc17, hy17]; exact hr17)
           have HE17 : Aside0 ((Value.slice A17 y421.length c17).ownBlock = (.slice (some ad420) x6_1.length co16 : Value).ownBlock) := ⟨by rw [hA17]; split <;> (cases ((some ad420) : Option Addr) <;> rfl)⟩
           clear hy17 hi017 hsz17 HO_6 hA17 hc17
           have HO423 := Aside0.mk hr17
           clear hr17
           replace q17 := eq_true q17
           obtain ⟨Ao18, co18, eo18⟩ := Kd.R_slice HO_5.out
           subst eo18
           have p424 : 0 ≤ ((rd x6_1 0) : Int) := of_decide_eq_true att14_0_5
           have q424 : (rd x6_1 0) < (x5_1.length : Int) := of_decide_eq_true att14_0_5
           obtain ⟨ad424, e424, hx424_0⟩ := Kd.at_bool (Kd.R_reads' HO_5.out).2.2 (rd x6_1 0) p424 q424
           (try rw [← Nbq14.out] at hx424_0)
           cases e424
           replace p424 := eq_true p424
           replace q424 := eq_true q424
           go_wp2
           go_roundg k1
           case measure => have := HK1.out; omega
           case rel => exact ⟨(x5_1), (y421), H', ⟨att14_0_17⟩, ⟨att14_0_7⟩, ⟨att14_0_12⟩, ⟨att14_0_0⟩⟩
          ·replace c15 := Bool.eq_false_iff.mpr c15
           subst c15
           rw [if_neg (show ¬ (false = true) by decide)] at H
           obtain ⟨y425, hy425⟩ : ∃ y_ : List Bool, y_ = (x5_1.set ((rd x6_1 0) : Int).toNat true) := ⟨_, rfl⟩
           replace H : ((impl_nextOf.f l0 (rd x6_1 0)).bind fun t426 => (if y421.length + t426.length < 17592186044416 then (impl_reached.l0 k1 l0 y425 (y421 ++ t426)) else (none))) = some r := by first | (rw [hy425]; with_reducible exact H) | (have H2_ := (Option.bind_some _ _).symm.trans H; rw [hy425]; with_reducible exact H2_) | (have H2_ := (Option.bind_some _ _).symm.trans H; with_reducible exact H2_) | with_reducible exact H | (rw [hy425]; exact H) | exact H
           have Ny425 := Aside0.mk hy425
           clear hy425
           replace H := Option.bind_eq_some_iff.mp H
           obtain ⟨t426, A200, H⟩ := H
           (try dsimp only at H)
           have A20 := Aside0.mk A200
           clear A200
           by_cases c21 : y421.length + t426.length < 17592186044416
           ·rw [if_pos c21] at H
            have LMc21 := Aside0.mk c21
            clear c21
            obtain ⟨y429, hy429⟩ : ∃ y_ : List Int, y_ = (y421 ++ t426) := ⟨_, rfl⟩
            replace H : (impl_reached.l0 k1 l0 y425 y429) = some r := by first | (rw [hy429]; with_reducible exact H) | (have H2_ := (Option.bind_some _ _).symm.trans H; rw [hy429]; with_reducible exact H2_) | (have H2_ := (Option.bind_some _ _).symm.trans H; with_reducible exact H2_) | with_reducible exact H | (rw [hy429]; exact H) | exact H
            have Ny429 := Aside0.mk hy429
            clear hy429
            have H' := Aside0.mk H
            clear H
            obtain ⟨Ao22, co22, eo22, _⟩ := Kd.Q_slice HO_6.out
            subst eo22
            have p420 : 0 ≤ (0 : Int) := (by omega)
            have q420 : 0 < (x6_1.length : Int) := of_decide_eq_true att14_0_5
            obtain ⟨ad420, e420, hx420_0⟩ := Kd.at_int (Kd.Q_reads' HO_6.out).2.2 0 p420 q420
            cases e420
            have qi420 : (0 < x6_1.length) = True := eq_true (by omega)
            (try rw [show ((0 : Int)).toNat = 0 from rfl] at hx420_0)
            (try rw [Addr.add_zero'] at hx420_0)
            replace p420 := eq_true p420
            replace q420 := eq_true q420
            have q23 : (1 : Int) ≤ ((x6_1.length : Int) : Int) := of_decide_eq_true att14_0_5
            obtain ⟨i023, hi023, _, hsz23, _⟩ := info_parts info3
            have hcut23 := cut_from (P := Try.prog) 34 3 .i64 Try.underlying34 hi023 1 hsz23 (some ad420) x6_1.length co22 1 (by omega) q23
            have hr23 := Kd.Q_drop (k := (1 : Int).toNat) HO_6.out (by omega)
            obtain ⟨A23, hA23⟩ : ∃ A1, A1 = (if co22 = (1 : Int).toNat then (some ad420) else ((some ad420) : Option Addr).map (·.add ((1 : Int).toNat * 1))) := ⟨_, rfl⟩
            obtain ⟨c23, hc23⟩ : ∃ c1, c1 = co22 - (1 : Int).toNat := ⟨_, rfl⟩
            have hy23 : y421.length = x6_1.length - (1 : Int).toNat := (by rw [Ny421.out, List.length_drop])
            rw [← Ny421.out] at hr23
            rw [← hy23, ← hA23, ← hc23] at hcut23
            replace hr23 : Kd.Q (Kd.int .i64) 3 wr w.heap.size (fun _ => True) (.slice A23 y421.length c23) y421 := (by rw [hA23, hc23, hy23]; exact hr23)
            have HE23 : Aside0 ((Value.slice A23 y421.length c23).ownBlock = (.slice (some ad420) x6_1.length co22 : Value).ownBlock) := ⟨by rw [hA23]; split <;> (cases ((some ad420) : Option Addr) <;> rfl)⟩
            clear hy23 hi023 hsz23 HO_6 hA23 hc23
            have HO423 := Aside0.mk hr23
            clear hr23
            replace q23 := eq_true q23
            obtain ⟨Ao24, co24, eo24⟩ := Kd.R_slice HO_5.out
            subst eo24
            have p424 : 0 ≤ ((rd x6_1 0) : Int) := of_decide_eq_true att14_0_5
            have q424 : (rd x6_1 0) < (x5_1.length : Int) := of_decide_eq_true att14_0_5
            obtain ⟨ad424, e424, hx424_0⟩ := Kd.at_bool (Kd.R_reads' HO_5.out).2.2 (rd x6_1 0) p424 q424
            (try rw [← Nbq14.out] at hx424_0)
            cases e424
            replace p424 := eq_true p424
            replace q424 := eq_true q424
            have p19 : 0 ≤ ((rd x6_1 0) : Int) := of_decide_eq_true att14_0_5
            have q19 : ((rd x6_1 0) : Int) < ((x5_1.length : Int) : Int) := of_decide_eq_true att14_0_5
            obtain ⟨go19, co19, eo19, gb19, gl19, cl19, HG19⟩ := Kd.R_form HO_5.out (by omega)
            (first | cases eo19 | (injection eo19 with ea_ en_ ec_; (first | subst ea_ | (injection ea_ with ea_; subst ea_)); subst ec_; clear en_))
            have GB19 := Aside0.mk gb19
            have GG19 := Aside0.mk HG19
            clear gb19 gl19 HG19
            (first | simp only [add_plain] at hx424_0 | skip)
            obtain ⟨hx19_0, hf19_0⟩ := Kd.R_celln false HO_5.out ((rd x6_1 0) : Int) p19 q19
            replace p19 := eq_true p19
            replace q19 := eq_true q19
            have HP25 := Kd.R_putg HO_5.out ((rd x6_1 0) : Int) true
            go_wp2_with (first | ((with_reducible refine gate_store (t := 4) (p := 28) rfl ?_); refine store_event (t := 4) (p := 28) (v := ?vo_w26) (w1 := (wr.setCell ⟨go19, ((rd x6_1 0) : Int).toNat, none⟩ (.bool true))) ?hg ?ho ?hn ?hr ?_; (case ho => rfl); (case hg => rfl); (case hn => rfl); (case hr => first | (go_simp; done) | (go_simp; rfl)); intro w26 hw; have hg : wr.grownBy w26 (some go19) := (by rw [hw]; exact HP25.2); have hp_ : Kd.R Kd.bool 4 w26 w.heap.size (fun _ => True) (.slice (some ⟨go19, 0, none⟩) x5_1.length co24) y425 := (by rw [hw, Ny425.out]; exact HP25.1); clear HP25; have n0_ := Aside0.mk (hp_); have n1_ := Aside0.mk (Kd.Q_over' (v := (.slice (some ⟨go19, 0, none⟩) x5_1.length co24)) att14_0_12 (Kd.R_typed HO_5.out) (by decide) hg); have n2_ := Aside0.mk ((by rw [hw]; exact below_set (HB.out) GB19.out : Below w.heap.size w w26)); clear HO_5; clear HO423; clear HB; have HO_5 := n0_; have HO423 := n1_; have HB := n2_; clear n0_ n1_ n2_; clear hg hw hp_) | ((with_reducible refine gate_callee (f := 78) rfl ?_); refine goesL_ (some 32) rfl rfl Try.func78 (by kernel_rfl) rfl #[.slice A0 l0.length c0, .int .i64 (rd x6_1 0)] rfl att14_0_20 ?_; (with_reducible refine (impl_nextOf.calls _ _ l0 (rd x6_1 0) t426 _ ?side1 ?side2 A20.out).mono ?_); (case side1 => repeat (first | exact (Kd.C_below HR0.out HB.out) | (with_reducible refine Kd.C_alloc ?_ _) | (with_reducible refine Kd.C_drewN ?_ _) | (with_reducible refine Kd.C_drew ?_))); (case side2 => exact HC0.out); rintro e w27 ⟨v427, rfl, ho0, hb⟩; refine ⟨_, rfl, ?_⟩; have n0_ := Aside0.mk (Kd.R_below att14_0_7 hb); have n1_ := Aside0.mk (Kd.Q_elder' att14_0_12 (Kd.R_base ho0) hb); have n2_ := Aside0.mk (Kd.R_lower (Kd.R_new' ho0 (Kd.Q_lt att14_0_12)) (below_size att14_0_0)); have n3_ := Aside0.mk (below_step att14_0_0 hb); clear HO_5; clear HO423; clear HB; have HO_5 := n0_; have HO423 := n1_; have HO428 := n2_; have HB := n3_; clear n0_ n1_ n2_ n3_; (try clear hb); (try clear hb2); (try clear hk); (try clear hi); (try clear ho0); obtain ⟨Ao29, co29, eo29⟩ := Kd.R_slice HO428.out; subst eo29) | ((with_reducible refine gate_builtin (b := .append) (xs := #[.tmp 29, .tmp 32]) rfl ?_); at_builtin; refine Kd.Q_append_rows (Kd.int .i64) (w0 := w) w.heap.size rfl (.tmp 29) (.tmp 32) 34 3 (.int .i64 0) 8 rfl Try.underlying34 info3 rfl (by decide) (by omega) (.slice A23 y421.length c23) y421 t426 _ _ _ (fun k_ => some k_ ≠ (.slice Ao29 t426.length co29 : Value).ownBlock) (fun _ => False) rfl rfl ?aO ?aR (fun _ _ h => h) (fun _ h => h.elim) ?aF ?aB ?aS ?aL ?_; (case aR => repeat (first | exact (Kd.R_reads' HO428.out).2.2 | (with_reducible refine Kd.C_alloc ?_ _) | (with_reducible refine Kd.C_drewN ?_ _) | (with_reducible refine Kd.C_drew ?_))); (case aB => exact att14_0_0); (case aF => exact (fun k_ hk => Kd.fresh' (Kd.R_lt att14_0_23) k_ hk)); (case aO => exact (by (with_reducible repeat (first | apply Kd.Q_alloc | apply Kd.Q_drewN | apply Kd.Q_drew)); exact Kd.Q_mono HO423.out (fun _ hk => hk.2))); (case aS => exact (below_size att14_0_0)); (case aL => have := LMc21.out; omega); intro v430 w28 ho hb hg hat; rw [← Ny429.out] at ho; have n0_ := Aside0.mk (Kd.R_over' att14_0_7 (Kd.Q_typed att14_0_12) (by decide) hg); have n1_ := Aside0.mk (Kd.R_after (ok := (fun _ => True)) att14_0_23 hg hat); have n2_ := Aside0.mk (hb); have n3_ := Aside0.mk (ho); clear HO_5; clear HO428; clear HB; clear HO423; have HO_5 := n0_; have HO428 := n1_; have HB := n2_; have HO431 := n3_; clear n0_ n1_ n2_ n3_; clear ho hb hg hat))
            go_roundg k1
            case measure => have := HK1.out; omega
            case rel => exact ⟨(y425), (y429), H', ⟨att14_0_17⟩, ⟨att14_0_7⟩, ⟨by (with_reducible repeat (first | apply Kd.Q_alloc | apply Kd.Q_drewN | apply Kd.Q_drew)); exact Kd.Q_mono HO431.out (fun _ hk => trivial)⟩, ⟨att14_0_0⟩⟩
           ·rw [if_neg c21] at H
            exact absurd H (by simp)
         ·rw [if_neg c13] at H
          exact absurd H (by simp)
        ·rw [if_neg c12] at H
         exact absurd H (by simp)
       ·rw [if_neg c11] at H
        exact absurd H (by simp)
      ·rw [if_neg c10] at H
       exact absurd H (by simp)
     ·rw [if_neg c9] at H
      have c9b0 : decide (0 < (x6_1.length : Int)) = false := decide_eq_false c9
      have c9b1 : decide (0 < x6_1.length) = false := decide_eq_false (by omega)
      clear c9
      obtain rfl := Option.some.inj H
      obtain ⟨Ao30, co30, eo30, _⟩ := Kd.Q_slice HO_6.out
      subst eo30
      go_wp2
      go_ret
      exact ⟨_, by first | rfl | (simp [errW_none, errW_some] <;> rfl) | (simp [*, errW_none, errW_some] <;> rfl), by (with_reducible repeat (first | apply Kd.R_alloc | apply Kd.R_drewN | apply Kd.R_drew)); exact HO_5.out, att14_0_0⟩
  ·rw [if_neg c4] at H
   exact absurd H (by simp)
 ·rw [if_neg c3] at H
  exact absurd H (by simp)

/-! ### impl_DeadAt: function 41 -/
def impl_DeadAt.l0 : Nat → List (S63) → List Int → List (List Int) → List Bool → List (S63) → Int → Int → Option (List Int)
 | 0, _, _, _, _, _, _, _ => none
 | k + 1, x0, x3, x4, x5, x19, x20, x21 => if x21 < x20 then (if 0 ≤ x21 then (if x21 < (x19.length : Int) then ((impl_within.f ((rd_T63 x19 x21).f0) 1 4).bind fun t447 => (if t447 = true then (if x21 < (x5.length : Int) then (if rdOf false x5 x21 = true then (if (wrap64 (x21 + 1)) < (x0.length : Int) then (if 0 ≤ (wrap64 (x21 + 1)) then (if (wrap64 (x21 + 1)) < (x4.length : Int) then ((slices_Contains_int_int.f k (rd_L5 x4 (wrap64 (x21 + 1))) ((rd_T63 x19 x21).f1)).bind fun t450 => (if t450 = true then (impl_DeadAt.l0 k x0 x3 x4 x5 x19 x20 (wrap64 (x21 + 1))) else (if x3.length < 17592186044416 then (impl_DeadAt.l0 k x0 (x3 ++ [x21]) x4 x5 x19 x20 (wrap64 (x21 + 1))) else (none)))) else (none)) else (none)) else (impl_DeadAt.l0 k x0 x3 x4 x5 x19 x20 (wrap64 (x21 + 1)))) else (impl_DeadAt.l0 k x0 x3 x4 x5 x19 x20 (wrap64 (x21 + 1)))) else (none)) else (impl_DeadAt.l0 k x0 x3 x4 x5 x19 x20 (wrap64 (x21 + 1))))) else (none)) else (none)) else (some x3)
def impl_DeadAt.f (k : Nat) (l0 : List (S63)) : Option (List Int) := (some (([] : List Int) : List Int)).bind fun y432 => ((impl_BodyOk.f k l0 3).bind fun t435 => (if t435 = true then ((impl_LiveAt.f k l0).bind fun t436 => ((impl_reached.f k l0 (([0] : List Int))).bind fun t442 => (impl_DeadAt.l0 k l0 y432 t436 t442 l0 (l0.length : Int) 0))) else (some y432)))
theorem impl_DeadAt.mono_l : ∀ k, (∀ y0 y1 y2 y3 y4 y5 y6, LeO (impl_DeadAt.l0 k y0 y1 y2 y3 y4 y5 y6) (impl_DeadAt.l0 (k + 1) y0 y1 y2 y3 y4 y5 y6))
 | 0 => fun _ _ _ _ _ _ _ r h => by simp [impl_DeadAt.l0] at h
 | k + 1 => by
  have ih0 := impl_DeadAt.mono_l k
  ·intro y0 y1 y2 y3 y4 y5 y6
   unfold impl_DeadAt.l0
   repeat' first
   | (with_reducible exact ih0 _ _ _ _ _ _ _)
   | (with_reducible exact impl_BodyOk.mono _ _ _)
   | (with_reducible exact impl_LiveAt.mono _ _)
   | (with_reducible exact impl_reached.mono _ _ _)
   | (with_reducible exact slices_Contains_int_int.mono _ _ _)
   | (with_reducible exact LeO.refl _)
   | (with_reducible exact LeO.none _)
   | (with_reducible refine LeO.ite ?_ ?_)
   | (with_reducible refine LeO.bind ?_ (fun _ => ?_))
   | exact ih0 _ _ _ _ _ _ _
   | exact impl_BodyOk.mono _ _ _
   | exact impl_LiveAt.mono _ _
   | exact impl_reached.mono _ _ _
   | exact slices_Contains_int_int.mono _ _ _
   | exact LeO.none _
   | refine LeO.ite ?_ ?_
   | refine LeO.bind ?_ (fun _ => ?_)
theorem impl_DeadAt.mono : ∀ a0 k, LeO (impl_DeadAt.f k a0) (impl_DeadAt.f (k + 1) a0) := by
 intro a0 k
 have ih0 := impl_DeadAt.mono_l k
 unfold impl_DeadAt.f
 repeat' first
   | (with_reducible exact ih0 _ _ _ _ _ _ _)
   | (with_reducible exact impl_BodyOk.mono _ _ _)
   | (with_reducible exact impl_LiveAt.mono _ _)
   | (with_reducible exact impl_reached.mono _ _ _)
   | (with_reducible exact slices_Contains_int_int.mono _ _ _)
   | (with_reducible exact LeO.refl _)
   | (with_reducible exact LeO.none _)
   | (with_reducible refine LeO.ite ?_ ?_)
   | (with_reducible refine LeO.bind ?_ (fun _ => ?_))
   | exact ih0 _ _ _ _ _ _ _
   | exact impl_BodyOk.mono _ _ _
   | exact impl_LiveAt.mono _ _
   | exact impl_reached.mono _ _ _
   | exact slices_Contains_int_int.mono _ _ _
   | exact LeO.none _
   | refine LeO.ite ?_ ?_
   | refine LeO.bind ?_ (fun _ => ?_)
set_option maxHeartbeats 80000000 in
set_option maxRecDepth 100000 in
theorem impl_DeadAt.calls (k : Nat) (A0 : Option Addr) (c0 : Nat) (l0 : List (S63)) (r : List Int) (w : World) (hr0 : Kd.C k63 w A0 l0.length l0) (hc0 : l0.length ≤ c0) (h : impl_DeadAt.f k l0 = some r) :
  Calls Try.prog 41 #[.slice A0 l0.length c0] w fun e w' => ∃ v0_ : Value, e = .returned (v0_) ∧ Kd.R (Kd.int .i64) 3 w' w.heap.size (fun _ => True) v0_ r ∧ Below w.heap.size w w' := by
 have hu63 := Try.underlying63
 have HR0 := Aside0.mk hr0
 have HC0 := Aside0.mk hc0
 clear hr0 hc0
 have HB := Aside0.mk (Below.refl w.heap.size w)
 have H : ((some (([] : List Int) : List Int)).bind fun y432 => ((impl_BodyOk.f k l0 3).bind fun t435 => (if t435 = true then ((impl_LiveAt.f k l0).bind fun t436 => ((impl_reached.f k l0 (([0] : List Int))).bind fun t442 => (impl_DeadAt.l0 k l0 y432 t436 t442 l0 (l0.length : Int) 0))) else (some y432)))) = some r := h
 clear h
 obtain ⟨y432, hy432⟩ : ∃ y_ : List Int, y_ = (([] : List Int)) := ⟨_, rfl⟩
 replace H : ((impl_BodyOk.f k l0 3).bind fun t435 => (if t435 = true then ((impl_LiveAt.f k l0).bind fun t436 => ((impl_reached.f k l0 (([0] : List Int))).bind fun t442 => (impl_DeadAt.l0 k l0 y432 t436 t442 l0 (l0.length : Int) 0))) else (some y432))) = some r := by first | (rw [hy432]; with_reducible exact H) | (have H2_ := (Option.bind_some _ _).symm.trans H; rw [hy432]; with_reducible exact H2_) | (have H2_ := (Option.bind_some _ _).symm.trans H; with_reducible exact H2_) | with_reducible exact H | (rw [hy432]; exact H) | exact H
 have Ny432 := Aside0.mk hy432
 clear hy432
 replace H := Option.bind_eq_some_iff.mp H
 obtain ⟨t435, A20, H⟩ := H
 (try dsimp only at H)
 have A2 := Aside0.mk A20
 clear A20
 by_cases c3 : t435 = true
 ·subst c3
  rw [if_pos rfl] at H
  replace H := Option.bind_eq_some_iff.mp H
  obtain ⟨t436, A40, H⟩ := H
  (try dsimp only at H)
  have A4 := Aside0.mk A40
  clear A40
  obtain ⟨y439, hy439⟩ : ∃ y_ : List Int, y_ = (([0] : List Int)) := ⟨_, rfl⟩
  replace H : ((impl_reached.f k l0 y439).bind fun t442 => (impl_DeadAt.l0 k l0 y432 t436 t442 l0 (l0.length : Int) 0)) = some r := by first | (rw [hy439]; with_reducible exact H) | (have H2_ := (Option.bind_some _ _).symm.trans H; rw [hy439]; with_reducible exact H2_) | (have H2_ := (Option.bind_some _ _).symm.trans H; with_reducible exact H2_) | with_reducible exact H | (rw [hy439]; exact H) | exact H
  have Ny439 := Aside0.mk hy439
  clear hy439
  replace H := Option.bind_eq_some_iff.mp H
  obtain ⟨t442, A50, H⟩ := H
  (try dsimp only at H)
  have A5 := Aside0.mk A50
  clear A50
  have H' := Aside0.mk H
  clear H
  go_enter Try.func41, Try.ntmps41
  go_wp2_with (first | ((with_reducible refine gate_dst (N := 9) rfl ?_); (try (refine gate_guard (by rfl) ?_; dsimp only)); refine Kd.R_lit (Kd.int .i64) _ 3 ?hg (N := 9) ?hd (xs := ([] : List Int)) (inner := []) (ok := fun _ => True) (okp := fun _ => True) ?hr ?hp (fun _ hk => hk) trivial (Below.refl _ _) (Nat.le_refl _) (by simp) ?_; (case hd => rfl); (case hg => rfl); (case hr => first | (go_simp; done) | (go_simp; rfl)); (case hp => exact (Reps.none _ _)); intro v433 w6 ho7 hb hg_ hnew_; clear hg_ hnew_; (first | rw [← Ny432.out] at ho7 | (simp only [Int.reduceToNat] at ho7; rw [← Ny432.out] at ho7)); have n0_ := Aside0.mk (Kd.R_lower ho7 (below_size att14_0_0)); have n1_ := Aside0.mk (below_step att14_0_0 hb); clear HB; have HO434 := n0_; have HB := n1_; clear n0_ n1_; clear hb ho7) | (go_at_call 34; (with_reducible refine (impl_BodyOk.calls k _ _ l0 3 true _ ?side1 ?side2 A2.out).mono ?_); (case side1 => repeat (first | exact (Kd.C_below HR0.out HB.out) | (with_reducible refine Kd.C_alloc ?_ _) | (with_reducible refine Kd.C_drewN ?_ _) | (with_reducible refine Kd.C_drew ?_))); (case side2 => exact HC0.out); rintro e w8 ⟨rfl, hb⟩; have n0_ := Aside0.mk (Kd.R_below att14_0_9 hb); have n1_ := Aside0.mk (below_step att14_0_0 hb); clear HO434; clear HB; have HO434 := n0_; have HB := n1_; clear n0_ n1_; (try clear hb); (try clear hb2); (try clear hk); (try clear hi)) | (go_at_call 36; (with_reducible refine (impl_LiveAt.calls k _ _ l0 t436 _ ?side1 ?side2 A4.out).mono ?_); (case side1 => repeat (first | exact (Kd.C_below HR0.out HB.out) | (with_reducible refine Kd.C_alloc ?_ _) | (with_reducible refine Kd.C_drewN ?_ _) | (with_reducible refine Kd.C_drew ?_))); (case side2 => exact HC0.out); rintro e w9 ⟨v437, rfl, ho0, hb⟩; have n0_ := Aside0.mk (Kd.R_below att14_0_9 hb); have n1_ := Aside0.mk (Kd.S_lower (Kd.S_new' ho0 (Kd.R_lt att14_0_9)) (below_size att14_0_0)); have n2_ := Aside0.mk (below_step att14_0_0 hb); clear HO434; clear HB; have HO434 := n0_; have HO438 := n1_; have HB := n2_; clear n0_ n1_ n2_; (try clear hb); (try clear hb2); (try clear hk); (try clear hi); (try clear ho0)) | ((with_reducible refine gate_dst (N := 17) rfl ?_); (try (refine gate_guard (by rfl) ?_; dsimp only)); refine Kd.R_lit (Kd.int .i64) _ 3 ?hg (N := 17) ?hd (xs := ([0] : List Int)) (inner := [.int .i64 0]) (ok := fun _ => True) (okp := fun _ => True) ?hr ?hp (fun _ hk => hk) trivial (Below.refl _ _) (Nat.le_refl _) (by simp) ?_; (case hd => rfl); (case hg => rfl); (case hr => first | (go_simp; done) | (go_simp; rfl)); (case hp => exact (Reps.one (show Kd.M (Kd.int .i64) _ _ _ 0 [.int .i64 0] from rfl) (Reps.none _ _))); intro v440 w10 ho11 hb hg_ hnew_; clear hg_ hnew_; (first | rw [← Ny439.out] at ho11 | (simp only [Int.reduceToNat] at ho11; rw [← Ny439.out] at ho11)); have n0_ := Aside0.mk (Kd.R_elder' att14_0_9 (Kd.R_base ho11) hb); have n1_ := Aside0.mk (Kd.S_elder' att14_0_15 (Kd.R_base ho11) hb); have n2_ := Aside0.mk (Kd.R_lower (Kd.R_new' ho11 (Kd.R_lt att14_0_9)) (below_size att14_0_0)); have n3_ := Aside0.mk (below_step att14_0_0 hb); clear HO434; clear HO438; clear HB; have HO434 := n0_; have HO438 := n1_; have HO441 := n2_; have HB := n3_; clear n0_ n1_ n2_ n3_; clear hb ho11; obtain ⟨Ao12, co12, eo12⟩ := Kd.R_slice HO441.out; subst eo12) | (go_at_call 68; (with_reducible refine (impl_reached.calls k _ _ l0 _ _ y439 t442 _ ?side1 ?side2 ?side3 ?side4 A5.out).mono ?_); (case side1 => repeat (first | exact (Kd.C_below HR0.out HB.out) | (with_reducible refine Kd.C_alloc ?_ _) | (with_reducible refine Kd.C_drewN ?_ _) | (with_reducible refine Kd.C_drew ?_))); (case side2 => exact HC0.out); (case side3 => repeat (first | exact (Kd.R_reads' HO441.out).2.2 | (with_reducible refine Kd.C_alloc ?_ _) | (with_reducible refine Kd.C_drewN ?_ _) | (with_reducible refine Kd.C_drew ?_))); (case side4 => exact (Kd.R_reads' HO441.out).2.1); rintro e w13 ⟨v443, rfl, ho0, hb⟩; have n0_ := Aside0.mk (Kd.R_below att14_0_9 hb); have n1_ := Aside0.mk (Kd.S_below att14_0_15 hb); have n2_ := Aside0.mk (Kd.R_below att14_0_22 hb); have n3_ := Aside0.mk (Kd.R_lower ho0 (below_size att14_0_0)); have n4_ := Aside0.mk (below_step att14_0_0 hb); clear HO434; clear HO438; clear HO441; clear HB; have HO434 := n0_; have HO438 := n1_; have HO441 := n2_; have HO444 := n3_; have HB := n4_; clear n0_ n1_ n2_ n3_ n4_; (try clear hb); (try clear hb2); (try clear hk); (try clear hi); (try clear ho0)))
  repeat (go_quiet (fail); try go_wp2_with (first | ((with_reducible refine gate_dst (N := 9) rfl ?_); (try (refine gate_guard (by rfl) ?_; dsimp only)); refine Kd.R_lit (Kd.int .i64) _ 3 ?hg (N := 9) ?hd (xs := ([] : List Int)) (inner := []) (ok := fun _ => True) (okp := fun _ => True) ?hr ?hp (fun _ hk => hk) trivial (Below.refl _ _) (Nat.le_refl _) (by simp) ?_; (case hd => rfl); (case hg => rfl); (case hr => first | (go_simp; done) | (go_simp; rfl)); (case hp => exact (Reps.none _ _)); intro v433 w6 ho7 hb hg_ hnew_; clear hg_ hnew_; (first | rw [← Ny432.out] at ho7 | (simp only [Int.reduceToNat] at ho7; rw [← Ny432.out] at ho7)); have n0_ := Aside0.mk (Kd.R_lower ho7 (below_size att14_0_0)); have n1_ := Aside0.mk (below_step att14_0_0 hb); clear HB; have HO434 := n0_; have HB := n1_; clear n0_ n1_; clear hb ho7) | (go_at_call 34; (with_reducible refine (impl_BodyOk.calls k _ _ l0 3 true _ ?side1 ?side2 A2.out).mono ?_); (case side1 => repeat (first | exact (Kd.C_below HR0.out HB.out) | (with_reducible refine Kd.C_alloc ?_ _) | (with_reducible refine Kd.C_drewN ?_ _) | (with_reducible refine Kd.C_drew ?_))); (case side2 => exact HC0.out); rintro e w8 ⟨rfl, hb⟩; have n0_ := Aside0.mk (Kd.R_below att14_0_9 hb); have n1_ := Aside0.mk (below_step att14_0_0 hb); clear HO434; clear HB; have HO434 := n0_; have HB := n1_; clear n0_ n1_; (try clear hb); (try clear hb2); (try clear hk); (try clear hi)) | (go_at_call 36; (with_reducible refine (impl_LiveAt.calls k _ _ l0 t436 _ ?side1 ?side2 A4.out).mono ?_); (case side1 => repeat (first | exact (Kd.C_below HR0.out HB.out) | (with_reducible refine Kd.C_alloc ?_ _) | (with_reducible refine Kd.C_drewN ?_ _) | (with_reducible refine Kd.C_drew ?_))); (case side2 => exact HC0.out); rintro e w9 ⟨v437, rfl, ho0, hb⟩; have n0_ := Aside0.mk (Kd.R_below att14_0_9 hb); have n1_ := Aside0.mk (Kd.S_lower (Kd.S_new' ho0 (Kd.R_lt att14_0_9)) (below_size att14_0_0)); have n2_ := Aside0.mk (below_step att14_0_0 hb); clear HO434; clear HB; have HO434 := n0_; have HO438 := n1_; have HB := n2_; clear n0_ n1_ n2_; (try clear hb); (try clear hb2); (try clear hk); (try clear hi); (try clear ho0)) | ((with_reducible refine gate_dst (N := 17) rfl ?_); (try (refine gate_guard (by rfl) ?_; dsimp only)); refine Kd.R_lit (Kd.int .i64) _ 3 ?hg (N := 17) ?hd (xs := ([0] : List Int)) (inner := [.int .i64 0]) (ok := fun _ => True) (okp := fun _ => True) ?hr ?hp (fun _ hk => hk) trivial (Below.refl _ _) (Nat.le_refl _) (by simp) ?_; (case hd => rfl); (case hg => rfl); (case hr => first | (go_simp; done) | (go_simp; rfl)); (case hp => exact (Reps.one (show Kd.M (Kd.int .i64) _ _ _ 0 [.int .i64 0] from rfl) (Reps.none _ _))); intro v440 w10 ho11 hb hg_ hnew_; clear hg_ hnew_; (first | rw [← Ny439.out] at ho11 | (simp only [Int.reduceToNat] at ho11; rw [← Ny439.out] at ho11)); have n0_ := Aside0.mk (Kd.R_elder' att14_0_9 (Kd.R_base ho11) hb); have n1_ := Aside0.mk (Kd.S_elder' att14_0_15 (Kd.R_base ho11) hb); have n2_ := Aside0.mk (Kd.R_lower (Kd.R_new' ho11 (Kd.R_lt att14_0_9)) (below_size att14_0_0)); have n3_ := Aside0.mk (below_step att14_0_0 hb); clear HO434; clear HO438; clear HB; have HO434 := n0_; have HO438 := n1_; have HO441 := n2_; have HB := n3_; clear n0_ n1_ n2_ n3_; clear hb ho11; obtain ⟨Ao12, co12, eo12⟩ := Kd.R_slice HO441.out; subst eo12) | (go_at_call 68; (with_reducible refine (impl_reached.calls k _ _ l0 _ _ y439 t442 _ ?side1 ?side2 ?side3 ?side4 A5.out).mono ?_); (case side1 => repeat (first | exact (Kd.C_below HR0.out HB.out) | (with_reducible refine Kd.C_alloc ?_ _) | (with_reducible refine Kd.C_drewN ?_ _) | (with_reducible refine Kd.C_drew ?_))); (case side2 => exact HC0.out); (case side3 => repeat (first | exact (Kd.R_reads' HO441.out).2.2 | (with_reducible refine Kd.C_alloc ?_ _) | (with_reducible refine Kd.C_drewN ?_ _) | (with_reducible refine Kd.C_drew ?_))); (case side4 => exact (Kd.R_reads' HO441.out).2.1); rintro e w13 ⟨v443, rfl, ho0, hb⟩; have n0_ := Aside0.mk (Kd.R_below att14_0_9 hb); have n1_ := Aside0.mk (Kd.S_below att14_0_15 hb); have n2_ := Aside0.mk (Kd.R_below att14_0_22 hb); have n3_ := Aside0.mk (Kd.R_lower ho0 (below_size att14_0_0)); have n4_ := Aside0.mk (below_step att14_0_0 hb); clear HO434; clear HO438; clear HO441; clear HB; have HO434 := n0_; have HO438 := n1_; have HO441 := n2_; have HO444 := n3_; have HB := n4_; clear n0_ n1_ n2_ n3_ n4_; (try clear hb); (try clear hb2); (try clear hk); (try clear hi); (try clear ho0))))
  go_loopg [3, 21] k (fun kq v3 v21 w' => ∃ (x3_1 : List Int) (x21_1 : Int), v21 = .int .i64 x21_1 ∧ Aside0 (impl_DeadAt.l0 kq l0 x3_1 t436 t442 l0 (l0.length : Int) x21_1 = some r) ∧ Aside0 (kq ≤ k) ∧ Aside0 (Kd.R (Kd.int .i64) 3 w' w.heap.size (fun _ => True) v3 x3_1) ∧ Aside0 (Kd.S (Kd.slice 3 (Kd.int .i64)) 34 w' w.heap.size (fun k_ => some k_ ≠ (v3 : Value).ownBlock) v437 t436) ∧ Aside0 (Kd.R Kd.bool 4 w' w.heap.size (fun _ => True) v443 t442) ∧ Aside0 (Below w.heap.size w w'))
  case atStart => exact ⟨(y432), (0), att14_0_13, H', ⟨Nat.le_refl _⟩, ⟨by (with_reducible repeat (first | apply Kd.R_alloc | apply Kd.R_drewN | apply Kd.R_drew)); exact Kd.R_mono HO434.out (fun _ hk => trivial)⟩, ⟨by (with_reducible repeat (first | apply Kd.S_alloc | apply Kd.S_drewN | apply Kd.S_drew)); exact Kd.S_mono HO438.out (fun _ hk => hk.1.2)⟩, ⟨by (with_reducible repeat (first | apply Kd.R_alloc | apply Kd.R_drewN | apply Kd.R_drew)); exact HO444.out⟩, ⟨att14_0_0⟩⟩
  case round =>
   clear H'
   try clear p2
   try clear c3
   try clear c4
   obtain ⟨x3_1, x21_1, rfl, HA, HK1, HO_3, HO_4, HO_5, HB⟩ := hrel
   cases gk with
   | zero => exact absurd HA.out (by simp [impl_DeadAt.l0])
   | succ k1 =>
    have H := HA.out
    clear HA
    simp only [impl_DeadAt.l0] at H
    by_cases c14 : x21_1 < (l0.length : Int)
    ·rw [if_pos c14] at H
     have c14b0 : decide (x21_1 < (l0.length : Int)) = true := decide_eq_true c14
     clear c14
     by_cases c15 : 0 ≤ x21_1
     ·rw [if_pos c15] at H
      have c15b0 : decide (0 ≤ x21_1) = true := decide_eq_true c15
      clear c15
      by_cases c16 : x21_1 < (l0.length : Int)
      ·rw [if_pos c16] at H
       have c16b0 : decide (x21_1 < (l0.length : Int)) = true := decide_eq_true c16
       clear c16
       replace H := Option.bind_eq_some_iff.mp H
       obtain ⟨t447, A170, H⟩ := H
       (try dsimp only at H)
       have A17 := Aside0.mk A170
       clear A170
       by_cases c18 : t447 = true
       ·subst c18
        rw [if_pos rfl] at H
        by_cases c19 : x21_1 < (t442.length : Int)
        ·rw [if_pos c19] at H
         have c19b0 : decide (x21_1 < (t442.length : Int)) = true := decide_eq_true c19
         clear c19
         obtain ⟨bq20, hbq20⟩ : ∃ b_ : Bool, b_ = (rdOf false t442 x21_1) := ⟨_, rfl⟩
         replace H : (if bq20 = true then (if (wrap64 (x21_1 + 1)) < (l0.length : Int) then (if 0 ≤ (wrap64 (x21_1 + 1)) then (if (wrap64 (x21_1 + 1)) < (t436.length : Int) then ((slices_Contains_int_int.f k1 (rd_L5 t436 (wrap64 (x21_1 + 1))) ((rd_T63 l0 x21_1).f1)).bind fun t450 => (if t450 = true then (impl_DeadAt.l0 k1 l0 x3_1 t436 t442 l0 (l0.length : Int) (wrap64 (x21_1 + 1))) else (if x3_1.length < 17592186044416 then (impl_DeadAt.l0 k1 l0 (x3_1 ++ [x21_1]) t436 t442 l0 (l0.length : Int) (wrap64 (x21_1 + 1))) else (none)))) else (none)) else (none)) else (impl_DeadAt.l0 k1 l0 x3_1 t436 t442 l0 (l0.length : Int) (wrap64 (x21_1 + 1)))) else (impl_DeadAt.l0 k1 l0 x3_1 t436 t442 l0 (l0.length : Int) (wrap64 (x21_1 + 1)))) = some r := by rw [← hbq20] at H; exact H
         have Nbq20 := Aside0.mk hbq20
         clear hbq20
         by_cases c21 : bq20 = true
         ·subst c21
          rw [if_pos rfl] at H
          by_cases c22 : (wrap64 (x21_1 + 1)) < (l0.length : Int)
          ·rw [if_pos c22] at H
           have c22b0 : decide ((wrap64 (x21_1 + 1)) < (l0.length : Int)) = true := decide_eq_true c22
           clear c22
           obtain ⟨ji23, hji23⟩ : ∃ j_ : Int, (wrap64 (x21_1 + 1)) = j_ := ⟨_, rfl⟩
           replace H : (if 0 ≤ (ji23) then (if (ji23) < (t436.length : Int) then ((slices_Contains_int_int.f k1 (rd_L5 t436 (ji23)) ((rd_T63 l0 x21_1).f1)).bind fun t450 => (if t450 = true then (impl_DeadAt.l0 k1 l0 x3_1 t436 t442 l0 (l0.length : Int) ji23) else (if x3_1.length < 17592186044416 then (impl_DeadAt.l0 k1 l0 (x3_1 ++ [x21_1]) t436 t442 l0 (l0.length : Int) ji23) else (none)))) else (none)) else (none)) = some r := by first | (rw [hji23] at H; exact H) | (simp only [hji23] at H ⊢; exact H)
           (try rw [hji23] at c22b0)
           (try rw [hji23] at A17)
           have hji23w : (IntKind.i64.wrap (x21_1 + 1)) = ji23 := (i64_w _).trans hji23
           by_cases c24 : 0 ≤ (ji23)
           ·rw [if_pos c24] at H
            have c24b0 : decide (0 ≤ (ji23)) = true := decide_eq_true c24
            clear c24
            by_cases c25 : (ji23) < (t436.length : Int)
            ·rw [if_pos c25] at H
             have c25b0 : decide ((ji23) < (t436.length : Int)) = true := decide_eq_true c25
             clear c25
             replace H := Option.bind_eq_some_iff.mp H
             obtain ⟨t450, A260, H⟩ := H
             (try dsimp only at H)
             have A26 := Aside0.mk A260
             clear A260
             by_cases c27 : t450 = true
             ·subst c27
              rw [if_pos rfl] at H
              have H' := Aside0.mk H
              clear H
              have p445 : 0 ≤ (x21_1 : Int) := of_decide_eq_true att14_0_5
              have q445 : x21_1 < (l0.length : Int) := of_decide_eq_true att14_0_5
              obtain ⟨ad445, e445, hx445_0, hx445_1, hx445_2, hx445_3, hx445_4⟩ := at_T63 HR0.out x21_1 p445 q445
              cases e445
              replace hx445_0 := (HB.out.cell (World.block_lt_of_cell? w _ hx445_0)).trans hx445_0
              replace hx445_1 := (HB.out.cell (World.block_lt_of_cell? w _ hx445_1)).trans hx445_1
              replace hx445_2 := (HB.out.cell (World.block_lt_of_cell? w _ hx445_2)).trans hx445_2
              replace hx445_3 := (HB.out.cell (World.block_lt_of_cell? w _ hx445_3)).trans hx445_3
              replace hx445_4 := (HB.out.cell (World.block_lt_of_cell? w _ hx445_4)).trans hx445_4
              replace p445 := eq_true p445
              replace q445 := eq_true q445
              go_wp2_with (first | ((with_reducible refine gate_dst (N := 7) rfl ?_); (try (refine gate_guard (by rfl) ?_; dsimp only)); refine box_event ?hg (N := 7) ?hd (cs := #[.int .i64 0, .int .i64 0, .int .i64 0, .int .i64 0, .int .i64 0]) (t := 63) ?hr ?_; (case hd => rfl); (case hg => rfl); (case hr => first | (go_simp; done) | (go_simp; rfl)); intro gb446 hg w28 hbox hb; have n0_ := Aside0.mk (Kd.R_below att14_0_8 hb); have n1_ := Aside0.mk (Kd.S_below att14_0_10 hb); have n2_ := Aside0.mk (Kd.R_below att14_0_7 hb); have n3_ := Aside0.mk (below_step att14_0_0 hb); have n4_ := Aside0.mk (hbox); have n5_ := Aside0.mk ((by rw [hg]; exact (below_size att14_0_0) : w.heap.size ≤ gb446)); have n6_ := Aside0.mk ((by rw [hg]; exact (below_size att14_0_0) : w.heap.size ≤ gb446)); clear HO_3; clear HO_4; clear HO_5; clear HB; have HO_3 := n0_; have HO_4 := n1_; have HO_5 := n2_; have HB := n3_; have BK446 := n4_; have GW446 := n5_; have GE446 := n6_; clear n0_ n1_ n2_ n3_ n4_ n5_ n6_; clear hb hbox hg; have hcz29_0 : w28.cell? ⟨gb446, 0, none⟩ = some (.int .i64 0) := (blk_cell BK446.out 0).trans rfl; have hcz29_1 : w28.cell? ⟨gb446, 1, none⟩ = some (.int .i64 0) := (blk_cell BK446.out 1).trans rfl; have hcz29_2 : w28.cell? ⟨gb446, 2, none⟩ = some (.int .i64 0) := (blk_cell BK446.out 2).trans rfl; have hcz29_3 : w28.cell? ⟨gb446, 3, none⟩ = some (.int .i64 0) := (blk_cell BK446.out 3).trans rfl; have hcz29_4 : w28.cell? ⟨gb446, 4, none⟩ = some (.int .i64 0) := (blk_cell BK446.out 4).trans rfl; have hfz29_0 := blk_frozen BK446.out 0; have hfz29_1 := blk_frozen BK446.out 1; have hfz29_2 := blk_frozen BK446.out 2; have hfz29_3 := blk_frozen BK446.out 3; have hfz29_4 := blk_frozen BK446.out 4) | ((with_reducible refine gate_store (t := 63) (p := 7) rfl ?_); (try (rw [drewN_self w28]; generalize hq_ : World.drewN w28 _ = w28; have n0_ := Aside0.mk (Kd.R_at hq_ HO_3.out); have n1_ := Aside0.mk (Kd.S_at hq_ HO_4.out); have n2_ := Aside0.mk (Kd.R_at hq_ HO_5.out); have n3_ := Aside0.mk (blk_at hq_ BK446.out); have n4_ := Aside0.mk (below_at hq_ HB.out); clear hq_ HO_3 HO_4 HO_5 BK446 HB; have HO_3 := n0_; have HO_4 := n1_; have HO_5 := n2_; have BK446 := n3_; have HB := n4_; clear n0_ n1_ n2_ n3_ n4_)); refine store_event (t := 63) (p := 7) (v := ?vo_w30) (w1 := (((((w28.setCell ⟨gb446, 0, none⟩ (.int .i64 ((rd_T63 l0 x21_1).f0))).setCell ⟨gb446, 1, none⟩ (.int .i64 ((rd_T63 l0 x21_1).f1))).setCell ⟨gb446, 2, none⟩ (.int .i64 ((rd_T63 l0 x21_1).f2))).setCell ⟨gb446, 3, none⟩ (.int .i64 ((rd_T63 l0 x21_1).f3))).setCell ⟨gb446, 4, none⟩ (.int .i64 ((rd_T63 l0 x21_1).f4)))) ?hg ?ho ?hn ?hr ?_; (case ho => rfl); (case hg => rfl); (case hn => rfl); (case hr => first | (go_simp; done) | (go_simp; rfl)); intro w30 hw; have n0_ : Aside0 (Kd.R (Kd.int .i64) 3 w30 w.heap.size (fun _ => True) u3 x3_1) := ⟨(by rw [hw]; exact att14_0_3)⟩; have n1_ : Aside0 (Kd.S (Kd.slice 3 (Kd.int .i64)) 34 w30 w.heap.size (fun k_ => some k_ ≠ (u3 : Value).ownBlock) v437 t436) := ⟨(by rw [hw]; exact att14_0_4)⟩; have n2_ : Aside0 (Kd.R Kd.bool 4 w30 w.heap.size (fun _ => True) v443 t442) := ⟨(by rw [hw]; exact att14_0_2)⟩; have n3_ : Aside0 (w30.heap[gb446]? = some (.cells #[.int .i64 ((rd_T63 l0 x21_1).f0), .int .i64 ((rd_T63 l0 x21_1).f1), .int .i64 ((rd_T63 l0 x21_1).f2), .int .i64 ((rd_T63 l0 x21_1).f3), .int .i64 ((rd_T63 l0 x21_1).f4)] 63 (0, 0))) := ⟨att14_0_1⟩; have n4_ : Aside0 (Below w.heap.size w w30) := ⟨(by rw [hw]; exact att14_0_6)⟩; clear hw; clear HO_3; clear HO_4; clear HO_5; clear BK446; clear HB; have HO_3 := n0_; have HO_4 := n1_; have HO_5 := n2_; have BK446 := n3_; have HB := n4_; clear n0_ n1_ n2_ n3_ n4_; have hcz31_0 : w30.cell? ⟨gb446, 0, none⟩ = some (.int .i64 ((rd_T63 l0 x21_1).f0)) := (blk_cell BK446.out 0).trans rfl; have hcz31_1 : w30.cell? ⟨gb446, 1, none⟩ = some (.int .i64 ((rd_T63 l0 x21_1).f1)) := (blk_cell BK446.out 1).trans rfl; have hcz31_2 : w30.cell? ⟨gb446, 2, none⟩ = some (.int .i64 ((rd_T63 l0 x21_1).f2)) := (blk_cell BK446.out 2).trans rfl; have hcz31_3 : w30.cell? ⟨gb446, 3, none⟩ = some (.int .i64 ((rd_T63 l0 x21_1).f3)) := (blk_cell BK446.out 3).trans rfl; have hcz31_4 : w30.cell? ⟨gb446, 4, none⟩ = some (.int .i64 ((rd_T63 l0 x21_1).f4)) := (blk_cell BK446.out 4).trans rfl; have hfz31_0 := blk_frozen BK446.out 0; have hfz31_1 := blk_frozen BK446.out 1; have hfz31_2 := blk_frozen BK446.out 2; have hfz31_3 := blk_frozen BK446.out 3; have hfz31_4 := blk_frozen BK446.out 4) | (go_at_call 79; (with_reducible refine (impl_within.calls ((rd_T63 l0 x21_1).f0) 1 4 true _ A17.out).mono ?_); rintro e w' ⟨rfl, ⟨nd, rfl⟩⟩; (try first | exact ⟨rfl, _, World.drewN_drewN _ _ _⟩ | exact ⟨rfl, _, Eq.trans (World.drewN_drewN _ _ _) (congrArg (World.drewN _) (Nat.add_assoc _ _ _))⟩); obtain ⟨Ao32, co32, eo32⟩ := Kd.R_slice HO_5.out; subst eo32; have p448 : 0 ≤ (x21_1 : Int) := of_decide_eq_true att14_0_5; have q448 : x21_1 < (t442.length : Int) := of_decide_eq_true att14_0_5; obtain ⟨ad448, e448, hx448_0⟩ := Kd.at_bool (Kd.R_reads' HO_5.out).2.2 x21_1 p448 q448; (try rw [← Nbq20.out] at hx448_0); cases e448; replace p448 := eq_true p448; replace q448 := eq_true q448; obtain ⟨Ao33, co33, eo33⟩ := Kd.S_slice HO_4.out; subst eo33; have p449 : 0 ≤ ((ji23) : Int) := of_decide_eq_true att14_0_5; have q449 : (ji23) < (t436.length : Int) := of_decide_eq_true att14_0_5; obtain ⟨ad449, A449_0, c449_0, e449, hx449_0, hl449_0, hi449_0⟩ := at_L5 (Kd.S_reads' HO_4.out).2.2 (ji23) p449 q449; cases e449; obtain ⟨ce449, hce449, hMe449, hcc449⟩ := Kd.S_get HO_4.out [] (ji23) p449 att14_1_0; obtain ⟨ve449_0, rfl, ge449_0⟩ := hMe449; have hv449_0 := hcc449 0 _ rfl; rw [Nat.add_zero, show ((Kd.slice 3 (Kd.int .i64))).sz = 1 from rfl, Nat.mul_one] at hv449_0; replace hv449_0 := Option.some.inj (hv449_0.symm.trans hx449_0); rw [hv449_0] at ge449_0; have HL449_0 := Aside0.mk (show Kd.R (Kd.int .i64) 3 _ _ _ _ (rd_L5 t436 (ji23)) from ge449_0); clear hv449_0 ge449_0; clear hcc449 hce449; have HR449_0 := Aside0.mk hi449_0; have HC449_0 := Aside0.mk hl449_0; clear hi449_0 hl449_0; replace p449 := eq_true p449; replace q449 := eq_true q449) | (go_at_call 84; (with_reducible refine (slices_Contains_int_int.calls k1 _ _ (rd_L5 t436 (ji23)) ((rd_T63 l0 x21_1).f1) true _ ?side1 ?side2 A26.out).mono ?_); (case side1 => repeat (first | exact att14_0_11 | (with_reducible refine Kd.C_alloc ?_ _) | (with_reducible refine Kd.C_drewN ?_ _) | (with_reducible refine Kd.C_drew ?_))); (case side2 => exact HC449_0.out); rintro e w' ⟨rfl, ⟨nd, rfl⟩⟩; (try first | exact ⟨rfl, _, World.drewN_drewN _ _ _⟩ | exact ⟨rfl, _, Eq.trans (World.drewN_drewN _ _ _) (congrArg (World.drewN _) (Nat.add_assoc _ _ _))⟩)))
              repeat (go_quiet (first | (go_at_call 79; (with_reducible refine (impl_within.calls ((rd_T63 l0 x21_1).f0) 1 4 true _ A17.out).mono ?_); rintro e w' ⟨rfl, ⟨nd, rfl⟩⟩; (try first | exact ⟨rfl, _, World.drewN_drewN _ _ _⟩ | exact ⟨rfl, _, Eq.trans (World.drewN_drewN _ _ _) (congrArg (World.drewN _) (Nat.add_assoc _ _ _))⟩); obtain ⟨Ao32, co32, eo32⟩ := Kd.R_slice HO_5.out; subst eo32; have p448 : 0 ≤ (x21_1 : Int) := of_decide_eq_true att14_0_5; have q448 : x21_1 < (t442.length : Int) := of_decide_eq_true att14_0_5; obtain ⟨ad448, e448, hx448_0⟩ := Kd.at_bool (Kd.R_reads' HO_5.out).2.2 x21_1 p448 q448; (try rw [← Nbq20.out] at hx448_0); cases e448; replace p448 := eq_true p448; replace q448 := eq_true q448; obtain ⟨Ao33, co33, eo33⟩ := Kd.S_slice HO_4.out; subst eo33; have p449 : 0 ≤ ((ji23) : Int) := of_decide_eq_true att14_0_5; have q449 : (ji23) < (t436.length : Int) := of_decide_eq_true att14_0_5; obtain ⟨ad449, A449_0, c449_0, e449, hx449_0, hl449_0, hi449_0⟩ := at_L5 (Kd.S_reads' HO_4.out).2.2 (ji23) p449 q449; cases e449; obtain ⟨ce449, hce449, hMe449, hcc449⟩ := Kd.S_get HO_4.out [] (ji23) p449 att14_1_0; obtain ⟨ve449_0, rfl, ge449_0⟩ := hMe449; have hv449_0 := hcc449 0 _ rfl; rw [Nat.add_zero, show ((Kd.slice 3 (Kd.int .i64))).sz = 1 from rfl, Nat.mul_one] at hv449_0; replace hv449_0 := Option.some.inj (hv449_0.symm.trans hx449_0); rw [hv449_0] at ge449_0; have HL449_0 := Aside0.mk (show Kd.R (Kd.int .i64) 3 _ _ _ _ (rd_L5 t436 (ji23)) from ge449_0); clear hv449_0 ge449_0; clear hcc449 hce449; have HR449_0 := Aside0.mk hi449_0; have HC449_0 := Aside0.mk hl449_0; clear hi449_0 hl449_0; replace p449 := eq_true p449; replace q449 := eq_true q449) | (go_at_call 84; (with_reducible refine (slices_Contains_int_int.calls k1 _ _ (rd_L5 t436 (ji23)) ((rd_T63 l0 x21_1).f1) true _ ?side1 ?side2 A26.out).mono ?_); (case side1 => repeat (first | exact att14_0_11 | (with_reducible refine Kd.C_alloc ?_ _) | (with_reducible refine Kd.C_drewN ?_ _) | (with_reducible refine Kd.C_drew ?_))); (case side2 => exact HC449_0.out); rintro e w' ⟨rfl, ⟨nd, rfl⟩⟩; (try first | exact ⟨rfl, _, World.drewN_drewN _ _ _⟩ | exact ⟨rfl, _, Eq.trans (World.drewN_drewN _ _ _) (congrArg (World.drewN _) (Nat.add_assoc _ _ _))⟩))); try go_wp2_with (first | ((with_reducible refine gate_dst (N := 7) rfl ?_); (try (refine gate_guard (by rfl) ?_; dsimp only)); refine box_event ?hg (N := 7) ?hd (cs := #[.int .i64 0, .int .i64 0, .int .i64 0, .int .i64 0, .int .i64 0]) (t := 63) ?hr ?_; (case hd => rfl); (case hg => rfl); (case hr => first | (go_simp; done) | (go_simp; rfl)); intro gb446 hg w28 hbox hb; have n0_ := Aside0.mk (Kd.R_below att14_0_8 hb); have n1_ := Aside0.mk (Kd.S_below att14_0_10 hb); have n2_ := Aside0.mk (Kd.R_below att14_0_7 hb); have n3_ := Aside0.mk (below_step att14_0_0 hb); have n4_ := Aside0.mk (hbox); have n5_ := Aside0.mk ((by rw [hg]; exact (below_size att14_0_0) : w.heap.size ≤ gb446)); have n6_ := Aside0.mk ((by rw [hg]; exact (below_size att14_0_0) : w.heap.size ≤ gb446)); clear HO_3; clear HO_4; clear HO_5; clear HB; have HO_3 := n0_; have HO_4 := n1_; have HO_5 := n2_; have HB := n3_; have BK446 := n4_; have GW446 := n5_; have GE446 := n6_; clear n0_ n1_ n2_ n3_ n4_ n5_ n6_; clear hb hbox hg; have hcz29_0 : w28.cell? ⟨gb446, 0, none⟩ = some (.int .i64 0) := (blk_cell BK446.out 0).trans rfl; have hcz29_1 : w28.cell? ⟨gb446, 1, none⟩ = some (.int .i64 0) := (blk_cell BK446.out 1).trans rfl; have hcz29_2 : w28.cell? ⟨gb446, 2, none⟩ = some (.int .i64 0) := (blk_cell BK446.out 2).trans rfl; have hcz29_3 : w28.cell? ⟨gb446, 3, none⟩ = some (.int .i64 0) := (blk_cell BK446.out 3).trans rfl; have hcz29_4 : w28.cell? ⟨gb446, 4, none⟩ = some (.int .i64 0) := (blk_cell BK446.out 4).trans rfl; have hfz29_0 := blk_frozen BK446.out 0; have hfz29_1 := blk_frozen BK446.out 1; have hfz29_2 := blk_frozen BK446.out 2; have hfz29_3 := blk_frozen BK446.out 3; have hfz29_4 := blk_frozen BK446.out 4) | ((with_reducible refine gate_store (t := 63) (p := 7) rfl ?_); (try (rw [drewN_self w28]; generalize hq_ : World.drewN w28 _ = w28; have n0_ := Aside0.mk (Kd.R_at hq_ HO_3.out); have n1_ := Aside0.mk (Kd.S_at hq_ HO_4.out); have n2_ := Aside0.mk (Kd.R_at hq_ HO_5.out); have n3_ := Aside0.mk (blk_at hq_ BK446.out); have n4_ := Aside0.mk (below_at hq_ HB.out); clear hq_ HO_3 HO_4 HO_5 BK446 HB; have HO_3 := n0_; have HO_4 := n1_; have HO_5 := n2_; have BK446 := n3_; have HB := n4_; clear n0_ n1_ n2_ n3_ n4_)); refine store_event (t := 63) (p := 7) (v := ?vo_w30) (w1 := (((((w28.setCell ⟨gb446, 0, none⟩ (.int .i64 ((rd_T63 l0 x21_1).f0))).setCell ⟨gb446, 1, none⟩ (.int .i64 ((rd_T63 l0 x21_1).f1))).setCell ⟨gb446, 2, none⟩ (.int .i64 ((rd_T63 l0 x21_1).f2))).setCell ⟨gb446, 3, none⟩ (.int .i64 ((rd_T63 l0 x21_1).f3))).setCell ⟨gb446, 4, none⟩ (.int .i64 ((rd_T63 l0 x21_1).f4)))) ?hg ?ho ?hn ?hr ?_; (case ho => rfl); (case hg => rfl); (case hn => rfl); (case hr => first | (go_simp; done) | (go_simp; rfl)); intro w30 hw; have n0_ : Aside0 (Kd.R (Kd.int .i64) 3 w30 w.heap.size (fun _ => True) u3 x3_1) := ⟨(by rw [hw]; exact att14_0_3)⟩; have n1_ : Aside0 (Kd.S (Kd.slice 3 (Kd.int .i64)) 34 w30 w.heap.size (fun k_ => some k_ ≠ (u3 : Value).ownBlock) v437 t436) := ⟨(by rw [hw]; exact att14_0_4)⟩; have n2_ : Aside0 (Kd.R Kd.bool 4 w30 w.heap.size (fun _ => True) v443 t442) := ⟨(by rw [hw]; exact att14_0_2)⟩; have n3_ : Aside0 (w30.heap[gb446]? = some (.cells #[.int .i64 ((rd_T63 l0 x21_1).f0), .int .i64 ((rd_T63 l0 x21_1).f1), .int .i64 ((rd_T63 l0 x21_1).f2), .int .i64 ((rd_T63 l0 x21_1).f3), .int .i64 ((rd_T63 l0 x21_1).f4)] 63 (0, 0))) := ⟨att14_0_1⟩; have n4_ : Aside0 (Below w.heap.size w w30) := ⟨(by rw [hw]; exact att14_0_6)⟩; clear hw; clear HO_3; clear HO_4; clear HO_5; clear BK446; clear HB; have HO_3 := n0_; have HO_4 := n1_; have HO_5 := n2_; have BK446 := n3_; have HB := n4_; clear n0_ n1_ n2_ n3_ n4_; have hcz31_0 : w30.cell? ⟨gb446, 0, none⟩ = some (.int .i64 ((rd_T63 l0 x21_1).f0)) := (blk_cell BK446.out 0).trans rfl; have hcz31_1 : w30.cell? ⟨gb446, 1, none⟩ = some (.int .i64 ((rd_T63 l0 x21_1).f1)) := (blk_cell BK446.out 1).trans rfl; have hcz31_2 : w30.cell? ⟨gb446, 2, none⟩ = some (.int .i64 ((rd_T63 l0 x21_1).f2)) := (blk_cell BK446.out 2).trans rfl; have hcz31_3 : w30.cell? ⟨gb446, 3, none⟩ = some (.int .i64 ((rd_T63 l0 x21_1).f3)) := (blk_cell BK446.out 3).trans rfl; have hcz31_4 : w30.cell? ⟨gb446, 4, none⟩ = some (.int .i64 ((rd_T63 l0 x21_1).f4)) := (blk_cell BK446.out 4).trans rfl; have hfz31_0 := blk_frozen BK446.out 0; have hfz31_1 := blk_frozen BK446.out 1; have hfz31_2 := blk_frozen BK446.out 2; have hfz31_3 := blk_frozen BK446.out 3; have hfz31_4 := blk_frozen BK446.out 4) | (go_at_call 79; (with_reducible refine (impl_within.calls ((rd_T63 l0 x21_1).f0) 1 4 true _ A17.out).mono ?_); rintro e w' ⟨rfl, ⟨nd, rfl⟩⟩; (try first | exact ⟨rfl, _, World.drewN_drewN _ _ _⟩ | exact ⟨rfl, _, Eq.trans (World.drewN_drewN _ _ _) (congrArg (World.drewN _) (Nat.add_assoc _ _ _))⟩); obtain ⟨Ao32, co32, eo32⟩ := Kd.R_slice HO_5.out; subst eo32; have p448 : 0 ≤ (x21_1 : Int) := of_decide_eq_true att14_0_5; have q448 : x21_1 < (t442.length : Int) := of_decide_eq_true att14_0_5; obtain ⟨ad448, e448, hx448_0⟩ := Kd.at_bool (Kd.R_reads' HO_5.out).2.2 x21_1 p448 q448; (try rw [← Nbq20.out] at hx448_0); cases e448; replace p448 := eq_true p448; replace q448 := eq_true q448; obtain ⟨Ao33, co33, eo33⟩ := Kd.S_slice HO_4.out; subst eo33; have p449 : 0 ≤ ((ji23) : Int) := of_decide_eq_true att14_0_5; have q449 : (ji23) < (t436.length : Int) := of_decide_eq_true att14_0_5; obtain ⟨ad449, A449_0, c449_0, e449, hx449_0, hl449_0, hi449_0⟩ := at_L5 (Kd.S_reads' HO_4.out).2.2 (ji23) p449 q449; cases e449; obtain ⟨ce449, hce449, hMe449, hcc449⟩ := Kd.S_get HO_4.out [] (ji23) p449 att14_1_0; obtain ⟨ve449_0, rfl, ge449_0⟩ := hMe449; have hv449_0 := hcc449 0 _ rfl; rw [Nat.add_zero, show ((Kd.slice 3 (Kd.int .i64))).sz = 1 from rfl, Nat.mul_one] at hv449_0; replace hv449_0 := Option.some.inj (hv449_0.symm.trans hx449_0); rw [hv449_0] at ge449_0; have HL449_0 := Aside0.mk (show Kd.R (Kd.int .i64) 3 _ _ _ _ (rd_L5 t436 (ji23)) from ge449_0); clear hv449_0 ge449_0; clear hcc449 hce449; have HR449_0 := Aside0.mk hi449_0; have HC449_0 := Aside0.mk hl449_0; clear hi449_0 hl449_0; replace p449 := eq_true p449; replace q449 := eq_true q449) | (go_at_call 84; (with_reducible refine (slices_Contains_int_int.calls k1 _ _ (rd_L5 t436 (ji23)) ((rd_T63 l0 x21_1).f1) true _ ?side1 ?side2 A26.out).mono ?_); (case side1 => repeat (first | exact att14_0_11 | (with_reducible refine Kd.C_alloc ?_ _) | (with_reducible refine Kd.C_drewN ?_ _) | (with_reducible refine Kd.C_drew ?_))); (case side2 => exact HC449_0.out); rintro e w' ⟨rfl, ⟨nd, rfl⟩⟩; (try first | exact ⟨rfl, _, World.drewN_drewN _ _ _⟩ | exact ⟨rfl, _, Eq.trans (World.drewN_drewN _ _ _) (congrArg (World.drewN _) (Nat.add_assoc _ _ _))⟩))))
              go_roundg k1
              case measure => have := HK1.out; omega
              case rel => exact ⟨(x3_1), (ji23), att14_0_25, H', ⟨att14_0_17⟩, ⟨att14_0_8⟩, ⟨att14_0_10⟩, ⟨att14_0_7⟩, ⟨att14_0_6⟩⟩
             ·replace c27 := Bool.eq_false_iff.mpr c27
              subst c27
              rw [if_neg (show ¬ (false = true) by decide)] at H
              by_cases c34 : x3_1.length < 17592186044416
              ·rw [if_pos c34] at H
               have LMc34 := Aside0.mk c34
               clear c34
               obtain ⟨y451, hy451⟩ : ∃ y_ : List Int, y_ = (x3_1 ++ [x21_1]) := ⟨_, rfl⟩
               replace H : (impl_DeadAt.l0 k1 l0 y451 t436 t442 l0 (l0.length : Int) ji23) = some r := by first | (rw [hy451]; with_reducible exact H) | (have H2_ := (Option.bind_some _ _).symm.trans H; rw [hy451]; with_reducible exact H2_) | (have H2_ := (Option.bind_some _ _).symm.trans H; with_reducible exact H2_) | with_reducible exact H | (rw [hy451]; exact H) | exact H
               have Ny451 := Aside0.mk hy451
               clear hy451
               have H' := Aside0.mk H
               clear H
               have p445 : 0 ≤ (x21_1 : Int) := of_decide_eq_true att14_0_5
               have q445 : x21_1 < (l0.length : Int) := of_decide_eq_true att14_0_5
               obtain ⟨ad445, e445, hx445_0, hx445_1, hx445_2, hx445_3, hx445_4⟩ := at_T63 HR0.out x21_1 p445 q445
               cases e445
               replace hx445_0 := (HB.out.cell (World.block_lt_of_cell? w _ hx445_0)).trans hx445_0
               replace hx445_1 := (HB.out.cell (World.block_lt_of_cell? w _ hx445_1)).trans hx445_1
               replace hx445_2 := (HB.out.cell (World.block_lt_of_cell? w _ hx445_2)).trans hx445_2
               replace hx445_3 := (HB.out.cell (World.block_lt_of_cell? w _ hx445_3)).trans hx445_3
               replace hx445_4 := (HB.out.cell (World.block_lt_of_cell? w _ hx445_4)).trans hx445_4
               replace p445 := eq_true p445
               replace q445 := eq_true q445
               go_wp2_with (first | ((with_reducible refine gate_dst (N := 7) rfl ?_); (try (refine gate_guard (by rfl) ?_; dsimp only)); refine box_event ?hg (N := 7) ?hd (cs := #[.int .i64 0, .int .i64 0, .int .i64 0, .int .i64 0, .int .i64 0]) (t := 63) ?hr ?_; (case hd => rfl); (case hg => rfl); (case hr => first | (go_simp; done) | (go_simp; rfl)); intro gb446 hg w35 hbox hb; have n0_ := Aside0.mk (Kd.R_below att14_0_8 hb); have n1_ := Aside0.mk (Kd.S_below att14_0_10 hb); have n2_ := Aside0.mk (Kd.R_below att14_0_7 hb); have n3_ := Aside0.mk (below_step att14_0_0 hb); have n4_ := Aside0.mk (hbox); have n5_ := Aside0.mk ((by rw [hg]; exact (below_size att14_0_0) : w.heap.size ≤ gb446)); have n6_ := Aside0.mk ((by rw [hg]; exact (below_size att14_0_0) : w.heap.size ≤ gb446)); clear HO_3; clear HO_4; clear HO_5; clear HB; have HO_3 := n0_; have HO_4 := n1_; have HO_5 := n2_; have HB := n3_; have BK446 := n4_; have GW446 := n5_; have GE446 := n6_; clear n0_ n1_ n2_ n3_ n4_ n5_ n6_; clear hb hbox hg; have hcz36_0 : w35.cell? ⟨gb446, 0, none⟩ = some (.int .i64 0) := (blk_cell BK446.out 0).trans rfl; have hcz36_1 : w35.cell? ⟨gb446, 1, none⟩ = some (.int .i64 0) := (blk_cell BK446.out 1).trans rfl; have hcz36_2 : w35.cell? ⟨gb446, 2, none⟩ = some (.int .i64 0) := (blk_cell BK446.out 2).trans rfl; have hcz36_3 : w35.cell? ⟨gb446, 3, none⟩ = some (.int .i64 0) := (blk_cell BK446.out 3).trans rfl; have hcz36_4 : w35.cell? ⟨gb446, 4, none⟩ = some (.int .i64 0) := (blk_cell BK446.out 4).trans rfl; have hfz36_0 := blk_frozen BK446.out 0; have hfz36_1 := blk_frozen BK446.out 1; have hfz36_2 := blk_frozen BK446.out 2; have hfz36_3 := blk_frozen BK446.out 3; have hfz36_4 := blk_frozen BK446.out 4) | ((with_reducible refine gate_store (t := 63) (p := 7) rfl ?_); (try (rw [drewN_self w35]; generalize hq_ : World.drewN w35 _ = w35; have n0_ := Aside0.mk (Kd.R_at hq_ HO_3.out); have n1_ := Aside0.mk (Kd.S_at hq_ HO_4.out); have n2_ := Aside0.mk (Kd.R_at hq_ HO_5.out); have n3_ := Aside0.mk (blk_at hq_ BK446.out); have n4_ := Aside0.mk (below_at hq_ HB.out); clear hq_ HO_3 HO_4 HO_5 BK446 HB; have HO_3 := n0_; have HO_4 := n1_; have HO_5 := n2_; have BK446 := n3_; have HB := n4_; clear n0_ n1_ n2_ n3_ n4_)); refine store_event (t := 63) (p := 7) (v := ?vo_w37) (w1 := (((((w35.setCell ⟨gb446, 0, none⟩ (.int .i64 ((rd_T63 l0 x21_1).f0))).setCell ⟨gb446, 1, none⟩ (.int .i64 ((rd_T63 l0 x21_1).f1))).setCell ⟨gb446, 2, none⟩ (.int .i64 ((rd_T63 l0 x21_1).f2))).setCell ⟨gb446, 3, none⟩ (.int .i64 ((rd_T63 l0 x21_1).f3))).setCell ⟨gb446, 4, none⟩ (.int .i64 ((rd_T63 l0 x21_1).f4)))) ?hg ?ho ?hn ?hr ?_; (case ho => rfl); (case hg => rfl); (case hn => rfl); (case hr => first | (go_simp; done) | (go_simp; rfl)); intro w37 hw; have n0_ : Aside0 (Kd.R (Kd.int .i64) 3 w37 w.heap.size (fun _ => True) u3 x3_1) := ⟨(by rw [hw]; exact att14_0_3)⟩; have n1_ : Aside0 (Kd.S (Kd.slice 3 (Kd.int .i64)) 34 w37 w.heap.size (fun k_ => some k_ ≠ (u3 : Value).ownBlock) v437 t436) := ⟨(by rw [hw]; exact att14_0_4)⟩; have n2_ : Aside0 (Kd.R Kd.bool 4 w37 w.heap.size (fun _ => True) v443 t442) := ⟨(by rw [hw]; exact att14_0_2)⟩; have n3_ : Aside0 (w37.heap[gb446]? = some (.cells #[.int .i64 ((rd_T63 l0 x21_1).f0), .int .i64 ((rd_T63 l0 x21_1).f1), .int .i64 ((rd_T63 l0 x21_1).f2), .int .i64 ((rd_T63 l0 x21_1).f3), .int .i64 ((rd_T63 l0 x21_1).f4)] 63 (0, 0))) := ⟨att14_0_1⟩; have n4_ : Aside0 (Below w.heap.size w w37) := ⟨(by rw [hw]; exact att14_0_6)⟩; clear hw; clear HO_3; clear HO_4; clear HO_5; clear BK446; clear HB; have HO_3 := n0_; have HO_4 := n1_; have HO_5 := n2_; have BK446 := n3_; have HB := n4_; clear n0_ n1_ n2_ n3_ n4_; have hcz38_0 : w37.cell? ⟨gb446, 0, none⟩ = some (.int .i64 ((rd_T63 l0 x21_1).f0)) := (blk_cell BK446.out 0).trans rfl; have hcz38_1 : w37.cell? ⟨gb446, 1, none⟩ = some (.int .i64 ((rd_T63 l0 x21_1).f1)) := (blk_cell BK446.out 1).trans rfl; have hcz38_2 : w37.cell? ⟨gb446, 2, none⟩ = some (.int .i64 ((rd_T63 l0 x21_1).f2)) := (blk_cell BK446.out 2).trans rfl; have hcz38_3 : w37.cell? ⟨gb446, 3, none⟩ = some (.int .i64 ((rd_T63 l0 x21_1).f3)) := (blk_cell BK446.out 3).trans rfl; have hcz38_4 : w37.cell? ⟨gb446, 4, none⟩ = some (.int .i64 ((rd_T63 l0 x21_1).f4)) := (blk_cell BK446.out 4).trans rfl; have hfz38_0 := blk_frozen BK446.out 0; have hfz38_1 := blk_frozen BK446.out 1; have hfz38_2 := blk_frozen BK446.out 2; have hfz38_3 := blk_frozen BK446.out 3; have hfz38_4 := blk_frozen BK446.out 4) | (go_at_call 79; (with_reducible refine (impl_within.calls ((rd_T63 l0 x21_1).f0) 1 4 true _ A17.out).mono ?_); rintro e w' ⟨rfl, ⟨nd, rfl⟩⟩; (try first | exact ⟨rfl, _, World.drewN_drewN _ _ _⟩ | exact ⟨rfl, _, Eq.trans (World.drewN_drewN _ _ _) (congrArg (World.drewN _) (Nat.add_assoc _ _ _))⟩); obtain ⟨Ao39, co39, eo39⟩ := Kd.R_slice HO_5.out; subst eo39; have p448 : 0 ≤ (x21_1 : Int) := of_decide_eq_true att14_0_5; have q448 : x21_1 < (t442.length : Int) := of_decide_eq_true att14_0_5; obtain ⟨ad448, e448, hx448_0⟩ := Kd.at_bool (Kd.R_reads' HO_5.out).2.2 x21_1 p448 q448; (try rw [← Nbq20.out] at hx448_0); cases e448; replace p448 := eq_true p448; replace q448 := eq_true q448; obtain ⟨Ao40, co40, eo40⟩ := Kd.S_slice HO_4.out; subst eo40; have p449 : 0 ≤ ((ji23) : Int) := of_decide_eq_true att14_0_5; have q449 : (ji23) < (t436.length : Int) := of_decide_eq_true att14_0_5; obtain ⟨ad449, A449_0, c449_0, e449, hx449_0, hl449_0, hi449_0⟩ := at_L5 (Kd.S_reads' HO_4.out).2.2 (ji23) p449 q449; cases e449; obtain ⟨ce449, hce449, hMe449, hcc449⟩ := Kd.S_get HO_4.out [] (ji23) p449 att14_1_0; obtain ⟨ve449_0, rfl, ge449_0⟩ := hMe449; have hv449_0 := hcc449 0 _ rfl; rw [Nat.add_zero, show ((Kd.slice 3 (Kd.int .i64))).sz = 1 from rfl, Nat.mul_one] at hv449_0; replace hv449_0 := Option.some.inj (hv449_0.symm.trans hx449_0); rw [hv449_0] at ge449_0; have HL449_0 := Aside0.mk (show Kd.R (Kd.int .i64) 3 _ _ _ _ (rd_L5 t436 (ji23)) from ge449_0); clear hv449_0 ge449_0; clear hcc449 hce449; have HR449_0 := Aside0.mk hi449_0; have HC449_0 := Aside0.mk hl449_0; clear hi449_0 hl449_0; replace p449 := eq_true p449; replace q449 := eq_true q449) | (go_at_call 84; (with_reducible refine (slices_Contains_int_int.calls k1 _ _ (rd_L5 t436 (ji23)) ((rd_T63 l0 x21_1).f1) false _ ?side1 ?side2 A26.out).mono ?_); (case side1 => repeat (first | exact att14_0_11 | (with_reducible refine Kd.C_alloc ?_ _) | (with_reducible refine Kd.C_drewN ?_ _) | (with_reducible refine Kd.C_drew ?_))); (case side2 => exact HC449_0.out); rintro e w' ⟨rfl, ⟨nd, rfl⟩⟩; (try first | exact ⟨rfl, _, World.drewN_drewN _ _ _⟩ | exact ⟨rfl, _, Eq.trans (World.drewN_drewN _ _ _) (congrArg (World.drewN _) (Nat.add_assoc _ _ _))⟩)) | ((with_reducible refine gate_builtin (b := .append) (xs := #[.tmp 54, .tmp 56]) rfl ?_); (try (refine gate_guard (by rfl) ?_; dsimp only)); at_builtin; refine Kd.R_append (Kd.int .i64) (w0 := w) w.heap.size rfl (.tmp 54) (.tmp 56) 34 3 (.int .i64 0) 8 rfl Try.underlying34 info3 rfl (by decide) (by omega) u3 x3_1 x21_1 [.int .i64 x21_1] (fun _ => True) (fun _ => False) rfl rfl ?aP (fun _ hk => hk.elim) ?aF ?aO ?aB ?aS ?aL ?_; (case aP => exact rfl); (case aB => exact att14_0_6); (case aF => exact (fun _ _ => trivial)); (case aO => exact att14_0_8); (case aS => exact (below_size att14_0_6)); (case aL => have := LMc34.out; omega); intro v452 w41 ho hb hg hat; rw [← Ny451.out] at ho; have n0_ := Aside0.mk (Kd.S_after (ok := (fun _ => True)) att14_0_19 hg hat); have n1_ := Aside0.mk (Kd.R_over' att14_0_7 (Kd.R_typed att14_0_8) (by decide) hg); have n2_ := Aside0.mk (blk_grown (g := gb446) (o := .cells #[.int .i64 ((rd_T63 l0 x21_1).f0), .int .i64 ((rd_T63 l0 x21_1).f1), .int .i64 ((rd_T63 l0 x21_1).f2), .int .i64 ((rd_T63 l0 x21_1).f3), .int .i64 ((rd_T63 l0 x21_1).f4)] 63 (0, 0)) att14_0_21 hg (Kd.R_ne HO_3.out BK446.out (by decide))); have n3_ := Aside0.mk (Kd.R_after (ok := (fun k_ => some k_ ≠ (.slice (some ad449) t436.length co40 : Value).ownBlock)) att14_0_18 hg hat); have n4_ := Aside0.mk (hb); have n5_ := Aside0.mk (ho); clear HO_4; clear HO_5; clear BK446; clear HL449_0; clear HB; clear HO_3; have HO_4 := n0_; have HO_5 := n1_; have BK446 := n2_; have HL449_0 := n3_; have HB := n4_; have HO453 := n5_; clear n0_ n1_ n2_ n3_ n4_ n5_; clear ho hb hg hat))
               repeat (go_quiet (first | (go_at_call 79; (with_reducible refine (impl_within.calls ((rd_T63 l0 x21_1).f0) 1 4 true _ A17.out).mono ?_); rintro e w' ⟨rfl, ⟨nd, rfl⟩⟩; (try first | exact ⟨rfl, _, World.drewN_drewN _ _ _⟩ | exact ⟨rfl, _, Eq.trans (World.drewN_drewN _ _ _) (congrArg (World.drewN _) (Nat.add_assoc _ _ _))⟩); obtain ⟨Ao39, co39, eo39⟩ := Kd.R_slice HO_5.out; subst eo39; have p448 : 0 ≤ (x21_1 : Int) := of_decide_eq_true att14_0_5; have q448 : x21_1 < (t442.length : Int) := of_decide_eq_true att14_0_5; obtain ⟨ad448, e448, hx448_0⟩ := Kd.at_bool (Kd.R_reads' HO_5.out).2.2 x21_1 p448 q448; (try rw [← Nbq20.out] at hx448_0); cases e448; replace p448 := eq_true p448; replace q448 := eq_true q448; obtain ⟨Ao40, co40, eo40⟩ := Kd.S_slice HO_4.out; subst eo40; have p449 : 0 ≤ ((ji23) : Int) := of_decide_eq_true att14_0_5; have q449 : (ji23) < (t436.length : Int) := of_decide_eq_true att14_0_5; obtain ⟨ad449, A449_0, c449_0, e449, hx449_0, hl449_0, hi449_0⟩ := at_L5 (Kd.S_reads' HO_4.out).2.2 (ji23) p449 q449; cases e449; obtain ⟨ce449, hce449, hMe449, hcc449⟩ := Kd.S_get HO_4.out [] (ji23) p449 att14_1_0; obtain ⟨ve449_0, rfl, ge449_0⟩ := hMe449; have hv449_0 := hcc449 0 _ rfl; rw [Nat.add_zero, show ((Kd.slice 3 (Kd.int .i64))).sz = 1 from rfl, Nat.mul_one] at hv449_0; replace hv449_0 := Option.some.inj (hv449_0.symm.trans hx449_0); rw [hv449_0] at ge449_0; have HL449_0 := Aside0.mk (show Kd.R (Kd.int .i64) 3 _ _ _ _ (rd_L5 t436 (ji23)) from ge449_0); clear hv449_0 ge449_0; clear hcc449 hce449; have HR449_0 := Aside0.mk hi449_0; have HC449_0 := Aside0.mk hl449_0; clear hi449_0 hl449_0; replace p449 := eq_true p449; replace q449 := eq_true q449) | (go_at_call 84; (with_reducible refine (slices_Contains_int_int.calls k1 _ _ (rd_L5 t436 (ji23)) ((rd_T63 l0 x21_1).f1) false _ ?side1 ?side2 A26.out).mono ?_); (case side1 => repeat (first | exact att14_0_11 | (with_reducible refine Kd.C_alloc ?_ _) | (with_reducible refine Kd.C_drewN ?_ _) | (with_reducible refine Kd.C_drew ?_))); (case side2 => exact HC449_0.out); rintro e w' ⟨rfl, ⟨nd, rfl⟩⟩; (try first | exact ⟨rfl, _, World.drewN_drewN _ _ _⟩ | exact ⟨rfl, _, Eq.trans (World.drewN_drewN _ _ _) (congrArg (World.drewN _) (Nat.add_assoc _ _ _))⟩))); try go_wp2_with (first | ((with_reducible refine gate_dst (N := 7) rfl ?_); (try (refine gate_guard (by rfl) ?_; dsimp only)); refine box_event ?hg (N := 7) ?hd (cs := #[.int .i64 0, .int .i64 0, .int .i64 0, .int .i64 0, .int .i64 0]) (t := 63) ?hr ?_; (case hd => rfl); (case hg => rfl); (case hr => first | (go_simp; done) | (go_simp; rfl)); intro gb446 hg w35 hbox hb; have n0_ := Aside0.mk (Kd.R_below att14_0_8 hb); have n1_ := Aside0.mk (Kd.S_below att14_0_10 hb); have n2_ := Aside0.mk (Kd.R_below att14_0_7 hb); have n3_ := Aside0.mk (below_step att14_0_0 hb); have n4_ := Aside0.mk (hbox); have n5_ := Aside0.mk ((by rw [hg]; exact (below_size att14_0_0) : w.heap.size ≤ gb446)); have n6_ := Aside0.mk ((by rw [hg]; exact (below_size att14_0_0) : w.heap.size ≤ gb446)); clear HO_3; clear HO_4; clear HO_5; clear HB; have HO_3 := n0_; have HO_4 := n1_; have HO_5 := n2_; have HB := n3_; have BK446 := n4_; have GW446 := n5_; have GE446 := n6_; clear n0_ n1_ n2_ n3_ n4_ n5_ n6_; clear hb hbox hg; have hcz36_0 : w35.cell? ⟨gb446, 0, none⟩ = some (.int .i64 0) := (blk_cell BK446.out 0).trans rfl; have hcz36_1 : w35.cell? ⟨gb446, 1, none⟩ = some (.int .i64 0) := (blk_cell BK446.out 1).trans rfl; have hcz36_2 : w35.cell? ⟨gb446, 2, none⟩ = some (.int .i64 0) := (blk_cell BK446.out 2).trans rfl; have hcz36_3 : w35.cell? ⟨gb446, 3, none⟩ = some (.int .i64 0) := (blk_cell BK446.out 3).trans rfl; have hcz36_4 : w35.cell? ⟨gb446, 4, none⟩ = some (.int .i64 0) := (blk_cell BK446.out 4).trans rfl; have hfz36_0 := blk_frozen BK446.out 0; have hfz36_1 := blk_frozen BK446.out 1; have hfz36_2 := blk_frozen BK446.out 2; have hfz36_3 := blk_frozen BK446.out 3; have hfz36_4 := blk_frozen BK446.out 4) | ((with_reducible refine gate_store (t := 63) (p := 7) rfl ?_); (try (rw [drewN_self w35]; generalize hq_ : World.drewN w35 _ = w35; have n0_ := Aside0.mk (Kd.R_at hq_ HO_3.out); have n1_ := Aside0.mk (Kd.S_at hq_ HO_4.out); have n2_ := Aside0.mk (Kd.R_at hq_ HO_5.out); have n3_ := Aside0.mk (blk_at hq_ BK446.out); have n4_ := Aside0.mk (below_at hq_ HB.out); clear hq_ HO_3 HO_4 HO_5 BK446 HB; have HO_3 := n0_; have HO_4 := n1_; have HO_5 := n2_; have BK446 := n3_; have HB := n4_; clear n0_ n1_ n2_ n3_ n4_)); refine store_event (t := 63) (p := 7) (v := ?vo_w37) (w1 := (((((w35.setCell ⟨gb446, 0, none⟩ (.int .i64 ((rd_T63 l0 x21_1).f0))).setCell ⟨gb446, 1, none⟩ (.int .i64 ((rd_T63 l0 x21_1).f1))).setCell ⟨gb446, 2, none⟩ (.int .i64 ((rd_T63 l0 x21_1).f2))).setCell ⟨gb446, 3, none⟩ (.int .i64 ((rd_T63 l0 x21_1).f3))).setCell ⟨gb446, 4, none⟩ (.int .i64 ((rd_T63 l0 x21_1).f4)))) ?hg ?ho ?hn ?hr ?_; (case ho => rfl); (case hg => rfl); (case hn => rfl); (case hr => first | (go_simp; done) | (go_simp; rfl)); intro w37 hw; have n0_ : Aside0 (Kd.R (Kd.int .i64) 3 w37 w.heap.size (fun _ => True) u3 x3_1) := ⟨(by rw [hw]; exact att14_0_3)⟩; have n1_ : Aside0 (Kd.S (Kd.slice 3 (Kd.int .i64)) 34 w37 w.heap.size (fun k_ => some k_ ≠ (u3 : Value).ownBlock) v437 t436) := ⟨(by rw [hw]; exact att14_0_4)⟩; have n2_ : Aside0 (Kd.R Kd.bool 4 w37 w.heap.size (fun _ => True) v443 t442) := ⟨(by rw [hw]; exact att14_0_2)⟩; have n3_ : Aside0 (w37.heap[gb446]? = some (.cells #[.int .i64 ((rd_T63 l0 x21_1).f0), .int .i64 ((rd_T63 l0 x21_1).f1), .int .i64 ((rd_T63 l0 x21_1).f2), .int .i64 ((rd_T63 l0 x21_1).f3), .int .i64 ((rd_T63 l0 x21_1).f4)] 63 (0, 0))) := ⟨att14_0_1⟩; have n4_ : Aside0 (Below w.heap.size w w37) := ⟨(by rw [hw]; exact att14_0_6)⟩; clear hw; clear HO_3; clear HO_4; clear HO_5; clear BK446; clear HB; have HO_3 := n0_; have HO_4 := n1_; have HO_5 := n2_; have BK446 := n3_; have HB := n4_; clear n0_ n1_ n2_ n3_ n4_; have hcz38_0 : w37.cell? ⟨gb446, 0, none⟩ = some (.int .i64 ((rd_T63 l0 x21_1).f0)) := (blk_cell BK446.out 0).trans rfl; have hcz38_1 : w37.cell? ⟨gb446, 1, none⟩ = some (.int .i64 ((rd_T63 l0 x21_1).f1)) := (blk_cell BK446.out 1).trans rfl; have hcz38_2 : w37.cell? ⟨gb446, 2, none⟩ = some (.int .i64 ((rd_T63 l0 x21_1).f2)) := (blk_cell BK446.out 2).trans rfl; have hcz38_3 : w37.cell? ⟨gb446, 3, none⟩ = some (.int .i64 ((rd_T63 l0 x21_1).f3)) := (blk_cell BK446.out 3).trans rfl; have hcz38_4 : w37.cell? ⟨gb446, 4, none⟩ = some (.int .i64 ((rd_T63 l0 x21_1).f4)) := (blk_cell BK446.out 4).trans rfl; have hfz38_0 := blk_frozen BK446.out 0; have hfz38_1 := blk_frozen BK446.out 1; have hfz38_2 := blk_frozen BK446.out 2; have hfz38_3 := blk_frozen BK446.out 3; have hfz38_4 := blk_frozen BK446.out 4) | (go_at_call 79; (with_reducible refine (impl_within.calls ((rd_T63 l0 x21_1).f0) 1 4 true _ A17.out).mono ?_); rintro e w' ⟨rfl, ⟨nd, rfl⟩⟩; (try first | exact ⟨rfl, _, World.drewN_drewN _ _ _⟩ | exact ⟨rfl, _, Eq.trans (World.drewN_drewN _ _ _) (congrArg (World.drewN _) (Nat.add_assoc _ _ _))⟩); obtain ⟨Ao39, co39, eo39⟩ := Kd.R_slice HO_5.out; subst eo39; have p448 : 0 ≤ (x21_1 : Int) := of_decide_eq_true att14_0_5; have q448 : x21_1 < (t442.length : Int) := of_decide_eq_true att14_0_5; obtain ⟨ad448, e448, hx448_0⟩ := Kd.at_bool (Kd.R_reads' HO_5.out).2.2 x21_1 p448 q448; (try rw [← Nbq20.out] at hx448_0); cases e448; replace p448 := eq_true p448; replace q448 := eq_true q448; obtain ⟨Ao40, co40, eo40⟩ := Kd.S_slice HO_4.out; subst eo40; have p449 : 0 ≤ ((ji23) : Int) := of_decide_eq_true att14_0_5; have q449 : (ji23) < (t436.length : Int) := of_decide_eq_true att14_0_5; obtain ⟨ad449, A449_0, c449_0, e449, hx449_0, hl449_0, hi449_0⟩ := at_L5 (Kd.S_reads' HO_4.out).2.2 (ji23) p449 q449; cases e449; obtain ⟨ce449, hce449, hMe449, hcc449⟩ := Kd.S_get HO_4.out [] (ji23) p449 att14_1_0; obtain ⟨ve449_0, rfl, ge449_0⟩ := hMe449; have hv449_0 := hcc449 0 _ rfl; rw [Nat.add_zero, show ((Kd.slice 3 (Kd.int .i64))).sz = 1 from rfl, Nat.mul_one] at hv449_0; replace hv449_0 := Option.some.inj (hv449_0.symm.trans hx449_0); rw [hv449_0] at ge449_0; have HL449_0 := Aside0.mk (show Kd.R (Kd.int .i64) 3 _ _ _ _ (rd_L5 t436 (ji23)) from ge449_0); clear hv449_0 ge449_0; clear hcc449 hce449; have HR449_0 := Aside0.mk hi449_0; have HC449_0 := Aside0.mk hl449_0; clear hi449_0 hl449_0; replace p449 := eq_true p449; replace q449 := eq_true q449) | (go_at_call 84; (with_reducible refine (slices_Contains_int_int.calls k1 _ _ (rd_L5 t436 (ji23)) ((rd_T63 l0 x21_1).f1) false _ ?side1 ?side2 A26.out).mono ?_); (case side1 => repeat (first | exact att14_0_11 | (with_reducible refine Kd.C_alloc ?_ _) | (with_reducible refine Kd.C_drewN ?_ _) | (with_reducible refine Kd.C_drew ?_))); (case side2 => exact HC449_0.out); rintro e w' ⟨rfl, ⟨nd, rfl⟩⟩; (try first | exact ⟨rfl, _, World.drewN_drewN _ _ _⟩ | exact ⟨rfl, _, Eq.trans (World.drewN_drewN _ _ _) (congrArg (World.drewN _) (Nat.add_assoc _ _ _))⟩)) | ((with_reducible refine gate_builtin (b := .append) (xs := #[.tmp 54, .tmp 56]) rfl ?_); (try (refine gate_guard (by rfl) ?_; dsimp only)); at_builtin; refine Kd.R_append (Kd.int .i64) (w0 := w) w.heap.size rfl (.tmp 54) (.tmp 56) 34 3 (.int .i64 0) 8 rfl Try.underlying34 info3 rfl (by decide) (by omega) u3 x3_1 x21_1 [.int .i64 x21_1] (fun _ => True) (fun _ => False) rfl rfl ?aP (fun _ hk => hk.elim) ?aF ?aO ?aB ?aS ?aL ?_; (case aP => exact rfl); (case aB => exact att14_0_6); (case aF => exact (fun _ _ => trivial)); (case aO => exact att14_0_8); (case aS => exact (below_size att14_0_6)); (case aL => have := LMc34.out; omega); intro v452 w41 ho hb hg hat; rw [← Ny451.out] at ho; have n0_ := Aside0.mk (Kd.S_after (ok := (fun _ => True)) att14_0_19 hg hat); have n1_ := Aside0.mk (Kd.R_over' att14_0_7 (Kd.R_typed att14_0_8) (by decide) hg); have n2_ := Aside0.mk (blk_grown (g := gb446) (o := .cells #[.int .i64 ((rd_T63 l0 x21_1).f0), .int .i64 ((rd_T63 l0 x21_1).f1), .int .i64 ((rd_T63 l0 x21_1).f2), .int .i64 ((rd_T63 l0 x21_1).f3), .int .i64 ((rd_T63 l0 x21_1).f4)] 63 (0, 0)) att14_0_21 hg (Kd.R_ne HO_3.out BK446.out (by decide))); have n3_ := Aside0.mk (Kd.R_after (ok := (fun k_ => some k_ ≠ (.slice (some ad449) t436.length co40 : Value).ownBlock)) att14_0_18 hg hat); have n4_ := Aside0.mk (hb); have n5_ := Aside0.mk (ho); clear HO_4; clear HO_5; clear BK446; clear HL449_0; clear HB; clear HO_3; have HO_4 := n0_; have HO_5 := n1_; have BK446 := n2_; have HL449_0 := n3_; have HB := n4_; have HO453 := n5_; clear n0_ n1_ n2_ n3_ n4_ n5_; clear ho hb hg hat)))
               go_roundg k1
               case measure => have := HK1.out; omega
               case rel => exact ⟨(y451), (ji23), att14_0_25, H', ⟨att14_0_17⟩, ⟨by (with_reducible repeat (first | apply Kd.R_alloc | apply Kd.R_drewN | apply Kd.R_drew)); exact HO453.out⟩, ⟨by (with_reducible repeat (first | apply Kd.S_alloc | apply Kd.S_drewN | apply Kd.S_drew)); exact Kd.S_mono HO_4.out (fun _ hk => hk.2)⟩, ⟨att14_0_7⟩, ⟨att14_0_6⟩⟩
              ·rw [if_neg c34] at H
               exact absurd H (by simp)
            ·rw [if_neg c25] at H
             exact absurd H (by simp)
           ·rw [if_neg c24] at H
            exact absurd H (by simp)
          ·rw [if_neg c22] at H
           have c22b0 : decide ((wrap64 (x21_1 + 1)) < (l0.length : Int)) = false := decide_eq_false c22
           clear c22
           have H' := Aside0.mk H
           clear H
           have p445 : 0 ≤ (x21_1 : Int) := of_decide_eq_true att14_0_5
           have q445 : x21_1 < (l0.length : Int) := of_decide_eq_true att14_0_5
           obtain ⟨ad445, e445, hx445_0, hx445_1, hx445_2, hx445_3, hx445_4⟩ := at_T63 HR0.out x21_1 p445 q445
           cases e445
           replace hx445_0 := (HB.out.cell (World.block_lt_of_cell? w _ hx445_0)).trans hx445_0
           replace hx445_1 := (HB.out.cell (World.block_lt_of_cell? w _ hx445_1)).trans hx445_1
           replace hx445_2 := (HB.out.cell (World.block_lt_of_cell? w _ hx445_2)).trans hx445_2
           replace hx445_3 := (HB.out.cell (World.block_lt_of_cell? w _ hx445_3)).trans hx445_3
           replace hx445_4 := (HB.out.cell (World.block_lt_of_cell? w _ hx445_4)).trans hx445_4
           replace p445 := eq_true p445
           replace q445 := eq_true q445
           go_wp2_with (first | ((with_reducible refine gate_dst (N := 7) rfl ?_); (try (refine gate_guard (by rfl) ?_; dsimp only)); refine box_event ?hg (N := 7) ?hd (cs := #[.int .i64 0, .int .i64 0, .int .i64 0, .int .i64 0, .int .i64 0]) (t := 63) ?hr ?_; (case hd => rfl); (case hg => rfl); (case hr => first | (go_simp; done) | (go_simp; rfl)); intro gb446 hg w42 hbox hb; have n0_ := Aside0.mk (Kd.R_below att14_0_8 hb); have n1_ := Aside0.mk (Kd.S_below att14_0_10 hb); have n2_ := Aside0.mk (Kd.R_below att14_0_7 hb); have n3_ := Aside0.mk (below_step att14_0_0 hb); have n4_ := Aside0.mk (hbox); have n5_ := Aside0.mk ((by rw [hg]; exact (below_size att14_0_0) : w.heap.size ≤ gb446)); have n6_ := Aside0.mk ((by rw [hg]; exact (below_size att14_0_0) : w.heap.size ≤ gb446)); clear HO_3; clear HO_4; clear HO_5; clear HB; have HO_3 := n0_; have HO_4 := n1_; have HO_5 := n2_; have HB := n3_; have BK446 := n4_; have GW446 := n5_; have GE446 := n6_; clear n0_ n1_ n2_ n3_ n4_ n5_ n6_; clear hb hbox hg; have hcz43_0 : w42.cell? ⟨gb446, 0, none⟩ = some (.int .i64 0) := (blk_cell BK446.out 0).trans rfl; have hcz43_1 : w42.cell? ⟨gb446, 1, none⟩ = some (.int .i64 0) := (blk_cell BK446.out 1).trans rfl; have hcz43_2 : w42.cell? ⟨gb446, 2, none⟩ = some (.int .i64 0) := (blk_cell BK446.out 2).trans rfl; have hcz43_3 : w42.cell? ⟨gb446, 3, none⟩ = some (.int .i64 0) := (blk_cell BK446.out 3).trans rfl; have hcz43_4 : w42.cell? ⟨gb446, 4, none⟩ = some (.int .i64 0) := (blk_cell BK446.out 4).trans rfl; have hfz43_0 := blk_frozen BK446.out 0; have hfz43_1 := blk_frozen BK446.out 1; have hfz43_2 := blk_frozen BK446.out 2; have hfz43_3 := blk_frozen BK446.out 3; have hfz43_4 := blk_frozen BK446.out 4) | (go_at_call 79; (with_reducible refine (impl_within.calls ((rd_T63 l0 x21_1).f0) 1 4 true _ A17.out).mono ?_); rintro e w' ⟨rfl, ⟨nd, rfl⟩⟩; (try first | exact ⟨rfl, _, World.drewN_drewN _ _ _⟩ | exact ⟨rfl, _, Eq.trans (World.drewN_drewN _ _ _) (congrArg (World.drewN _) (Nat.add_assoc _ _ _))⟩); obtain ⟨Ao44, co44, eo44⟩ := Kd.R_slice HO_5.out; subst eo44; have p448 : 0 ≤ (x21_1 : Int) := of_decide_eq_true att14_0_5; have q448 : x21_1 < (t442.length : Int) := of_decide_eq_true att14_0_5; obtain ⟨ad448, e448, hx448_0⟩ := Kd.at_bool (Kd.R_reads' HO_5.out).2.2 x21_1 p448 q448; (try rw [← Nbq20.out] at hx448_0); cases e448; have hn448_0 : ad448.block ≠ gb446 := Kd.own_blk (Kd.R_ne HO_5.out BK446.out (by decide)); have hn448_1 : ad448.block ≠ gb446 := Kd.own_blk (Kd.R_ne HO_5.out BK446.out (by decide)); have hn448_2 : ad448.block ≠ gb446 := Kd.own_blk (Kd.R_ne HO_5.out BK446.out (by decide)); have hn448_3 : ad448.block ≠ gb446 := Kd.own_blk (Kd.R_ne HO_5.out BK446.out (by decide)); have hn448_4 : ad448.block ≠ gb446 := Kd.own_blk (Kd.R_ne HO_5.out BK446.out (by decide)); replace hx448_0 := (cell_far (p := ⟨gb446, 0, none⟩) (by first | (rw [add_block]; exact hn448_0) | (show (Addr.add _ _).block ≠ _; rw [add_block]; exact hn448_0) | exact hn448_0) (.int .i64 ((rd_T63 l0 x21_1).f0))).trans hx448_0; replace hx448_0 := (cell_far (p := ⟨gb446, 1, none⟩) (by first | (rw [add_block]; exact hn448_1) | (show (Addr.add _ _).block ≠ _; rw [add_block]; exact hn448_1) | exact hn448_1) (.int .i64 ((rd_T63 l0 x21_1).f1))).trans hx448_0; replace hx448_0 := (cell_far (p := ⟨gb446, 2, none⟩) (by first | (rw [add_block]; exact hn448_2) | (show (Addr.add _ _).block ≠ _; rw [add_block]; exact hn448_2) | exact hn448_2) (.int .i64 ((rd_T63 l0 x21_1).f2))).trans hx448_0; replace hx448_0 := (cell_far (p := ⟨gb446, 3, none⟩) (by first | (rw [add_block]; exact hn448_3) | (show (Addr.add _ _).block ≠ _; rw [add_block]; exact hn448_3) | exact hn448_3) (.int .i64 ((rd_T63 l0 x21_1).f3))).trans hx448_0; replace hx448_0 := (cell_far (p := ⟨gb446, 4, none⟩) (by first | (rw [add_block]; exact hn448_4) | (show (Addr.add _ _).block ≠ _; rw [add_block]; exact hn448_4) | exact hn448_4) (.int .i64 ((rd_T63 l0 x21_1).f4))).trans hx448_0; (try have hy448_0 := fun (n_ : Nat) => (show (((((((w42.drewN n_).setCell ⟨gb446, 0, none⟩ (.int .i64 ((rd_T63 l0 x21_1).f0))).setCell ⟨gb446, 1, none⟩ (.int .i64 ((rd_T63 l0 x21_1).f1))).setCell ⟨gb446, 2, none⟩ (.int .i64 ((rd_T63 l0 x21_1).f2))).setCell ⟨gb446, 3, none⟩ (.int .i64 ((rd_T63 l0 x21_1).f3))).setCell ⟨gb446, 4, none⟩ (.int .i64 ((rd_T63 l0 x21_1).f4)))).cell? _ = some _ from hx448_0)); clear hn448_0; clear hn448_1; clear hn448_2; clear hn448_3; clear hn448_4; replace p448 := eq_true p448; replace q448 := eq_true q448))
           repeat (go_quiet (first | (go_at_call 79; (with_reducible refine (impl_within.calls ((rd_T63 l0 x21_1).f0) 1 4 true _ A17.out).mono ?_); rintro e w' ⟨rfl, ⟨nd, rfl⟩⟩; (try first | exact ⟨rfl, _, World.drewN_drewN _ _ _⟩ | exact ⟨rfl, _, Eq.trans (World.drewN_drewN _ _ _) (congrArg (World.drewN _) (Nat.add_assoc _ _ _))⟩); obtain ⟨Ao44, co44, eo44⟩ := Kd.R_slice HO_5.out; subst eo44; have p448 : 0 ≤ (x21_1 : Int) := of_decide_eq_true att14_0_5; have q448 : x21_1 < (t442.length : Int) := of_decide_eq_true att14_0_5; obtain ⟨ad448, e448, hx448_0⟩ := Kd.at_bool (Kd.R_reads' HO_5.out).2.2 x21_1 p448 q448; (try rw [← Nbq20.out] at hx448_0); cases e448; have hn448_0 : ad448.block ≠ gb446 := Kd.own_blk (Kd.R_ne HO_5.out BK446.out (by decide)); have hn448_1 : ad448.block ≠ gb446 := Kd.own_blk (Kd.R_ne HO_5.out BK446.out (by decide)); have hn448_2 : ad448.block ≠ gb446 := Kd.own_blk (Kd.R_ne HO_5.out BK446.out (by decide)); have hn448_3 : ad448.block ≠ gb446 := Kd.own_blk (Kd.R_ne HO_5.out BK446.out (by decide)); have hn448_4 : ad448.block ≠ gb446 := Kd.own_blk (Kd.R_ne HO_5.out BK446.out (by decide)); replace hx448_0 := (cell_far (p := ⟨gb446, 0, none⟩) (by first | (rw [add_block]; exact hn448_0) | (show (Addr.add _ _).block ≠ _; rw [add_block]; exact hn448_0) | exact hn448_0) (.int .i64 ((rd_T63 l0 x21_1).f0))).trans hx448_0; replace hx448_0 := (cell_far (p := ⟨gb446, 1, none⟩) (by first | (rw [add_block]; exact hn448_1) | (show (Addr.add _ _).block ≠ _; rw [add_block]; exact hn448_1) | exact hn448_1) (.int .i64 ((rd_T63 l0 x21_1).f1))).trans hx448_0; replace hx448_0 := (cell_far (p := ⟨gb446, 2, none⟩) (by first | (rw [add_block]; exact hn448_2) | (show (Addr.add _ _).block ≠ _; rw [add_block]; exact hn448_2) | exact hn448_2) (.int .i64 ((rd_T63 l0 x21_1).f2))).trans hx448_0; replace hx448_0 := (cell_far (p := ⟨gb446, 3, none⟩) (by first | (rw [add_block]; exact hn448_3) | (show (Addr.add _ _).block ≠ _; rw [add_block]; exact hn448_3) | exact hn448_3) (.int .i64 ((rd_T63 l0 x21_1).f3))).trans hx448_0; replace hx448_0 := (cell_far (p := ⟨gb446, 4, none⟩) (by first | (rw [add_block]; exact hn448_4) | (show (Addr.add _ _).block ≠ _; rw [add_block]; exact hn448_4) | exact hn448_4) (.int .i64 ((rd_T63 l0 x21_1).f4))).trans hx448_0; (try have hy448_0 := fun (n_ : Nat) => (show (((((((w42.drewN n_).setCell ⟨gb446, 0, none⟩ (.int .i64 ((rd_T63 l0 x21_1).f0))).setCell ⟨gb446, 1, none⟩ (.int .i64 ((rd_T63 l0 x21_1).f1))).setCell ⟨gb446, 2, none⟩ (.int .i64 ((rd_T63 l0 x21_1).f2))).setCell ⟨gb446, 3, none⟩ (.int .i64 ((rd_T63 l0 x21_1).f3))).setCell ⟨gb446, 4, none⟩ (.int .i64 ((rd_T63 l0 x21_1).f4)))).cell? _ = some _ from hx448_0)); clear hn448_0; clear hn448_1; clear hn448_2; clear hn448_3; clear hn448_4; replace p448 := eq_true p448; replace q448 := eq_true q448)); try go_wp2_with (first | ((with_reducible refine gate_dst (N := 7) rfl ?_); (try (refine gate_guard (by rfl) ?_; dsimp only)); refine box_event ?hg (N := 7) ?hd (cs := #[.int .i64 0, .int .i64 0, .int .i64 0, .int .i64 0, .int .i64 0]) (t := 63) ?hr ?_; (case hd => rfl); (case hg => rfl); (case hr => first | (go_simp; done) | (go_simp; rfl)); intro gb446 hg w42 hbox hb; have n0_ := Aside0.mk (Kd.R_below att14_0_8 hb); have n1_ := Aside0.mk (Kd.S_below att14_0_10 hb); have n2_ := Aside0.mk (Kd.R_below att14_0_7 hb); have n3_ := Aside0.mk (below_step att14_0_0 hb); have n4_ := Aside0.mk (hbox); have n5_ := Aside0.mk ((by rw [hg]; exact (below_size att14_0_0) : w.heap.size ≤ gb446)); have n6_ := Aside0.mk ((by rw [hg]; exact (below_size att14_0_0) : w.heap.size ≤ gb446)); clear HO_3; clear HO_4; clear HO_5; clear HB; have HO_3 := n0_; have HO_4 := n1_; have HO_5 := n2_; have HB := n3_; have BK446 := n4_; have GW446 := n5_; have GE446 := n6_; clear n0_ n1_ n2_ n3_ n4_ n5_ n6_; clear hb hbox hg; have hcz43_0 : w42.cell? ⟨gb446, 0, none⟩ = some (.int .i64 0) := (blk_cell BK446.out 0).trans rfl; have hcz43_1 : w42.cell? ⟨gb446, 1, none⟩ = some (.int .i64 0) := (blk_cell BK446.out 1).trans rfl; have hcz43_2 : w42.cell? ⟨gb446, 2, none⟩ = some (.int .i64 0) := (blk_cell BK446.out 2).trans rfl; have hcz43_3 : w42.cell? ⟨gb446, 3, none⟩ = some (.int .i64 0) := (blk_cell BK446.out 3).trans rfl; have hcz43_4 : w42.cell? ⟨gb446, 4, none⟩ = some (.int .i64 0) := (blk_cell BK446.out 4).trans rfl; have hfz43_0 := blk_frozen BK446.out 0; have hfz43_1 := blk_frozen BK446.out 1; have hfz43_2 := blk_frozen BK446.out 2; have hfz43_3 := blk_frozen BK446.out 3; have hfz43_4 := blk_frozen BK446.out 4) | (go_at_call 79; (with_reducible refine (impl_within.calls ((rd_T63 l0 x21_1).f0) 1 4 true _ A17.out).mono ?_); rintro e w' ⟨rfl, ⟨nd, rfl⟩⟩; (try first | exact ⟨rfl, _, World.drewN_drewN _ _ _⟩ | exact ⟨rfl, _, Eq.trans (World.drewN_drewN _ _ _) (congrArg (World.drewN _) (Nat.add_assoc _ _ _))⟩); obtain ⟨Ao44, co44, eo44⟩ := Kd.R_slice HO_5.out; subst eo44; have p448 : 0 ≤ (x21_1 : Int) := of_decide_eq_true att14_0_5; have q448 : x21_1 < (t442.length : Int) := of_decide_eq_true att14_0_5; obtain ⟨ad448, e448, hx448_0⟩ := Kd.at_bool (Kd.R_reads' HO_5.out).2.2 x21_1 p448 q448; (try rw [← Nbq20.out] at hx448_0); cases e448; have hn448_0 : ad448.block ≠ gb446 := Kd.own_blk (Kd.R_ne HO_5.out BK446.out (by decide)); have hn448_1 : ad448.block ≠ gb446 := Kd.own_blk (Kd.R_ne HO_5.out BK446.out (by decide)); have hn448_2 : ad448.block ≠ gb446 := Kd.own_blk (Kd.R_ne HO_5.out BK446.out (by decide)); have hn448_3 : ad448.block ≠ gb446 := Kd.own_blk (Kd.R_ne HO_5.out BK446.out (by decide)); have hn448_4 : ad448.block ≠ gb446 := Kd.own_blk (Kd.R_ne HO_5.out BK446.out (by decide)); replace hx448_0 := (cell_far (p := ⟨gb446, 0, none⟩) (by first | (rw [add_block]; exact hn448_0) | (show (Addr.add _ _).block ≠ _; rw [add_block]; exact hn448_0) | exact hn448_0) (.int .i64 ((rd_T63 l0 x21_1).f0))).trans hx448_0; replace hx448_0 := (cell_far (p := ⟨gb446, 1, none⟩) (by first | (rw [add_block]; exact hn448_1) | (show (Addr.add _ _).block ≠ _; rw [add_block]; exact hn448_1) | exact hn448_1) (.int .i64 ((rd_T63 l0 x21_1).f1))).trans hx448_0; replace hx448_0 := (cell_far (p := ⟨gb446, 2, none⟩) (by first | (rw [add_block]; exact hn448_2) | (show (Addr.add _ _).block ≠ _; rw [add_block]; exact hn448_2) | exact hn448_2) (.int .i64 ((rd_T63 l0 x21_1).f2))).trans hx448_0; replace hx448_0 := (cell_far (p := ⟨gb446, 3, none⟩) (by first | (rw [add_block]; exact hn448_3) | (show (Addr.add _ _).block ≠ _; rw [add_block]; exact hn448_3) | exact hn448_3) (.int .i64 ((rd_T63 l0 x21_1).f3))).trans hx448_0; replace hx448_0 := (cell_far (p := ⟨gb446, 4, none⟩) (by first | (rw [add_block]; exact hn448_4) | (show (Addr.add _ _).block ≠ _; rw [add_block]; exact hn448_4) | exact hn448_4) (.int .i64 ((rd_T63 l0 x21_1).f4))).trans hx448_0; (try have hy448_0 := fun (n_ : Nat) => (show (((((((w42.drewN n_).setCell ⟨gb446, 0, none⟩ (.int .i64 ((rd_T63 l0 x21_1).f0))).setCell ⟨gb446, 1, none⟩ (.int .i64 ((rd_T63 l0 x21_1).f1))).setCell ⟨gb446, 2, none⟩ (.int .i64 ((rd_T63 l0 x21_1).f2))).setCell ⟨gb446, 3, none⟩ (.int .i64 ((rd_T63 l0 x21_1).f3))).setCell ⟨gb446, 4, none⟩ (.int .i64 ((rd_T63 l0 x21_1).f4)))).cell? _ = some _ from hx448_0)); clear hn448_0; clear hn448_1; clear hn448_2; clear hn448_3; clear hn448_4; replace p448 := eq_true p448; replace q448 := eq_true q448)))
           go_roundg k1
           case measure => have := HK1.out; omega
           case rel => exact ⟨(x3_1), (wrap64 (x21_1 + 1)), att14_0_13, H', ⟨att14_0_17⟩, ⟨att14_0_3⟩, ⟨att14_0_4⟩, ⟨att14_0_2⟩, ⟨att14_0_6⟩⟩
         ·replace c21 := Bool.eq_false_iff.mpr c21
          subst c21
          rw [if_neg (show ¬ (false = true) by decide)] at H
          have H' := Aside0.mk H
          clear H
          have p445 : 0 ≤ (x21_1 : Int) := of_decide_eq_true att14_0_5
          have q445 : x21_1 < (l0.length : Int) := of_decide_eq_true att14_0_5
          obtain ⟨ad445, e445, hx445_0, hx445_1, hx445_2, hx445_3, hx445_4⟩ := at_T63 HR0.out x21_1 p445 q445
          cases e445
          replace hx445_0 := (HB.out.cell (World.block_lt_of_cell? w _ hx445_0)).trans hx445_0
          replace hx445_1 := (HB.out.cell (World.block_lt_of_cell? w _ hx445_1)).trans hx445_1
          replace hx445_2 := (HB.out.cell (World.block_lt_of_cell? w _ hx445_2)).trans hx445_2
          replace hx445_3 := (HB.out.cell (World.block_lt_of_cell? w _ hx445_3)).trans hx445_3
          replace hx445_4 := (HB.out.cell (World.block_lt_of_cell? w _ hx445_4)).trans hx445_4
          replace p445 := eq_true p445
          replace q445 := eq_true q445
          go_wp2_with (first | ((with_reducible refine gate_dst (N := 7) rfl ?_); (try (refine gate_guard (by rfl) ?_; dsimp only)); refine box_event ?hg (N := 7) ?hd (cs := #[.int .i64 0, .int .i64 0, .int .i64 0, .int .i64 0, .int .i64 0]) (t := 63) ?hr ?_; (case hd => rfl); (case hg => rfl); (case hr => first | (go_simp; done) | (go_simp; rfl)); intro gb446 hg w45 hbox hb; have n0_ := Aside0.mk (Kd.R_below att14_0_8 hb); have n1_ := Aside0.mk (Kd.S_below att14_0_10 hb); have n2_ := Aside0.mk (Kd.R_below att14_0_7 hb); have n3_ := Aside0.mk (below_step att14_0_0 hb); have n4_ := Aside0.mk (hbox); have n5_ := Aside0.mk ((by rw [hg]; exact (below_size att14_0_0) : w.heap.size ≤ gb446)); have n6_ := Aside0.mk ((by rw [hg]; exact (below_size att14_0_0) : w.heap.size ≤ gb446)); clear HO_3; clear HO_4; clear HO_5; clear HB; have HO_3 := n0_; have HO_4 := n1_; have HO_5 := n2_; have HB := n3_; have BK446 := n4_; have GW446 := n5_; have GE446 := n6_; clear n0_ n1_ n2_ n3_ n4_ n5_ n6_; clear hb hbox hg; have hcz46_0 : w45.cell? ⟨gb446, 0, none⟩ = some (.int .i64 0) := (blk_cell BK446.out 0).trans rfl; have hcz46_1 : w45.cell? ⟨gb446, 1, none⟩ = some (.int .i64 0) := (blk_cell BK446.out 1).trans rfl; have hcz46_2 : w45.cell? ⟨gb446, 2, none⟩ = some (.int .i64 0) := (blk_cell BK446.out 2).trans rfl; have hcz46_3 : w45.cell? ⟨gb446, 3, none⟩ = some (.int .i64 0) := (blk_cell BK446.out 3).trans rfl; have hcz46_4 : w45.cell? ⟨gb446, 4, none⟩ = some (.int .i64 0) := (blk_cell BK446.out 4).trans rfl; have hfz46_0 := blk_frozen BK446.out 0; have hfz46_1 := blk_frozen BK446.out 1; have hfz46_2 := blk_frozen BK446.out 2; have hfz46_3 := blk_frozen BK446.out 3; have hfz46_4 := blk_frozen BK446.out 4) | (go_at_call 79; (with_reducible refine (impl_within.calls ((rd_T63 l0 x21_1).f0) 1 4 true _ A17.out).mono ?_); rintro e w' ⟨rfl, ⟨nd, rfl⟩⟩; (try first | exact ⟨rfl, _, World.drewN_drewN _ _ _⟩ | exact ⟨rfl, _, Eq.trans (World.drewN_drewN _ _ _) (congrArg (World.drewN _) (Nat.add_assoc _ _ _))⟩); obtain ⟨Ao47, co47, eo47⟩ := Kd.R_slice HO_5.out; subst eo47; have p448 : 0 ≤ (x21_1 : Int) := of_decide_eq_true att14_0_5; have q448 : x21_1 < (t442.length : Int) := of_decide_eq_true att14_0_5; obtain ⟨ad448, e448, hx448_0⟩ := Kd.at_bool (Kd.R_reads' HO_5.out).2.2 x21_1 p448 q448; (try rw [← Nbq20.out] at hx448_0); cases e448; have hn448_0 : ad448.block ≠ gb446 := Kd.own_blk (Kd.R_ne HO_5.out BK446.out (by decide)); have hn448_1 : ad448.block ≠ gb446 := Kd.own_blk (Kd.R_ne HO_5.out BK446.out (by decide)); have hn448_2 : ad448.block ≠ gb446 := Kd.own_blk (Kd.R_ne HO_5.out BK446.out (by decide)); have hn448_3 : ad448.block ≠ gb446 := Kd.own_blk (Kd.R_ne HO_5.out BK446.out (by decide)); have hn448_4 : ad448.block ≠ gb446 := Kd.own_blk (Kd.R_ne HO_5.out BK446.out (by decide)); replace hx448_0 := (cell_far (p := ⟨gb446, 0, none⟩) (by first | (rw [add_block]; exact hn448_0) | (show (Addr.add _ _).block ≠ _; rw [add_block]; exact hn448_0) | exact hn448_0) (.int .i64 ((rd_T63 l0 x21_1).f0))).trans hx448_0; replace hx448_0 := (cell_far (p := ⟨gb446, 1, none⟩) (by first | (rw [add_block]; exact hn448_1) | (show (Addr.add _ _).block ≠ _; rw [add_block]; exact hn448_1) | exact hn448_1) (.int .i64 ((rd_T63 l0 x21_1).f1))).trans hx448_0; replace hx448_0 := (cell_far (p := ⟨gb446, 2, none⟩) (by first | (rw [add_block]; exact hn448_2) | (show (Addr.add _ _).block ≠ _; rw [add_block]; exact hn448_2) | exact hn448_2) (.int .i64 ((rd_T63 l0 x21_1).f2))).trans hx448_0; replace hx448_0 := (cell_far (p := ⟨gb446, 3, none⟩) (by first | (rw [add_block]; exact hn448_3) | (show (Addr.add _ _).block ≠ _; rw [add_block]; exact hn448_3) | exact hn448_3) (.int .i64 ((rd_T63 l0 x21_1).f3))).trans hx448_0; replace hx448_0 := (cell_far (p := ⟨gb446, 4, none⟩) (by first | (rw [add_block]; exact hn448_4) | (show (Addr.add _ _).block ≠ _; rw [add_block]; exact hn448_4) | exact hn448_4) (.int .i64 ((rd_T63 l0 x21_1).f4))).trans hx448_0; (try have hy448_0 := fun (n_ : Nat) => (show (((((((w45.drewN n_).setCell ⟨gb446, 0, none⟩ (.int .i64 ((rd_T63 l0 x21_1).f0))).setCell ⟨gb446, 1, none⟩ (.int .i64 ((rd_T63 l0 x21_1).f1))).setCell ⟨gb446, 2, none⟩ (.int .i64 ((rd_T63 l0 x21_1).f2))).setCell ⟨gb446, 3, none⟩ (.int .i64 ((rd_T63 l0 x21_1).f3))).setCell ⟨gb446, 4, none⟩ (.int .i64 ((rd_T63 l0 x21_1).f4)))).cell? _ = some _ from hx448_0)); clear hn448_0; clear hn448_1; clear hn448_2; clear hn448_3; clear hn448_4; replace p448 := eq_true p448; replace q448 := eq_true q448))
          repeat (go_quiet (first | (go_at_call 79; (with_reducible refine (impl_within.calls ((rd_T63 l0 x21_1).f0) 1 4 true _ A17.out).mono ?_); rintro e w' ⟨rfl, ⟨nd, rfl⟩⟩; (try first | exact ⟨rfl, _, World.drewN_drewN _ _ _⟩ | exact ⟨rfl, _, Eq.trans (World.drewN_drewN _ _ _) (congrArg (World.drewN _) (Nat.add_assoc _ _ _))⟩); obtain ⟨Ao47, co47, eo47⟩ := Kd.R_slice HO_5.out; subst eo47; have p448 : 0 ≤ (x21_1 : Int) := of_decide_eq_true att14_0_5; have q448 : x21_1 < (t442.length : Int) := of_decide_eq_true att14_0_5; obtain ⟨ad448, e448, hx448_0⟩ := Kd.at_bool (Kd.R_reads' HO_5.out).2.2 x21_1 p448 q448; (try rw [← Nbq20.out] at hx448_0); cases e448; have hn448_0 : ad448.block ≠ gb446 := Kd.own_blk (Kd.R_ne HO_5.out BK446.out (by decide)); have hn448_1 : ad448.block ≠ gb446 := Kd.own_blk (Kd.R_ne HO_5.out BK446.out (by decide)); have hn448_2 : ad448.block ≠ gb446 := Kd.own_blk (Kd.R_ne HO_5.out BK446.out (by decide)); have hn448_3 : ad448.block ≠ gb446 := Kd.own_blk (Kd.R_ne HO_5.out BK446.out (by decide)); have hn448_4 : ad448.block ≠ gb446 := Kd.own_blk (Kd.R_ne HO_5.out BK446.out (by decide)); replace hx448_0 := (cell_far (p := ⟨gb446, 0, none⟩) (by first | (rw [add_block]; exact hn448_0) | (show (Addr.add _ _).block ≠ _; rw [add_block]; exact hn448_0) | exact hn448_0) (.int .i64 ((rd_T63 l0 x21_1).f0))).trans hx448_0; replace hx448_0 := (cell_far (p := ⟨gb446, 1, none⟩) (by first | (rw [add_block]; exact hn448_1) | (show (Addr.add _ _).block ≠ _; rw [add_block]; exact hn448_1) | exact hn448_1) (.int .i64 ((rd_T63 l0 x21_1).f1))).trans hx448_0; replace hx448_0 := (cell_far (p := ⟨gb446, 2, none⟩) (by first | (rw [add_block]; exact hn448_2) | (show (Addr.add _ _).block ≠ _; rw [add_block]; exact hn448_2) | exact hn448_2) (.int .i64 ((rd_T63 l0 x21_1).f2))).trans hx448_0; replace hx448_0 := (cell_far (p := ⟨gb446, 3, none⟩) (by first | (rw [add_block]; exact hn448_3) | (show (Addr.add _ _).block ≠ _; rw [add_block]; exact hn448_3) | exact hn448_3) (.int .i64 ((rd_T63 l0 x21_1).f3))).trans hx448_0; replace hx448_0 := (cell_far (p := ⟨gb446, 4, none⟩) (by first | (rw [add_block]; exact hn448_4) | (show (Addr.add _ _).block ≠ _; rw [add_block]; exact hn448_4) | exact hn448_4) (.int .i64 ((rd_T63 l0 x21_1).f4))).trans hx448_0; (try have hy448_0 := fun (n_ : Nat) => (show (((((((w45.drewN n_).setCell ⟨gb446, 0, none⟩ (.int .i64 ((rd_T63 l0 x21_1).f0))).setCell ⟨gb446, 1, none⟩ (.int .i64 ((rd_T63 l0 x21_1).f1))).setCell ⟨gb446, 2, none⟩ (.int .i64 ((rd_T63 l0 x21_1).f2))).setCell ⟨gb446, 3, none⟩ (.int .i64 ((rd_T63 l0 x21_1).f3))).setCell ⟨gb446, 4, none⟩ (.int .i64 ((rd_T63 l0 x21_1).f4)))).cell? _ = some _ from hx448_0)); clear hn448_0; clear hn448_1; clear hn448_2; clear hn448_3; clear hn448_4; replace p448 := eq_true p448; replace q448 := eq_true q448)); try go_wp2_with (first | ((with_reducible refine gate_dst (N := 7) rfl ?_); (try (refine gate_guard (by rfl) ?_; dsimp only)); refine box_event ?hg (N := 7) ?hd (cs := #[.int .i64 0, .int .i64 0, .int .i64 0, .int .i64 0, .int .i64 0]) (t := 63) ?hr ?_; (case hd => rfl); (case hg => rfl); (case hr => first | (go_simp; done) | (go_simp; rfl)); intro gb446 hg w45 hbox hb; have n0_ := Aside0.mk (Kd.R_below att14_0_8 hb); have n1_ := Aside0.mk (Kd.S_below att14_0_10 hb); have n2_ := Aside0.mk (Kd.R_below att14_0_7 hb); have n3_ := Aside0.mk (below_step att14_0_0 hb); have n4_ := Aside0.mk (hbox); have n5_ := Aside0.mk ((by rw [hg]; exact (below_size att14_0_0) : w.heap.size ≤ gb446)); have n6_ := Aside0.mk ((by rw [hg]; exact (below_size att14_0_0) : w.heap.size ≤ gb446)); clear HO_3; clear HO_4; clear HO_5; clear HB; have HO_3 := n0_; have HO_4 := n1_; have HO_5 := n2_; have HB := n3_; have BK446 := n4_; have GW446 := n5_; have GE446 := n6_; clear n0_ n1_ n2_ n3_ n4_ n5_ n6_; clear hb hbox hg; have hcz46_0 : w45.cell? ⟨gb446, 0, none⟩ = some (.int .i64 0) := (blk_cell BK446.out 0).trans rfl; have hcz46_1 : w45.cell? ⟨gb446, 1, none⟩ = some (.int .i64 0) := (blk_cell BK446.out 1).trans rfl; have hcz46_2 : w45.cell? ⟨gb446, 2, none⟩ = some (.int .i64 0) := (blk_cell BK446.out 2).trans rfl; have hcz46_3 : w45.cell? ⟨gb446, 3, none⟩ = some (.int .i64 0) := (blk_cell BK446.out 3).trans rfl; have hcz46_4 : w45.cell? ⟨gb446, 4, none⟩ = some (.int .i64 0) := (blk_cell BK446.out 4).trans rfl; have hfz46_0 := blk_frozen BK446.out 0; have hfz46_1 := blk_frozen BK446.out 1; have hfz46_2 := blk_frozen BK446.out 2; have hfz46_3 := blk_frozen BK446.out 3; have hfz46_4 := blk_frozen BK446.out 4) | (go_at_call 79; (with_reducible refine (impl_within.calls ((rd_T63 l0 x21_1).f0) 1 4 true _ A17.out).mono ?_); rintro e w' ⟨rfl, ⟨nd, rfl⟩⟩; (try first | exact ⟨rfl, _, World.drewN_drewN _ _ _⟩ | exact ⟨rfl, _, Eq.trans (World.drewN_drewN _ _ _) (congrArg (World.drewN _) (Nat.add_assoc _ _ _))⟩); obtain ⟨Ao47, co47, eo47⟩ := Kd.R_slice HO_5.out; subst eo47; have p448 : 0 ≤ (x21_1 : Int) := of_decide_eq_true att14_0_5; have q448 : x21_1 < (t442.length : Int) := of_decide_eq_true att14_0_5; obtain ⟨ad448, e448, hx448_0⟩ := Kd.at_bool (Kd.R_reads' HO_5.out).2.2 x21_1 p448 q448; (try rw [← Nbq20.out] at hx448_0); cases e448; have hn448_0 : ad448.block ≠ gb446 := Kd.own_blk (Kd.R_ne HO_5.out BK446.out (by decide)); have hn448_1 : ad448.block ≠ gb446 := Kd.own_blk (Kd.R_ne HO_5.out BK446.out (by decide)); have hn448_2 : ad448.block ≠ gb446 := Kd.own_blk (Kd.R_ne HO_5.out BK446.out (by decide)); have hn448_3 : ad448.block ≠ gb446 := Kd.own_blk (Kd.R_ne HO_5.out BK446.out (by decide)); have hn448_4 : ad448.block ≠ gb446 := Kd.own_blk (Kd.R_ne HO_5.out BK446.out (by decide)); replace hx448_0 := (cell_far (p := ⟨gb446, 0, none⟩) (by first | (rw [add_block]; exact hn448_0) | (show (Addr.add _ _).block ≠ _; rw [add_block]; exact hn448_0) | exact hn448_0) (.int .i64 ((rd_T63 l0 x21_1).f0))).trans hx448_0; replace hx448_0 := (cell_far (p := ⟨gb446, 1, none⟩) (by first | (rw [add_block]; exact hn448_1) | (show (Addr.add _ _).block ≠ _; rw [add_block]; exact hn448_1) | exact hn448_1) (.int .i64 ((rd_T63 l0 x21_1).f1))).trans hx448_0; replace hx448_0 := (cell_far (p := ⟨gb446, 2, none⟩) (by first | (rw [add_block]; exact hn448_2) | (show (Addr.add _ _).block ≠ _; rw [add_block]; exact hn448_2) | exact hn448_2) (.int .i64 ((rd_T63 l0 x21_1).f2))).trans hx448_0; replace hx448_0 := (cell_far (p := ⟨gb446, 3, none⟩) (by first | (rw [add_block]; exact hn448_3) | (show (Addr.add _ _).block ≠ _; rw [add_block]; exact hn448_3) | exact hn448_3) (.int .i64 ((rd_T63 l0 x21_1).f3))).trans hx448_0; replace hx448_0 := (cell_far (p := ⟨gb446, 4, none⟩) (by first | (rw [add_block]; exact hn448_4) | (show (Addr.add _ _).block ≠ _; rw [add_block]; exact hn448_4) | exact hn448_4) (.int .i64 ((rd_T63 l0 x21_1).f4))).trans hx448_0; (try have hy448_0 := fun (n_ : Nat) => (show (((((((w45.drewN n_).setCell ⟨gb446, 0, none⟩ (.int .i64 ((rd_T63 l0 x21_1).f0))).setCell ⟨gb446, 1, none⟩ (.int .i64 ((rd_T63 l0 x21_1).f1))).setCell ⟨gb446, 2, none⟩ (.int .i64 ((rd_T63 l0 x21_1).f2))).setCell ⟨gb446, 3, none⟩ (.int .i64 ((rd_T63 l0 x21_1).f3))).setCell ⟨gb446, 4, none⟩ (.int .i64 ((rd_T63 l0 x21_1).f4)))).cell? _ = some _ from hx448_0)); clear hn448_0; clear hn448_1; clear hn448_2; clear hn448_3; clear hn448_4; replace p448 := eq_true p448; replace q448 := eq_true q448)))
          go_roundg k1
          case measure => have := HK1.out; omega
          case rel => exact ⟨(x3_1), (wrap64 (x21_1 + 1)), att14_0_13, H', ⟨att14_0_17⟩, ⟨att14_0_3⟩, ⟨att14_0_4⟩, ⟨att14_0_2⟩, ⟨att14_0_6⟩⟩
        ·rw [if_neg c19] at H
         exact absurd H (by simp)
       ·replace c18 := Bool.eq_false_iff.mpr c18
        subst c18
        rw [if_neg (show ¬ (false = true) by decide)] at H
        have H' := Aside0.mk H
        clear H
        have p445 : 0 ≤ (x21_1 : Int) := of_decide_eq_true att14_0_5
        have q445 : x21_1 < (l0.length : Int) := of_decide_eq_true att14_0_5
        obtain ⟨ad445, e445, hx445_0, hx445_1, hx445_2, hx445_3, hx445_4⟩ := at_T63 HR0.out x21_1 p445 q445
        cases e445
        replace hx445_0 := (HB.out.cell (World.block_lt_of_cell? w _ hx445_0)).trans hx445_0
        replace hx445_1 := (HB.out.cell (World.block_lt_of_cell? w _ hx445_1)).trans hx445_1
        replace hx445_2 := (HB.out.cell (World.block_lt_of_cell? w _ hx445_2)).trans hx445_2
        replace hx445_3 := (HB.out.cell (World.block_lt_of_cell? w _ hx445_3)).trans hx445_3
        replace hx445_4 := (HB.out.cell (World.block_lt_of_cell? w _ hx445_4)).trans hx445_4
        replace p445 := eq_true p445
        replace q445 := eq_true q445
        go_wp2_with (first | ((with_reducible refine gate_dst (N := 7) rfl ?_); (try (refine gate_guard (by rfl) ?_; dsimp only)); refine box_event ?hg (N := 7) ?hd (cs := #[.int .i64 0, .int .i64 0, .int .i64 0, .int .i64 0, .int .i64 0]) (t := 63) ?hr ?_; (case hd => rfl); (case hg => rfl); (case hr => first | (go_simp; done) | (go_simp; rfl)); intro gb446 hg w48 hbox hb; have n0_ := Aside0.mk (Kd.R_below att14_0_8 hb); have n1_ := Aside0.mk (Kd.S_below att14_0_10 hb); have n2_ := Aside0.mk (Kd.R_below att14_0_7 hb); have n3_ := Aside0.mk (below_step att14_0_0 hb); have n4_ := Aside0.mk (hbox); have n5_ := Aside0.mk ((by rw [hg]; exact (below_size att14_0_0) : w.heap.size ≤ gb446)); have n6_ := Aside0.mk ((by rw [hg]; exact (below_size att14_0_0) : w.heap.size ≤ gb446)); clear HO_3; clear HO_4; clear HO_5; clear HB; have HO_3 := n0_; have HO_4 := n1_; have HO_5 := n2_; have HB := n3_; have BK446 := n4_; have GW446 := n5_; have GE446 := n6_; clear n0_ n1_ n2_ n3_ n4_ n5_ n6_; clear hb hbox hg; have hcz49_0 : w48.cell? ⟨gb446, 0, none⟩ = some (.int .i64 0) := (blk_cell BK446.out 0).trans rfl; have hcz49_1 : w48.cell? ⟨gb446, 1, none⟩ = some (.int .i64 0) := (blk_cell BK446.out 1).trans rfl; have hcz49_2 : w48.cell? ⟨gb446, 2, none⟩ = some (.int .i64 0) := (blk_cell BK446.out 2).trans rfl; have hcz49_3 : w48.cell? ⟨gb446, 3, none⟩ = some (.int .i64 0) := (blk_cell BK446.out 3).trans rfl; have hcz49_4 : w48.cell? ⟨gb446, 4, none⟩ = some (.int .i64 0) := (blk_cell BK446.out 4).trans rfl; have hfz49_0 := blk_frozen BK446.out 0; have hfz49_1 := blk_frozen BK446.out 1; have hfz49_2 := blk_frozen BK446.out 2; have hfz49_3 := blk_frozen BK446.out 3; have hfz49_4 := blk_frozen BK446.out 4) | (go_at_call 79; (with_reducible refine (impl_within.calls ((rd_T63 l0 x21_1).f0) 1 4 false _ A17.out).mono ?_); rintro e w' ⟨rfl, ⟨nd, rfl⟩⟩; (try first | exact ⟨rfl, _, World.drewN_drewN _ _ _⟩ | exact ⟨rfl, _, Eq.trans (World.drewN_drewN _ _ _) (congrArg (World.drewN _) (Nat.add_assoc _ _ _))⟩)))
        repeat (go_quiet (first | (go_at_call 79; (with_reducible refine (impl_within.calls ((rd_T63 l0 x21_1).f0) 1 4 false _ A17.out).mono ?_); rintro e w' ⟨rfl, ⟨nd, rfl⟩⟩; (try first | exact ⟨rfl, _, World.drewN_drewN _ _ _⟩ | exact ⟨rfl, _, Eq.trans (World.drewN_drewN _ _ _) (congrArg (World.drewN _) (Nat.add_assoc _ _ _))⟩))); try go_wp2_with (first | ((with_reducible refine gate_dst (N := 7) rfl ?_); (try (refine gate_guard (by rfl) ?_; dsimp only)); refine box_event ?hg (N := 7) ?hd (cs := #[.int .i64 0, .int .i64 0, .int .i64 0, .int .i64 0, .int .i64 0]) (t := 63) ?hr ?_; (case hd => rfl); (case hg => rfl); (case hr => first | (go_simp; done) | (go_simp; rfl)); intro gb446 hg w48 hbox hb; have n0_ := Aside0.mk (Kd.R_below att14_0_8 hb); have n1_ := Aside0.mk (Kd.S_below att14_0_10 hb); have n2_ := Aside0.mk (Kd.R_below att14_0_7 hb); have n3_ := Aside0.mk (below_step att14_0_0 hb); have n4_ := Aside0.mk (hbox); have n5_ := Aside0.mk ((by rw [hg]; exact (below_size att14_0_0) : w.heap.size ≤ gb446)); have n6_ := Aside0.mk ((by rw [hg]; exact (below_size att14_0_0) : w.heap.size ≤ gb446)); clear HO_3; clear HO_4; clear HO_5; clear HB; have HO_3 := n0_; have HO_4 := n1_; have HO_5 := n2_; have HB := n3_; have BK446 := n4_; have GW446 := n5_; have GE446 := n6_; clear n0_ n1_ n2_ n3_ n4_ n5_ n6_; clear hb hbox hg; have hcz49_0 : w48.cell? ⟨gb446, 0, none⟩ = some (.int .i64 0) := (blk_cell BK446.out 0).trans rfl; have hcz49_1 : w48.cell? ⟨gb446, 1, none⟩ = some (.int .i64 0) := (blk_cell BK446.out 1).trans rfl; have hcz49_2 : w48.cell? ⟨gb446, 2, none⟩ = some (.int .i64 0) := (blk_cell BK446.out 2).trans rfl; have hcz49_3 : w48.cell? ⟨gb446, 3, none⟩ = some (.int .i64 0) := (blk_cell BK446.out 3).trans rfl; have hcz49_4 : w48.cell? ⟨gb446, 4, none⟩ = some (.int .i64 0) := (blk_cell BK446.out 4).trans rfl; have hfz49_0 := blk_frozen BK446.out 0; have hfz49_1 := blk_frozen BK446.out 1; have hfz49_2 := blk_frozen BK446.out 2; have hfz49_3 := blk_frozen BK446.out 3; have hfz49_4 := blk_frozen BK446.out 4) | (go_at_call 79; (with_reducible refine (impl_within.calls ((rd_T63 l0 x21_1).f0) 1 4 false _ A17.out).mono ?_); rintro e w' ⟨rfl, ⟨nd, rfl⟩⟩; (try first | exact ⟨rfl, _, World.drewN_drewN _ _ _⟩ | exact ⟨rfl, _, Eq.trans (World.drewN_drewN _ _ _) (congrArg (World.drewN _) (Nat.add_assoc _ _ _))⟩))))
        go_roundg k1
        case measure => have := HK1.out; omega
        case rel => exact ⟨(x3_1), (wrap64 (x21_1 + 1)), att14_0_13, H', ⟨att14_0_17⟩, ⟨att14_0_3⟩, ⟨att14_0_4⟩, ⟨att14_0_2⟩, ⟨att14_0_6⟩⟩
      ·rw [if_neg c16] at H
       exact absurd H (by simp)
     ·rw [if_neg c15] at H
      exact absurd H (by simp)
    ·rw [if_neg c14] at H
     have c14b0 : decide (x21_1 < (l0.length : Int)) = false := decide_eq_false c14
     clear c14
     obtain rfl := Option.some.inj H
     go_wp2
     repeat (go_quiet (fail); try go_wp2)
     go_ret
     exact ⟨_, by first | rfl | (simp [errW_none, errW_some] <;> rfl) | (simp [*, errW_none, errW_some] <;> rfl), by (with_reducible repeat (first | apply Kd.R_alloc | apply Kd.R_drewN | apply Kd.R_drew)); exact HO_3.out, att14_0_0⟩
 ·replace c3 := Bool.eq_false_iff.mpr c3
  subst c3
  rw [if_neg (show ¬ (false = true) by decide)] at H
  obtain rfl := Option.some.inj H
  go_enter Try.func41, Try.ntmps41
  go_wp2_with (first | ((with_reducible refine gate_dst (N := 9) rfl ?_); (try (refine gate_guard (by rfl) ?_; dsimp only)); refine Kd.R_lit (Kd.int .i64) _ 3 ?hg (N := 9) ?hd (xs := ([] : List Int)) (inner := []) (ok := fun _ => True) (okp := fun _ => True) ?hr ?hp (fun _ hk => hk) trivial (Below.refl _ _) (Nat.le_refl _) (by simp) ?_; (case hd => rfl); (case hg => rfl); (case hr => first | (go_simp; done) | (go_simp; rfl)); (case hp => exact (Reps.none _ _)); intro v433 w50 ho51 hb hg_ hnew_; clear hg_ hnew_; (first | rw [← Ny432.out] at ho51 | (simp only [Int.reduceToNat] at ho51; rw [← Ny432.out] at ho51)); have n0_ := Aside0.mk (Kd.R_lower ho51 (below_size att14_0_0)); have n1_ := Aside0.mk (below_step att14_0_0 hb); clear HB; have HO434 := n0_; have HB := n1_; clear n0_ n1_; clear hb ho51) | (go_at_call 34; (with_reducible refine (impl_BodyOk.calls k _ _ l0 3 false _ ?side1 ?side2 A2.out).mono ?_); (case side1 => repeat (first | exact (Kd.C_below HR0.out HB.out) | (with_reducible refine Kd.C_alloc ?_ _) | (with_reducible refine Kd.C_drewN ?_ _) | (with_reducible refine Kd.C_drew ?_))); (case side2 => exact HC0.out); rintro e w52 ⟨rfl, hb⟩; have n0_ := Aside0.mk (Kd.R_below att14_0_9 hb); have n1_ := Aside0.mk (below_step att14_0_0 hb); clear HO434; clear HB; have HO434 := n0_; have HB := n1_; clear n0_ n1_; (try clear hb); (try clear hb2); (try clear hk); (try clear hi)))
  repeat (go_quiet (fail); try go_wp2_with (first | ((with_reducible refine gate_dst (N := 9) rfl ?_); (try (refine gate_guard (by rfl) ?_; dsimp only)); refine Kd.R_lit (Kd.int .i64) _ 3 ?hg (N := 9) ?hd (xs := ([] : List Int)) (inner := []) (ok := fun _ => True) (okp := fun _ => True) ?hr ?hp (fun _ hk => hk) trivial (Below.refl _ _) (Nat.le_refl _) (by simp) ?_; (case hd => rfl); (case hg => rfl); (case hr => first | (go_simp; done) | (go_simp; rfl)); (case hp => exact (Reps.none _ _)); intro v433 w50 ho51 hb hg_ hnew_; clear hg_ hnew_; (first | rw [← Ny432.out] at ho51 | (simp only [Int.reduceToNat] at ho51; rw [← Ny432.out] at ho51)); have n0_ := Aside0.mk (Kd.R_lower ho51 (below_size att14_0_0)); have n1_ := Aside0.mk (below_step att14_0_0 hb); clear HB; have HO434 := n0_; have HB := n1_; clear n0_ n1_; clear hb ho51) | (go_at_call 34; (with_reducible refine (impl_BodyOk.calls k _ _ l0 3 false _ ?side1 ?side2 A2.out).mono ?_); (case side1 => repeat (first | exact (Kd.C_below HR0.out HB.out) | (with_reducible refine Kd.C_alloc ?_ _) | (with_reducible refine Kd.C_drewN ?_ _) | (with_reducible refine Kd.C_drew ?_))); (case side2 => exact HC0.out); rintro e w52 ⟨rfl, hb⟩; have n0_ := Aside0.mk (Kd.R_below att14_0_9 hb); have n1_ := Aside0.mk (below_step att14_0_0 hb); clear HO434; clear HB; have HO434 := n0_; have HB := n1_; clear n0_ n1_; (try clear hb); (try clear hb2); (try clear hk); (try clear hi))))
  go_ret
  exact ⟨_, by first | rfl | (simp [errW_none, errW_some] <;> rfl) | (simp [*, errW_none, errW_some] <;> rfl), by (with_reducible repeat (first | apply Kd.R_alloc | apply Kd.R_drewN | apply Kd.R_drew)); exact HO434.out, att14_0_0⟩

/-! ### laws_eqIntS: function 42 -/
def laws_eqIntS.l0 : Nat → List Int → List Int → Int → Option (Bool)
 | 0, _, _, _ => none
 | k + 1, x0, x1, x5 => if x5 < (x0.length : Int) then (if 0 ≤ x5 then (if x5 < (x1.length : Int) then (if (rd x0 x5) = (rd x1 x5) then (laws_eqIntS.l0 k x0 x1 (wrap64 (x5 + 1))) else (some false)) else (none)) else (none)) else (some true)
def laws_eqIntS.f (k : Nat) (l0 : List Int) (l1 : List Int) : Option (Bool) := if (l0.length : Int) = (l1.length : Int) then (laws_eqIntS.l0 k l0 l1 0) else (some false)
theorem laws_eqIntS.mono_l : ∀ k, (∀ y0 y1 y2, LeO (laws_eqIntS.l0 k y0 y1 y2) (laws_eqIntS.l0 (k + 1) y0 y1 y2))
 | 0 => fun _ _ _ r h => by simp [laws_eqIntS.l0] at h
 | k + 1 => by
  have ih0 := laws_eqIntS.mono_l k
  ·intro y0 y1 y2
   unfold laws_eqIntS.l0
   repeat' first
   | (with_reducible exact ih0 _ _ _)
   | (with_reducible exact LeO.refl _)
   | (with_reducible exact LeO.none _)
   | (with_reducible refine LeO.ite ?_ ?_)
   | (with_reducible refine LeO.bind ?_ (fun _ => ?_))
   | exact ih0 _ _ _
   | exact LeO.none _
   | refine LeO.ite ?_ ?_
   | refine LeO.bind ?_ (fun _ => ?_)
theorem laws_eqIntS.mono : ∀ a0 a1 k, LeO (laws_eqIntS.f k a0 a1) (laws_eqIntS.f (k + 1) a0 a1) := by
 intro a0 a1 k
 have ih0 := laws_eqIntS.mono_l k
 unfold laws_eqIntS.f
 repeat' first
   | (with_reducible exact ih0 _ _ _)
   | (with_reducible exact LeO.refl _)
   | (with_reducible exact LeO.none _)
   | (with_reducible refine LeO.ite ?_ ?_)
   | (with_reducible refine LeO.bind ?_ (fun _ => ?_))
   | exact ih0 _ _ _
   | exact LeO.none _
   | refine LeO.ite ?_ ?_
   | refine LeO.bind ?_ (fun _ => ?_)
set_option maxHeartbeats 80000000 in
set_option maxRecDepth 100000 in
theorem laws_eqIntS.calls (k : Nat) (A0 : Option Addr) (c0 : Nat) (l0 : List Int) (A1 : Option Addr) (c1 : Nat) (l1 : List Int) (r : Bool) (w : World) (hr0 : Kd.C (Kd.int .i64) w A0 l0.length l0) (hc0 : l0.length ≤ c0) (hr1 : Kd.C (Kd.int .i64) w A1 l1.length l1) (hc1 : l1.length ≤ c1) (h : laws_eqIntS.f k l0 l1 = some r) :
  Calls Try.prog 42 #[.slice A0 l0.length c0, .slice A1 l1.length c1] w fun e w' => e = .returned (.bool r) ∧ Drawn0 w w' := by
 have HR0 := Aside0.mk hr0
 have HC0 := Aside0.mk hc0
 clear hr0 hc0
 have HR1 := Aside0.mk hr1
 have HC1 := Aside0.mk hc1
 clear hr1 hc1
 have H : (if (l0.length : Int) = (l1.length : Int) then (laws_eqIntS.l0 k l0 l1 0) else (some false)) = some r := h
 clear h
 by_cases c3 : (l0.length : Int) = (l1.length : Int)
 ·rw [if_pos c3] at H
  have c3b0 : ((l0.length : Int) == (l1.length : Int)) = true := beq_iff_eq.mpr c3
  have c3b1 : ((l0.length : Int) != (l1.length : Int)) = false := bne_eq_false_iff_eq.mpr c3
  have c3b2 : (l0.length == l1.length) = true := by first | simpa using c3 | (simp at c3 ⊢; omega)
  clear c3
  have H' := Aside0.mk H
  clear H
  go_enter Try.func42, Try.ntmps42
  go_wp2
  repeat (go_quiet (fail); try go_wp2)
  go_loopg [5] k (fun kq v5 w' => ∃ (x5_1 : Int), v5 = .int .i64 x5_1 ∧ Aside0 (laws_eqIntS.l0 kq l0 l1 x5_1 = some r) ∧ Aside0 (kq ≤ k) ∧ Drawn0 w w')
  case atStart => exact ⟨(0), att14_0_13, H', ⟨Nat.le_refl _⟩, att14_0_16⟩
  case round =>
   clear H'
   try clear c1
   try clear p2
   try clear c3
   try clear c3b0
   try clear c3b1
   try clear c3b2
   obtain ⟨x5_1, rfl, HA, HK1, ⟨m1, rfl⟩⟩ := hrel
   cases gk with
   | zero => exact absurd HA.out (by simp [laws_eqIntS.l0])
   | succ k1 =>
    have H := HA.out
    clear HA
    simp only [laws_eqIntS.l0] at H
    by_cases c4 : x5_1 < (l0.length : Int)
    ·rw [if_pos c4] at H
     have c4b0 : decide (x5_1 < (l0.length : Int)) = true := decide_eq_true c4
     clear c4
     by_cases c5 : 0 ≤ x5_1
     ·rw [if_pos c5] at H
      have c5b0 : decide (0 ≤ x5_1) = true := decide_eq_true c5
      clear c5
      by_cases c6 : x5_1 < (l1.length : Int)
      ·rw [if_pos c6] at H
       have c6b0 : decide (x5_1 < (l1.length : Int)) = true := decide_eq_true c6
       clear c6
       by_cases c7 : (rd l0 x5_1) = (rd l1 x5_1)
       ·rw [if_pos c7] at H
        have c7b0 : ((rd l0 x5_1) == (rd l1 x5_1)) = true := beq_iff_eq.mpr c7
        have c7b1 : ((rd l0 x5_1) != (rd l1 x5_1)) = false := bne_eq_false_iff_eq.mpr c7
        clear c7
        have H' := Aside0.mk H
        clear H
        have p454 : 0 ≤ (x5_1 : Int) := of_decide_eq_true att14_0_5
        have q454 : x5_1 < (l0.length : Int) := of_decide_eq_true att14_0_5
        obtain ⟨ad454, e454, hx454_0⟩ := Kd.at_int HR0.out x5_1 p454 q454
        cases e454
        replace p454 := eq_true p454
        replace q454 := eq_true q454
        have p455 : 0 ≤ (x5_1 : Int) := of_decide_eq_true att14_0_5
        have q455 : x5_1 < (l1.length : Int) := of_decide_eq_true att14_0_5
        obtain ⟨ad455, e455, hx455_0⟩ := Kd.at_int HR1.out x5_1 p455 q455
        cases e455
        replace p455 := eq_true p455
        replace q455 := eq_true q455
        go_wp2
        repeat (go_quiet (fail); try go_wp2)
        go_roundg k1
        case measure => have := HK1.out; omega
        case rel => exact ⟨(wrap64 (x5_1 + 1)), att14_0_13, H', ⟨att14_0_17⟩, att14_0_16⟩
       ·rw [if_neg c7] at H
        have c7b0 : ((rd l0 x5_1) == (rd l1 x5_1)) = false := beq_eq_false_iff_ne.mpr c7
        have c7b1 : ((rd l0 x5_1) != (rd l1 x5_1)) = true := bne_iff_ne.mpr c7
        obtain rfl := Option.some.inj H
        have p454 : 0 ≤ (x5_1 : Int) := of_decide_eq_true att14_0_5
        have q454 : x5_1 < (l0.length : Int) := of_decide_eq_true att14_0_5
        obtain ⟨ad454, e454, hx454_0⟩ := Kd.at_int HR0.out x5_1 p454 q454
        cases e454
        replace p454 := eq_true p454
        replace q454 := eq_true q454
        have p455 : 0 ≤ (x5_1 : Int) := of_decide_eq_true att14_0_5
        have q455 : x5_1 < (l1.length : Int) := of_decide_eq_true att14_0_5
        obtain ⟨ad455, e455, hx455_0⟩ := Kd.at_int HR1.out x5_1 p455 q455
        cases e455
        replace p455 := eq_true p455
        replace q455 := eq_true q455
        go_wp2
        repeat (go_quiet (fail); try go_wp2)
        go_ret
        exact ⟨by first | rfl | (simp; done) | (simp [*]; done), att14_0_16⟩
      ·rw [if_neg c6] at H
       exact absurd H (by simp)
     ·rw [if_neg c5] at H
      exact absurd H (by simp)
    ·rw [if_neg c4] at H
     have c4b0 : decide (x5_1 < (l0.length : Int)) = false := decide_eq_false c4
     clear c4
     obtain rfl := Option.some.inj H
     go_wp2
     repeat (go_quiet (fail); try go_wp2)
     go_ret
     exact ⟨by first | rfl | (simp; done) | (simp [*]; done), att14_0_16⟩
 ·rw [if_neg c3] at H
  have c3b0 : ((l0.length : Int) == (l1.length : Int)) = false := beq_eq_false_iff_ne.mpr c3
  have c3b1 : ((l0.length : Int) != (l1.length : Int)) = true := bne_iff_ne.mpr c3
  have c3b2 : (l0.length == l1.length) = false := by first | simpa using c3 | (simp at c3 ⊢; omega)
  obtain rfl := Option.some.inj H
  go_enter Try.func42, Try.ntmps42
  go_wp2
  repeat (go_quiet (fail); try go_wp2)
  go_ret
  exact ⟨by first | rfl | (simp; done) | (simp [*]; done), att14_0_16⟩

/-! ### laws_markIntS: function 43 -/
def laws_markIntS.l0 : Nat → List Int → Int → Int → Option (Int × List Int)
 | 0, _, _, _ => none
 | k + 1, x0, x1, x5 => if x5 < (x0.length : Int) then (if 0 ≤ x5 then (laws_markIntS.l0 k (x0.set (x5 : Int).toNat x1) (wrap64 (x1 + 1)) (wrap64 (x5 + 1))) else (none)) else (some (x1, x0))
def laws_markIntS.f (k : Nat) (l0 : List Int) (a1 : Int) : Option (Int × List Int) := laws_markIntS.l0 k l0 a1 0
theorem laws_markIntS.mono_l : ∀ k, (∀ y0 y1 y2, LeO (laws_markIntS.l0 k y0 y1 y2) (laws_markIntS.l0 (k + 1) y0 y1 y2))
 | 0 => fun _ _ _ r h => by simp [laws_markIntS.l0] at h
 | k + 1 => by
  have ih0 := laws_markIntS.mono_l k
  ·intro y0 y1 y2
   unfold laws_markIntS.l0
   repeat' first
   | (with_reducible exact ih0 _ _ _)
   | (with_reducible exact LeO.refl _)
   | (with_reducible exact LeO.none _)
   | (with_reducible refine LeO.ite ?_ ?_)
   | (with_reducible refine LeO.bind ?_ (fun _ => ?_))
   | exact ih0 _ _ _
   | exact LeO.none _
   | refine LeO.ite ?_ ?_
   | refine LeO.bind ?_ (fun _ => ?_)
theorem laws_markIntS.mono : ∀ a0 a1 k, LeO (laws_markIntS.f k a0 a1) (laws_markIntS.f (k + 1) a0 a1) := by
 intro a0 a1 k
 have ih0 := laws_markIntS.mono_l k
 unfold laws_markIntS.f
 repeat' first
   | (with_reducible exact ih0 _ _ _)
   | (with_reducible exact LeO.refl _)
   | (with_reducible exact LeO.none _)
   | (with_reducible refine LeO.ite ?_ ?_)
   | (with_reducible refine LeO.bind ?_ (fun _ => ?_))
   | exact ih0 _ _ _
   | exact LeO.none _
   | refine LeO.ite ?_ ?_
   | refine LeO.bind ?_ (fun _ => ?_)
set_option maxHeartbeats 80000000 in
set_option maxRecDepth 100000 in
theorem laws_markIntS.calls (k : Nat) (P0_ : Nat → Prop) (u9000_ : Value) (l0 : List Int) (a1 : Int) (r1 : Int) (r2 : List Int) (w0 w : World) (hB : Below w0.heap.size w0 w) (ho0 : Kd.R (Kd.int .i64) 3 w w0.heap.size P0_ u9000_ l0) (h : laws_markIntS.f k l0 a1 = some (r1, r2)) :
  Calls Try.prog 43 #[u9000_, .int .i64 a1] w fun e w' => e = .returned (.int .i64 r1) ∧ Kd.R (Kd.int .i64) 3 w' w0.heap.size (fun k_ => (P0_ k_ ∨ w.heap.size ≤ k_)) u9000_ r2 ∧ Below w0.heap.size w0 w' ∧ Kept w w' (fun k_ => P0_ k_) := by
 have HO0 := Aside0.mk (show Kd.R (Kd.int .i64) 3 w w0.heap.size (fun k_ => (P0_ k_ ∨ w.heap.size ≤ k_)) u9000_ l0 from Kd.R_mono ho0 (fun k_ hk => (.inl hk)))
 have HK := Aside0.mk (Kept.refl w (fun k_ => P0_ k_))
 have HW0 := Aside0.mk hB.size
 have HB := Aside0.mk hB
 clear hB
 have H : (laws_markIntS.l0 k l0 a1 0) = some (r1, r2) := h
 clear h
 have H' := Aside0.mk H
 clear H
 go_enter Try.func43, Try.ntmps43
 go_wp2
 go_loopg [1, 5] k (fun kq v1 v5 w' => ∃ (x0_1 : List Int) (x1_1 : Int) (x5_1 : Int), v1 = .int .i64 x1_1 ∧ v5 = .int .i64 x5_1 ∧ Aside0 (laws_markIntS.l0 kq x0_1 x1_1 x5_1 = some (r1, r2)) ∧ Aside0 (kq ≤ k) ∧ Aside0 (Kd.R (Kd.int .i64) 3 w' w0.heap.size (fun k_ => (P0_ k_ ∨ w.heap.size ≤ k_)) u9000_ x0_1) ∧ Aside0 (Kept w w' (fun k_ => P0_ k_)) ∧ Aside0 (Below w0.heap.size w0 w'))
 case atStart => exact ⟨(l0), (a1), (0), att14_0_13, att14_0_13, H', ⟨Nat.le_refl _⟩, ⟨by (with_reducible repeat (first | apply Kd.R_alloc | apply Kd.R_drewN | apply Kd.R_drew)); exact HO0.out⟩, ⟨att14_0_14⟩, ⟨att14_0_0⟩⟩
 case round =>
  clear H'
  try clear p2
  obtain ⟨x0_1, x1_1, x5_1, rfl, rfl, HA, HK1, HO_0, HK, HB⟩ := hrel
  cases gk with
  | zero => exact absurd HA.out (by simp [laws_markIntS.l0])
  | succ k1 =>
   have H := HA.out
   clear HA
   simp only [laws_markIntS.l0] at H
   by_cases c3 : x5_1 < (x0_1.length : Int)
   ·rw [if_pos c3] at H
    have c3b0 : decide (x5_1 < (x0_1.length : Int)) = true := decide_eq_true c3
    clear c3
    by_cases c4 : 0 ≤ x5_1
    ·rw [if_pos c4] at H
     have c4b0 : decide (0 ≤ x5_1) = true := decide_eq_true c4
     clear c4
     obtain ⟨y456, hy456⟩ : ∃ y_ : List Int, y_ = (x0_1.set (x5_1 : Int).toNat x1_1) := ⟨_, rfl⟩
     replace H : (laws_markIntS.l0 k1 y456 (wrap64 (x1_1 + 1)) (wrap64 (x5_1 + 1))) = some (r1, r2) := by first | (rw [hy456]; with_reducible exact H) | (have H2_ := (Option.bind_some _ _).symm.trans H; rw [hy456]; with_reducible exact H2_) | (have H2_ := (Option.bind_some _ _).symm.trans H; with_reducible exact H2_) | with_reducible exact H | (rw [hy456]; exact H) | exact H
     have Ny456 := Aside0.mk hy456
     clear hy456
     have H' := Aside0.mk H
     clear H
     obtain ⟨Ao6, co6, eo6⟩ := Kd.R_slice HO_0.out
     subst eo6
     have p5 : 0 ≤ (x5_1 : Int) := of_decide_eq_true att14_0_5
     have q5 : (x5_1 : Int) < ((x0_1.length : Int) : Int) := of_decide_eq_true att14_0_5
     obtain ⟨go5, co5, eo5, gb5, gl5, cl5, HG5⟩ := Kd.R_form HO_0.out (by omega)
     (first | cases eo5 | (injection eo5 with ea_ en_ ec_; (first | subst ea_ | (injection ea_ with ea_; subst ea_)); subst ec_; clear en_))
     have GB5 := Aside0.mk gb5
     have GG5 := Aside0.mk HG5
     clear gb5 gl5 HG5
     have HMgo5 := Aside0.mk (show (P0_ go5 ∨ w.heap.size ≤ go5) from (HO_0.out.1 _ rfl))
     obtain ⟨hx5_0, hf5_0⟩ := Kd.R_celln 0 HO_0.out (x5_1 : Int) p5 q5
     replace p5 := eq_true p5
     replace q5 := eq_true q5
     have HP7 := Kd.R_putg HO_0.out (x5_1 : Int) x1_1
     go_wp2_with (first | ((with_reducible refine gate_store (t := 3) (p := 15) rfl ?_); refine store_event (t := 3) (p := 15) (v := ?vo_w8) (w1 := (wr.setCell ⟨go5, (x5_1 : Int).toNat, none⟩ (.int .i64 x1_1))) ?hg ?ho ?hn ?hr ?_; (case ho => rfl); (case hg => rfl); (case hn => rfl); (case hr => first | (go_simp; done) | (go_simp; rfl)); intro w8 hw; have hg : wr.grownBy w8 (some go5) := (by rw [hw]; exact HP7.2); have hp_ : Kd.R (Kd.int .i64) 3 w8 w0.heap.size (fun k_ => (P0_ k_ ∨ w.heap.size ≤ k_)) (.slice (some ⟨go5, 0, none⟩) x0_1.length co6) y456 := (by rw [hw, Ny456.out]; exact HP7.1); clear HP7; have n0_ := Aside0.mk (hp_); have n1_ := Aside0.mk ((by rw [hw]; exact below_set (HB.out) GB5.out : Below w0.heap.size w0 w8)); have n2_ := Aside0.mk (Kept.of_grown (S := (fun k_ => P0_ k_)) hg att14_0_14 (fun k_ e_ => (HO_0.out.1 k_ e_))); clear HO_0; clear HB; clear HK; have HO_0 := n0_; have HB := n1_; have HK := n2_; clear n0_ n1_ n2_; clear hg hw hp_))
     go_roundg k1
     case measure => have := HK1.out; omega
     case rel => exact ⟨(y456), (wrap64 (x1_1 + 1)), (wrap64 (x5_1 + 1)), att14_0_13, att14_0_13, H', ⟨att14_0_17⟩, ⟨by (with_reducible repeat (first | apply Kd.R_alloc | apply Kd.R_drewN | apply Kd.R_drew)); exact HO_0.out⟩, ⟨att14_0_14⟩, ⟨att14_0_0⟩⟩
    ·rw [if_neg c4] at H
     exact absurd H (by simp)
   ·rw [if_neg c3] at H
    have c3b0 : decide (x5_1 < (x0_1.length : Int)) = false := decide_eq_false c3
    clear c3
    simp only [Option.some.injEq, Prod.mk.injEq] at H
    obtain ⟨rfl, rfl⟩ := H
    obtain ⟨Ao9, co9, eo9⟩ := Kd.R_slice HO_0.out
    subst eo9
    go_wp2
    go_ret
    exact ⟨by first | rfl | (simp [errW_none, errW_some] <;> rfl) | (simp [*, errW_none, errW_some] <;> rfl), by (with_reducible repeat (first | apply Kd.R_alloc | apply Kd.R_drewN | apply Kd.R_drew)); exact HO_0.out, by repeat (first | (with_reducible first | exact HB.out | apply below_alloc | apply pw_below_drewN | apply below_drew1) | exact HB.out), att14_0_14⟩

end Go.Proofs.Ytocimkpafakiaaa.XFnExactDeadAt
