/- Each Go function that the law reaches as a Lean function, and that Go comes to just its answer; written by this session's xprint.py over the kit's printer. -/
import Derived.Test.YtocimkpafakiaaaXFnExactTrimBodyx0
import Derived.Test.YtocimkpafakiaaaXFnExactTrimBodyx9
import Derived.Test.YtocimkpafakiaaaXFnExactTrimBodyx11
import Derived.Test.YtocimkpafakiaaaXFnExactTrimBodyx12
import Derived.Test.YtocimkpafakiaaaXFnExactTrimBodyx13
namespace Go.Proofs.Ytocimkpafakiaaa.XFnExactTrimBody
open Go.RowKit Go.Proofs.YtocimkpafakiaaaW.PrintWords Go.Proofs.YtocimkpafakiaaaW.PrintLast Go.Proofs.YtocimkpafakiaaaW.PrintMore
attribute [local go_sem] max2_int min2_int max_two min_two max_three min_three max_four min_four   -- for this text's walks alone
set_option linter.unusedVariables false
set_option linter.unusedSimpArgs false

theorem att15_0_0 {p : Prop} (h : p := by repeat (first | (with_reducible first | exact HB.out | apply below_alloc | apply pw_below_drewN | apply below_drew1) | exact HB.out)) : p := h
theorem att15_0_1 {p : Prop} (h : p := by rw [hw]; exact (by (with_reducible repeat (first | refine blk_drewN ?_ _ | refine blk_drew ?_ | refine blk_alloc ?_ _)); refine blk_put (cs := #[.int .i64 ((rd_T63 l0 x21_1).f0), .int .i64 ((rd_T63 l0 x21_1).f1), .int .i64 ((rd_T63 l0 x21_1).f2), .int .i64 ((rd_T63 l0 x21_1).f3), .int .i64 0]) ?_ 4 _ rfl; (with_reducible repeat (first | refine blk_drewN ?_ _ | refine blk_drew ?_ | refine blk_alloc ?_ _)); refine blk_put (cs := #[.int .i64 ((rd_T63 l0 x21_1).f0), .int .i64 ((rd_T63 l0 x21_1).f1), .int .i64 ((rd_T63 l0 x21_1).f2), .int .i64 0, .int .i64 0]) ?_ 3 _ rfl; (with_reducible repeat (first | refine blk_drewN ?_ _ | refine blk_drew ?_ | refine blk_alloc ?_ _)); refine blk_put (cs := #[.int .i64 ((rd_T63 l0 x21_1).f0), .int .i64 ((rd_T63 l0 x21_1).f1), .int .i64 0, .int .i64 0, .int .i64 0]) ?_ 2 _ rfl; (with_reducible repeat (first | refine blk_drewN ?_ _ | refine blk_drew ?_ | refine blk_alloc ?_ _)); refine blk_put (cs := #[.int .i64 ((rd_T63 l0 x21_1).f0), .int .i64 0, .int .i64 0, .int .i64 0, .int .i64 0]) ?_ 1 _ rfl; (with_reducible repeat (first | refine blk_drewN ?_ _ | refine blk_drew ?_ | refine blk_alloc ?_ _)); refine blk_put (cs := #[.int .i64 0, .int .i64 0, .int .i64 0, .int .i64 0, .int .i64 0]) ?_ 0 _ rfl; (with_reducible repeat (first | refine blk_drewN ?_ _ | refine blk_drew ?_ | refine blk_alloc ?_ _)); exact BK463.out)) : p := h
theorem att15_0_2 {p : Prop} (h : p := by (with_reducible repeat (first | apply Kd.R_alloc | apply Kd.R_drewN | apply Kd.R_drew)); exact Kd.R_mono (Kd.R_far (p := ⟨gb463, 4, none⟩) (Kd.R_far (p := ⟨gb463, 3, none⟩) (Kd.R_far (p := ⟨gb463, 2, none⟩) (Kd.R_far (p := ⟨gb463, 1, none⟩) (Kd.R_far (p := ⟨gb463, 0, none⟩) (Kd.R_types HO_5.out BK463.out (by decide)) (fun _ hk => hk.2) (.int .i64 ((rd_T63 l0 x21_1).f0))) (fun _ hk => hk.2) (.int .i64 ((rd_T63 l0 x21_1).f1))) (fun _ hk => hk.2) (.int .i64 ((rd_T63 l0 x21_1).f2))) (fun _ hk => hk.2) (.int .i64 ((rd_T63 l0 x21_1).f3))) (fun _ hk => hk.2) (.int .i64 ((rd_T63 l0 x21_1).f4))) (fun _ hk => trivial)) : p := h
theorem att15_0_3 {p : Prop} (h : p := by (with_reducible repeat (first | apply Kd.R_alloc | apply Kd.R_drewN | apply Kd.R_drew)); exact Kd.R_mono (Kd.R_far (p := ⟨gb463, 4, none⟩) (Kd.R_far (p := ⟨gb463, 3, none⟩) (Kd.R_far (p := ⟨gb463, 2, none⟩) (Kd.R_far (p := ⟨gb463, 1, none⟩) (Kd.R_far (p := ⟨gb463, 0, none⟩) (Kd.R_types HO_3.out BK463.out (by decide)) (fun _ hk => hk.2) (.int .i64 ((rd_T63 l0 x21_1).f0))) (fun _ hk => hk.2) (.int .i64 ((rd_T63 l0 x21_1).f1))) (fun _ hk => hk.2) (.int .i64 ((rd_T63 l0 x21_1).f2))) (fun _ hk => hk.2) (.int .i64 ((rd_T63 l0 x21_1).f3))) (fun _ hk => hk.2) (.int .i64 ((rd_T63 l0 x21_1).f4))) (fun _ hk => trivial)) : p := h
theorem att15_0_4 {p : Prop} (h : p := by (with_reducible repeat (first | apply Kd.S_alloc | apply Kd.S_drewN | apply Kd.S_drew)); exact Kd.S_mono (Kd.S_far (p := ⟨gb463, 4, none⟩) (Kd.S_far (p := ⟨gb463, 3, none⟩) (Kd.S_far (p := ⟨gb463, 2, none⟩) (Kd.S_far (p := ⟨gb463, 1, none⟩) (Kd.S_far (p := ⟨gb463, 0, none⟩) (Kd.S_types HO_4.out BK463.out (by decide)) (fun _ hk => hk.2) (.int .i64 ((rd_T63 l0 x21_1).f0))) (fun _ hk => hk.2) (.int .i64 ((rd_T63 l0 x21_1).f1))) (fun _ hk => hk.2) (.int .i64 ((rd_T63 l0 x21_1).f2))) (fun _ hk => hk.2) (.int .i64 ((rd_T63 l0 x21_1).f3))) (fun _ hk => hk.2) (.int .i64 ((rd_T63 l0 x21_1).f4))) (fun _ hk => hk.1)) : p := h
theorem att15_0_5 {p : Prop} (h : p := by first | (with_reducible assumption) | assumption) : p := h
theorem att15_0_6 {p : Prop} (h : p := by repeat (first | (with_reducible first | exact HB.out | apply below_alloc | apply pw_below_drewN | apply below_drew1 | refine below_set ?_ GE463.out) | exact HB.out)) : p := h
theorem att15_0_7 {p : Prop} (h : p := by (with_reducible repeat (first | apply Kd.R_alloc | apply Kd.R_drewN | apply Kd.R_drew)); exact HO_5.out) : p := h
theorem att15_0_8 {p : Prop} (h : p := by (with_reducible repeat (first | apply Kd.R_alloc | apply Kd.R_drewN | apply Kd.R_drew)); exact HO_3.out) : p := h
theorem att15_0_9 {p : Prop} (h : p := by (with_reducible repeat (first | apply Kd.R_alloc | apply Kd.R_drewN | apply Kd.R_drew)); exact HO451.out) : p := h
theorem att15_0_10 {p : Prop} (h : p := by (with_reducible repeat (first | apply Kd.S_alloc | apply Kd.S_drewN | apply Kd.S_drew)); exact HO_4.out) : p := h
theorem att15_0_11 {p : Prop} (h : p := by repeat (first | (with_reducible exact HR466_0.out) | (with_reducible refine Kd.C_alloc ?_ _) | (with_reducible refine Kd.C_drewN ?_ _) | (with_reducible refine Kd.C_drew ?_) | exact HR466_0.out)) : p := h
theorem att15_0_12 {p : Prop} (h : p := by (try simp only [List.map_toArray, List.map_cons, List.map_nil]); first | done | rfl | (simp only [List.length_drop, List.length_take]; rfl)) : p := h
theorem att15_0_13 {p : Prop} (h : p := by (with_reducible repeat (first | apply Kd.Q_alloc | apply Kd.Q_drewN | apply Kd.Q_drew)); exact HO440.out) : p := h
theorem att15_0_14 {p : Prop} (h : p := by (with_reducible repeat (first | apply Kd.S_alloc | apply Kd.S_drewN | apply Kd.S_drew)); exact HO455.out) : p := h
theorem att15_0_15 {p : Prop} (h : p := by first | rfl | (simp; done) | (simp [*]; done)) : p := h
theorem att15_0_16 {p : Prop} (h : p := by (with_reducible repeat (first | apply Kd.R_alloc | apply Kd.R_drewN | apply Kd.R_drew)); exact Kd.R_mono HL466_0.out (fun _ hk => ⟨hk.2, hk.1⟩)) : p := h
theorem att15_0_17 {p : Prop} (h : p := by (with_reducible repeat (first | apply Kd.S_alloc | apply Kd.S_drewN | apply Kd.S_drew)); exact Kd.S_mono HO_4.out (fun _ hk => ⟨trivial, hk⟩)) : p := h
theorem att15_0_18 {p : Prop} (h : p := by have := HK1.out; omega) : p := h
theorem att15_0_19 {p : Prop} (h : p := by (with_reducible repeat (first | refine blk_drewN ?_ _ | refine blk_drew ?_ | refine blk_alloc ?_ _)); exact BK463.out) : p := h
theorem att15_0_20 {p : Prop} (h : p := by (with_reducible repeat (first | apply Kd.R_alloc | apply Kd.R_drewN | apply Kd.R_drew)); exact HO479.out) : p := h
theorem att15_0_21 {p : Prop} (h : p := by (with_reducible repeat (first | apply Kd.R_alloc | apply Kd.R_drewN | apply Kd.R_drew)); exact HO458.out) : p := h
theorem att15_0_22 {p : Prop} (h : p := by (with_reducible repeat (first | apply Kd.R_alloc | apply Kd.R_drewN | apply Kd.R_drew)); exact HO445.out) : p := h
theorem att15_0_23 {p : Prop} (h : p := by (with_reducible repeat (first | apply Kd.R_alloc | apply Kd.R_drewN | apply Kd.R_drew)); exact HO433.out) : p := h
theorem att15_0_24 {p : Prop} (h : p := by (with_reducible repeat (first | apply Kd.R_alloc | apply Kd.R_drewN | apply Kd.R_drew)); exact HO_9.out) : p := h
theorem att15_0_25 {p : Prop} (h : p := by first | rfl | (simp; done) | (simp only [← hji23] <;> (first | rfl | simp)) | (simp [*]; done)) : p := h
theorem att15_1_0 {p : Prop} (h : p := by first | exact q466 | exact of_decide_eq_true att15_0_5 | (have e_ := (Kd.S_reads' HO_4.out).1; omega)) : p := h
theorem att15_1_1 {p : Prop} (h : p := by have h_ : ((rd t480 x11_1) : Int) < ((x3_1.length : Int) : Int) := of_decide_eq_true att15_0_5; first | exact h_ | (have e_ := (Kd.R_reads' HO_3.out).1; omega) | simpa using h_) : p := h
/-! ### impl_reached: function 68 -/
def impl_reached.l0 : Nat → List (S63) → List Bool → List Int → Option (List Bool)
 | 0, _, _, _ => none
 | k + 1, x0, x5, x6 => if (x6.length : Int) > 0 then (if 0 < (x6.length : Int) then (if 1 ≤ (x6.length : Int) then ((some (x6.drop (1 : Int).toNat : List Int)).bind fun y438 => (if 0 ≤ (rd x6 0) then (if (rd x6 0) < (x5.length : Int) then (if (rdOf false x5 (rd x6 0) = true) then (impl_reached.l0 k x0 x5 y438) else ((impl_nextOf.f x0 (rd x6 0)).bind fun t443 => (if y438.length + t443.length < 17592186044416 then (impl_reached.l0 k x0 (x5.set ((rd x6 0) : Int).toNat true) (y438 ++ t443)) else (none)))) else (none)) else (none))) else (none)) else (none)) else (some x5)
def impl_reached.f (k : Nat) (l0 : List (S63)) (l1 : List Int) : Option (List Bool) := if 0 ≤ (l0.length : Int) then (if ((l0.length : Int) : Int).toNat ≤ 281474976710656 then ((impl_copyInts.f l1).bind fun t434 => (impl_reached.l0 k l0 (List.replicate ((l0.length : Int) : Int).toNat false) t434)) else (none)) else (none)
theorem impl_reached.mono_l : ∀ k, (∀ y0 y1 y2, LeO (impl_reached.l0 k y0 y1 y2) (impl_reached.l0 (k + 1) y0 y1 y2))
 | 0 => fun _ _ _ r h => by simp [impl_reached.l0] at h
 | k + 1 => by
  have ih0 := impl_reached.mono_l k
  ·intro y0 y1 y2
   unfold impl_reached.l0
   repeat' first
   | (with_reducible exact ih0 _ _ _)
   | (with_reducible exact LeO.refl _)
   | (with_reducible exact LeO.none _)
   | (with_reducible refine LeO.ite ?_ ?_)
   | (with_reducible refine LeO.bind ?_ (fun _ => ?_))
   | exact ih0 _ _ _
   | exact LeO.none _
   | refine LeO.ite ?_ ?_
   | refine LeO.bind ?_ (fun _ => ?_)
theorem impl_reached.mono : ∀ a0 a1 k, LeO (impl_reached.f k a0 a1) (impl_reached.f (k + 1) a0 a1) := by
 intro a0 a1 k
 have ih0 := impl_reached.mono_l k
 unfold impl_reached.f
 repeat' first
   | (with_reducible exact ih0 _ _ _)
   | (with_reducible exact LeO.refl _)
   | (with_reducible exact LeO.none _)
   | (with_reducible refine LeO.ite ?_ ?_)
   | (with_reducible refine LeO.bind ?_ (fun _ => ?_))
   | exact ih0 _ _ _
   | exact LeO.none _
   | refine LeO.ite ?_ ?_
   | refine LeO.bind ?_ (fun _ => ?_)
set_option maxHeartbeats 80000000 in
set_option maxRecDepth 100000 in
theorem impl_reached.calls (k : Nat) (A0 : Option Addr) (c0 : Nat) (l0 : List (S63)) (A1 : Option Addr) (c1 : Nat) (l1 : List Int) (r : List Bool) (w : World) (hr0 : Kd.C k63 w A0 l0.length l0) (hc0 : l0.length ≤ c0) (hr1 : Kd.C (Kd.int .i64) w A1 l1.length l1) (hc1 : l1.length ≤ c1) (h : impl_reached.f k l0 l1 = some r) :
  Calls Try.prog 68 #[.slice A0 l0.length c0, .slice A1 l1.length c1] w fun e w' => ∃ v0_ : Value, e = .returned (v0_) ∧ Kd.R Kd.bool 4 w' w.heap.size (fun _ => True) v0_ r ∧ Below w.heap.size w w' := by
 have HR0 := Aside0.mk hr0
 have HC0 := Aside0.mk hc0
 clear hr0 hc0
 have HR1 := Aside0.mk hr1
 have HC1 := Aside0.mk hc1
 clear hr1 hc1
 have HB := Aside0.mk (Below.refl w.heap.size w)
 have H : (if 0 ≤ (l0.length : Int) then (if ((l0.length : Int) : Int).toNat ≤ 281474976710656 then ((impl_copyInts.f l1).bind fun t434 => (impl_reached.l0 k l0 (List.replicate ((l0.length : Int) : Int).toNat false) t434)) else (none)) else (none)) = some r := h
 clear h
 by_cases c3 : 0 ≤ (l0.length : Int)
 ·rw [if_pos c3] at H
  have c3b0 := eq_true c3
  have c3b1 : decide (0 ≤ (l0.length : Int)) = true := decide_eq_true c3
  clear c3
  by_cases c4 : ((l0.length : Int) : Int).toNat ≤ 281474976710656
  ·rw [if_pos c4] at H
   have c4b0 := eq_true c4
   have c4b1 : decide (((l0.length : Int) : Int).toNat ≤ 281474976710656) = true := decide_eq_true c4
   clear c4
   obtain ⟨y431, hy431⟩ : ∃ y_ : List Bool, y_ = (List.replicate ((l0.length : Int) : Int).toNat false) := ⟨_, rfl⟩
   replace H : ((impl_copyInts.f l1).bind fun t434 => (impl_reached.l0 k l0 y431 t434)) = some r := by first | (rw [hy431]; with_reducible exact H) | (have H2_ := (Option.bind_some _ _).symm.trans H; rw [hy431]; with_reducible exact H2_) | (have H2_ := (Option.bind_some _ _).symm.trans H; with_reducible exact H2_) | with_reducible exact H | (rw [hy431]; exact H) | exact H
   have Ny431 := Aside0.mk hy431
   clear hy431
   replace H := Option.bind_eq_some_iff.mp H
   obtain ⟨t434, A50, H⟩ := H
   (try dsimp only at H)
   have A5 := Aside0.mk A50
   clear A50
   have H' := Aside0.mk H
   clear H
   go_enter Try.func68, Try.ntmps68
   go_wp2_with (first | ((with_reducible refine gate_dst (N := 10) rfl ?_); refine Kd.R_make Kd.bool _ 4 rfl (N := 10) rfl 66 _ _ rfl (l0.length : Int) rfl rfl Try.underlying66 (.bool false) 1 info4 rfl (by decide) (by omega) false (ok := fun _ => True) (okp := fun _ => True) rfl (fun _ hk => hk) trivial (of_decide_eq_true att15_0_5) (Nat.le_trans (Nat.mul_le_mul_right _ (of_decide_eq_true att15_0_5 : (l0.length : Int).toNat ≤ 281474976710656)) (by omega)) (Below.refl _ _) (Nat.le_refl _) ?_; intro v432 w6 ho7 hb hg_ hnew_; clear hg_ hnew_; (first | rw [← Ny431.out] at ho7 | (simp only [Int.reduceToNat] at ho7; rw [← Ny431.out] at ho7)); have n0_ := Aside0.mk (Kd.R_lower ho7 (below_size att15_0_0)); have n1_ := Aside0.mk (below_step att15_0_0 hb); clear HB; have HO433 := n0_; have HB := n1_; clear n0_ n1_; clear hb ho7) | ((with_reducible refine gate_callee (f := 82) rfl ?_); refine goesL_ (some 12) rfl rfl Try.func82 (by kernel_rfl) rfl #[.slice A1 l1.length c1] rfl att15_0_12 ?_; (with_reducible refine (impl_copyInts.calls _ _ l1 t434 _ ?side1 ?side2 A5.out).mono ?_); (case side1 => repeat (first | exact (Kd.C_below HR1.out HB.out) | (with_reducible refine Kd.C_alloc ?_ _) | (with_reducible refine Kd.C_drewN ?_ _) | (with_reducible refine Kd.C_drew ?_))); (case side2 => exact HC1.out); rintro e w8 ⟨v435, rfl, ho0, hb⟩; refine ⟨_, rfl, ?_⟩; have n0_ := Aside0.mk (Kd.R_below att15_0_23 hb); have n1_ := Aside0.mk (Kd.R_lower ho0 (below_size att15_0_0)); have n2_ := Aside0.mk (below_step att15_0_0 hb); clear HO433; clear HB; have HO433 := n0_; have HO436 := n1_; have HB := n2_; clear n0_ n1_ n2_; (try clear hb); (try clear hb2); (try clear hk); (try clear hi); (try clear ho0)))
   go_loopg [6] k (fun kq v6 w' => ∃ (x5_1 : List Bool) (x6_1 : List Int), Aside0 (impl_reached.l0 kq l0 x5_1 x6_1 = some r) ∧ Aside0 (kq ≤ k) ∧ Aside0 (Kd.R Kd.bool 4 w' w.heap.size (fun _ => True) v432 x5_1) ∧ Aside0 (Kd.Q (Kd.int .i64) 3 w' w.heap.size (fun _ => True) v6 x6_1) ∧ Aside0 (Below w.heap.size w w'))
   case atStart => exact ⟨(y431), (t434), H', ⟨Nat.le_refl _⟩, ⟨att15_0_23⟩, ⟨Kd.Q_of_R (by (with_reducible repeat (first | apply Kd.R_alloc | apply Kd.R_drewN | apply Kd.R_drew)); exact HO436.out)⟩, ⟨att15_0_0⟩⟩
   case round =>
    clear H'
    try clear c1
    try clear p2
    try clear c3
    try clear c3b0
    try clear c3b1
    try clear c4
    try clear c4b0
    try clear c4b1
    try clear c6
    try clear c8
    obtain ⟨x5_1, x6_1, HA, HK1, HO_5, HO_6, HB⟩ := hrel
    cases gk with
    | zero => exact absurd HA.out (by simp [impl_reached.l0])
    | succ k1 =>
     have H := HA.out
     clear HA
     simp only [impl_reached.l0] at H
     by_cases c9 : (x6_1.length : Int) > 0
     ·rw [if_pos c9] at H
      have c9b0 : decide (0 < (x6_1.length : Int)) = true := decide_eq_true c9
      have c9b1 : decide (0 < x6_1.length) = true := decide_eq_true (by omega)
      clear c9
      by_cases c10 : 0 < (x6_1.length : Int)
      ·rw [if_pos c10] at H
       have c10b0 : decide (0 < (x6_1.length : Int)) = true := decide_eq_true c10
       have c10b1 : decide (0 < x6_1.length) = true := decide_eq_true (by omega)
       clear c10
       by_cases c11 : 1 ≤ (x6_1.length : Int)
       ·rw [if_pos c11] at H
        have c11b0 := eq_true c11
        have c11b1 : decide (1 ≤ (x6_1.length : Int)) = true := decide_eq_true c11
        clear c11
        obtain ⟨y438, hy438⟩ : ∃ y_ : List Int, y_ = (x6_1.drop (1 : Int).toNat) := ⟨_, rfl⟩
        replace H : (if 0 ≤ (rd x6_1 0) then (if (rd x6_1 0) < (x5_1.length : Int) then (if (rdOf false x5_1 (rd x6_1 0) = true) then (impl_reached.l0 k1 l0 x5_1 y438) else ((impl_nextOf.f l0 (rd x6_1 0)).bind fun t443 => (if y438.length + t443.length < 17592186044416 then (impl_reached.l0 k1 l0 (x5_1.set ((rd x6_1 0) : Int).toNat true) (y438 ++ t443)) else (none)))) else (none)) else (none)) = some r := by first | (rw [hy438]; with_reducible exact H) | (have H2_ := (Option.bind_some _ _).symm.trans H; rw [hy438]; with_reducible exact H2_) | (have H2_ := (Option.bind_some _ _).symm.trans H; with_reducible exact H2_) | with_reducible exact H | (rw [hy438]; exact H) | exact H
        have Ny438 := Aside0.mk hy438
        clear hy438
        by_cases c12 : 0 ≤ (rd x6_1 0)
        ·rw [if_pos c12] at H
         have c12b0 : decide (0 ≤ (rd x6_1 0)) = true := decide_eq_true c12
         clear c12
         by_cases c13 : (rd x6_1 0) < (x5_1.length : Int)
         ·rw [if_pos c13] at H
          have c13b0 : decide ((rd x6_1 0) < (x5_1.length : Int)) = true := decide_eq_true c13
          clear c13
          obtain ⟨bq14, hbq14⟩ : ∃ b_ : Bool, b_ = (rdOf false x5_1 (rd x6_1 0)) := ⟨_, rfl⟩
          replace H : (if (bq14 = true) then (impl_reached.l0 k1 l0 x5_1 y438) else ((impl_nextOf.f l0 (rd x6_1 0)).bind fun t443 => (if y438.length + t443.length < 17592186044416 then (impl_reached.l0 k1 l0 (x5_1.set ((rd x6_1 0) : Int).toNat true) (y438 ++ t443)) else (none)))) = some r := by rw [← hbq14] at H; exact H
          have Nbq14 := Aside0.mk hbq14
          clear hbq14
          by_cases c15 : (bq14 = true)
          ·subst c15
           rw [if_pos rfl] at H
           have H' := Aside0.mk H
           clear H
           obtain ⟨Ao16, co16, eo16, _⟩ := Kd.Q_slice HO_6.out
           subst eo16
           have p437 : 0 ≤ (0 : Int) := (by omega)
           have q437 : 0 < (x6_1.length : Int) := of_decide_eq_true att15_0_5
           obtain ⟨ad437, e437, hx437_0⟩ := Kd.at_int (Kd.Q_reads' HO_6.out).2.2 0 p437 q437
           cases e437
           have qi437 : (0 < x6_1.length) = True := eq_true (by omega)
           (try rw [show ((0 : Int)).toNat = 0 from rfl] at hx437_0)
           (try rw [Addr.add_zero'] at hx437_0)
           replace p437 := eq_true p437
           replace q437 := eq_true q437
           have q17 : (1 : Int) ≤ ((x6_1.length : Int) : Int) := of_decide_eq_true att15_0_5
           obtain ⟨i017, hi017, _, hsz17, _⟩ := info_parts info3
           have hcut17 := cut_from (P := Try.prog) 34 3 .i64 Try.underlying34 hi017 1 hsz17 (some ad437) x6_1.length co16 1 (by omega) q17
           have hr17 := Kd.Q_drop (k := (1 : Int).toNat) HO_6.out (by omega)
           obtain ⟨A17, hA17⟩ : ∃ A1, A1 = (if co16 = (1 : Int).toNat then (some ad437) else ((some ad437) : Option Addr).map (·.add ((1 : Int).toNat * 1))) := ⟨_, rfl⟩
           obtain ⟨c17, hc17⟩ : ∃ c1, c1 = co16 - (1 : Int).toNat := ⟨_, rfl⟩
           have hy17 : y438.length = x6_1.length - (1 : Int).toNat := (by rw [Ny438.out, List.length_drop])
           rw [← Ny438.out] at hr17
           rw [← hy17, ← hA17, ← hc17] at hcut17
           replace hr17 : Kd.Q (Kd.int .i64) 3 wr w.heap.size (fun _ => True) (.slice A17 y438.length c17) y438 := (by rw [hA17, hc17, hy17]; exact hr17)
           have HE17 : Aside0 ((Value.slice A17 y438.length c17).ownBlock = (.slice (some ad437) x6_1.length co16 : Value).ownBlock) := ⟨by rw [hA17]; split <;> (cases ((some ad437) : Option Addr) <;> rfl)⟩
           clear hy17 hi017 hsz17 HO_6 hA17 hc17
           have HO440 := Aside0.mk hr17
           clear hr17
           replace q17 := eq_true q17
           obtain ⟨Ao18, co18, eo18⟩ := Kd.R_slice HO_5.out
           subst eo18
           have p441 : 0 ≤ ((rd x6_1 0) : Int) := of_decide_eq_true att15_0_5
           have q441 : (rd x6_1 0) < (x5_1.length : Int) := of_decide_eq_true att15_0_5
           obtain ⟨ad441, e441, hx441_0⟩ := Kd.at_bool (Kd.R_reads' HO_5.out).2.2 (rd x6_1 0) p441 q441
           (try rw [← Nbq14.out] at hx441_0)
           cases e441
           replace p441 := eq_true p441
           replace q441 := eq_true q441
           go_wp2
           go_roundg k1
           case measure => have := HK1.out; omega
           case rel => exact ⟨(x5_1), (y438), H', ⟨att15_0_18⟩, ⟨att15_0_7⟩, ⟨att15_0_13⟩, ⟨att15_0_0⟩⟩
          ·replace c15 := Bool.eq_false_iff.mpr c15
           subst c15
           rw [if_neg (show ¬ (false = true) by decide)] at H
           obtain ⟨y442, hy442⟩ : ∃ y_ : List Bool, y_ = (x5_1.set ((rd x6_1 0) : Int).toNat true) := ⟨_, rfl⟩
           replace H : ((impl_nextOf.f l0 (rd x6_1 0)).bind fun t443 => (if y438.length + t443.length < 17592186044416 then (impl_reached.l0 k1 l0 y442 (y438 ++ t443)) else (none))) = some r := by first | (rw [hy442]; with_reducible exact H) | (have H2_ := (Option.bind_some _ _).symm.trans H; rw [hy442]; with_reducible exact H2_) | (have H2_ := (Option.bind_some _ _).symm.trans H; with_reducible exact H2_) | with_reducible exact H | (rw [hy442]; exact H) | exact H
           have Ny442 := Aside0.mk hy442
           clear hy442
           replace H := Option.bind_eq_some_iff.mp H
           obtain ⟨t443, A200, H⟩ := H
           (try dsimp only at H)
           have A20 := Aside0.mk A200
           clear A200
           by_cases c21 : y438.length + t443.length < 17592186044416
           ·rw [if_pos c21] at H
            have LMc21 := Aside0.mk c21
            clear c21
            obtain ⟨y446, hy446⟩ : ∃ y_ : List Int, y_ = (y438 ++ t443) := ⟨_, rfl⟩
            replace H : (impl_reached.l0 k1 l0 y442 y446) = some r := by first | (rw [hy446]; with_reducible exact H) | (have H2_ := (Option.bind_some _ _).symm.trans H; rw [hy446]; with_reducible exact H2_) | (have H2_ := (Option.bind_some _ _).symm.trans H; with_reducible exact H2_) | with_reducible exact H | (rw [hy446]; exact H) | exact H
            have Ny446 := Aside0.mk hy446
            clear hy446
            have H' := Aside0.mk H
            clear H
            obtain ⟨Ao22, co22, eo22, _⟩ := Kd.Q_slice HO_6.out
            subst eo22
            have p437 : 0 ≤ (0 : Int) := (by omega)
            have q437 : 0 < (x6_1.length : Int) := of_decide_eq_true att15_0_5
            obtain ⟨ad437, e437, hx437_0⟩ := Kd.at_int (Kd.Q_reads' HO_6.out).2.2 0 p437 q437
            cases e437
            have qi437 : (0 < x6_1.length) = True := eq_true (by omega)
            (try rw [show ((0 : Int)).toNat = 0 from rfl] at hx437_0)
            (try rw [Addr.add_zero'] at hx437_0)
            replace p437 := eq_true p437
            replace q437 := eq_true q437
            have q23 : (1 : Int) ≤ ((x6_1.length : Int) : Int) := of_decide_eq_true att15_0_5
            obtain ⟨i023, hi023, _, hsz23, _⟩ := info_parts info3
            have hcut23 := cut_from (P := Try.prog) 34 3 .i64 Try.underlying34 hi023 1 hsz23 (some ad437) x6_1.length co22 1 (by omega) q23
            have hr23 := Kd.Q_drop (k := (1 : Int).toNat) HO_6.out (by omega)
            obtain ⟨A23, hA23⟩ : ∃ A1, A1 = (if co22 = (1 : Int).toNat then (some ad437) else ((some ad437) : Option Addr).map (·.add ((1 : Int).toNat * 1))) := ⟨_, rfl⟩
            obtain ⟨c23, hc23⟩ : ∃ c1, c1 = co22 - (1 : Int).toNat := ⟨_, rfl⟩
            have hy23 : y438.length = x6_1.length - (1 : Int).toNat := (by rw [Ny438.out, List.length_drop])
            rw [← Ny438.out] at hr23
            rw [← hy23, ← hA23, ← hc23] at hcut23
            replace hr23 : Kd.Q (Kd.int .i64) 3 wr w.heap.size (fun _ => True) (.slice A23 y438.length c23) y438 := (by rw [hA23, hc23, hy23]; exact hr23)
            have HE23 : Aside0 ((Value.slice A23 y438.length c23).ownBlock = (.slice (some ad437) x6_1.length co22 : Value).ownBlock) := ⟨by rw [hA23]; split <;> (cases ((some ad437) : Option Addr) <;> rfl)⟩
            clear hy23 hi023 hsz23 HO_6 hA23 hc23
            have HO440 := Aside0.mk hr23
            clear hr23
            replace q23 := eq_true q23
            obtain ⟨Ao24, co24, eo24⟩ := Kd.R_slice HO_5.out
            subst eo24
            have p441 : 0 ≤ ((rd x6_1 0) : Int) := of_decide_eq_true att15_0_5
            have q441 : (rd x6_1 0) < (x5_1.length : Int) := of_decide_eq_true att15_0_5
            obtain ⟨ad441, e441, hx441_0⟩ := Kd.at_bool (Kd.R_reads' HO_5.out).2.2 (rd x6_1 0) p441 q441
            (try rw [← Nbq14.out] at hx441_0)
            cases e441
            replace p441 := eq_true p441
            replace q441 := eq_true q441
            have p19 : 0 ≤ ((rd x6_1 0) : Int) := of_decide_eq_true att15_0_5
            have q19 : ((rd x6_1 0) : Int) < ((x5_1.length : Int) : Int) := of_decide_eq_true att15_0_5
            obtain ⟨go19, co19, eo19, gb19, gl19, cl19, HG19⟩ := Kd.R_form HO_5.out (by omega)
            (first | cases eo19 | (injection eo19 with ea_ en_ ec_; (first | subst ea_ | (injection ea_ with ea_; subst ea_)); subst ec_; clear en_))
            have GB19 := Aside0.mk gb19
            have GG19 := Aside0.mk HG19
            clear gb19 gl19 HG19
            (first | simp only [add_plain] at hx441_0 | skip)
            obtain ⟨hx19_0, hf19_0⟩ := Kd.R_celln false HO_5.out ((rd x6_1 0) : Int) p19 q19
            replace p19 := eq_true p19
            replace q19 := eq_true q19
            have HP25 := Kd.R_putg HO_5.out ((rd x6_1 0) : Int) true
            go_wp2_with (first | ((with_reducible refine gate_store (t := 4) (p := 28) rfl ?_); refine store_event (t := 4) (p := 28) (v := ?vo_w26) (w1 := (wr.setCell ⟨go19, ((rd x6_1 0) : Int).toNat, none⟩ (.bool true))) ?hg ?ho ?hn ?hr ?_; (case ho => rfl); (case hg => rfl); (case hn => rfl); (case hr => first | (go_simp; done) | (go_simp; rfl)); intro w26 hw; have hg : wr.grownBy w26 (some go19) := (by rw [hw]; exact HP25.2); have hp_ : Kd.R Kd.bool 4 w26 w.heap.size (fun _ => True) (.slice (some ⟨go19, 0, none⟩) x5_1.length co24) y442 := (by rw [hw, Ny442.out]; exact HP25.1); clear HP25; have n0_ := Aside0.mk (hp_); have n1_ := Aside0.mk (Kd.Q_over' (v := (.slice (some ⟨go19, 0, none⟩) x5_1.length co24)) att15_0_13 (Kd.R_typed HO_5.out) (by decide) hg); have n2_ := Aside0.mk ((by rw [hw]; exact below_set (HB.out) GB19.out : Below w.heap.size w w26)); clear HO_5; clear HO440; clear HB; have HO_5 := n0_; have HO440 := n1_; have HB := n2_; clear n0_ n1_ n2_; clear hg hw hp_) | ((with_reducible refine gate_callee (f := 78) rfl ?_); refine goesL_ (some 32) rfl rfl Try.func78 (by kernel_rfl) rfl #[.slice A0 l0.length c0, .int .i64 (rd x6_1 0)] rfl att15_0_12 ?_; (with_reducible refine (impl_nextOf.calls _ _ l0 (rd x6_1 0) t443 _ ?side1 ?side2 A20.out).mono ?_); (case side1 => repeat (first | exact (Kd.C_below HR0.out HB.out) | (with_reducible refine Kd.C_alloc ?_ _) | (with_reducible refine Kd.C_drewN ?_ _) | (with_reducible refine Kd.C_drew ?_))); (case side2 => exact HC0.out); rintro e w27 ⟨v444, rfl, ho0, hb⟩; refine ⟨_, rfl, ?_⟩; have n0_ := Aside0.mk (Kd.R_below att15_0_7 hb); have n1_ := Aside0.mk (Kd.Q_elder' att15_0_13 (Kd.R_base ho0) hb); have n2_ := Aside0.mk (Kd.R_lower (Kd.R_new' ho0 (Kd.Q_lt att15_0_13)) (below_size att15_0_0)); have n3_ := Aside0.mk (below_step att15_0_0 hb); clear HO_5; clear HO440; clear HB; have HO_5 := n0_; have HO440 := n1_; have HO445 := n2_; have HB := n3_; clear n0_ n1_ n2_ n3_; (try clear hb); (try clear hb2); (try clear hk); (try clear hi); (try clear ho0); obtain ⟨Ao29, co29, eo29⟩ := Kd.R_slice HO445.out; subst eo29) | ((with_reducible refine gate_builtin (b := .append) (xs := #[.tmp 29, .tmp 32]) rfl ?_); at_builtin; refine Kd.Q_append_rows (Kd.int .i64) (w0 := w) w.heap.size rfl (.tmp 29) (.tmp 32) 34 3 (.int .i64 0) 8 rfl Try.underlying34 info3 rfl (by decide) (by omega) (.slice A23 y438.length c23) y438 t443 _ _ _ (fun k_ => some k_ ≠ (.slice Ao29 t443.length co29 : Value).ownBlock) (fun _ => False) rfl rfl ?aO ?aR (fun _ _ h => h) (fun _ h => h.elim) ?aF ?aB ?aS ?aL ?_; (case aR => repeat (first | exact (Kd.R_reads' HO445.out).2.2 | (with_reducible refine Kd.C_alloc ?_ _) | (with_reducible refine Kd.C_drewN ?_ _) | (with_reducible refine Kd.C_drew ?_))); (case aB => exact att15_0_0); (case aF => exact (fun k_ hk => Kd.fresh' (Kd.R_lt att15_0_22) k_ hk)); (case aO => exact (by (with_reducible repeat (first | apply Kd.Q_alloc | apply Kd.Q_drewN | apply Kd.Q_drew)); exact Kd.Q_mono HO440.out (fun _ hk => hk.2))); (case aS => exact (below_size att15_0_0)); (case aL => have := LMc21.out; omega); intro v447 w28 ho hb hg hat; rw [← Ny446.out] at ho; have n0_ := Aside0.mk (Kd.R_over' att15_0_7 (Kd.Q_typed att15_0_13) (by decide) hg); have n1_ := Aside0.mk (Kd.R_after (ok := (fun _ => True)) att15_0_22 hg hat); have n2_ := Aside0.mk (hb); have n3_ := Aside0.mk (ho); clear HO_5; clear HO445; clear HB; clear HO440; have HO_5 := n0_; have HO445 := n1_; have HB := n2_; have HO448 := n3_; clear n0_ n1_ n2_ n3_; clear ho hb hg hat))
            go_roundg k1
            case measure => have := HK1.out; omega
            case rel => exact ⟨(y442), (y446), H', ⟨att15_0_18⟩, ⟨att15_0_7⟩, ⟨by (with_reducible repeat (first | apply Kd.Q_alloc | apply Kd.Q_drewN | apply Kd.Q_drew)); exact Kd.Q_mono HO448.out (fun _ hk => trivial)⟩, ⟨att15_0_0⟩⟩
           ·rw [if_neg c21] at H
            exact absurd H (by simp)
         ·rw [if_neg c13] at H
          exact absurd H (by simp)
        ·rw [if_neg c12] at H
         exact absurd H (by simp)
       ·rw [if_neg c11] at H
        exact absurd H (by simp)
      ·rw [if_neg c10] at H
       exact absurd H (by simp)
     ·rw [if_neg c9] at H
      have c9b0 : decide (0 < (x6_1.length : Int)) = false := decide_eq_false c9
      have c9b1 : decide (0 < x6_1.length) = false := decide_eq_false (by omega)
      clear c9
      obtain rfl := Option.some.inj H
      obtain ⟨Ao30, co30, eo30, _⟩ := Kd.Q_slice HO_6.out
      subst eo30
      go_wp2
      go_ret
      exact ⟨_, by first | rfl | (simp [errW_none, errW_some] <;> rfl) | (simp [*, errW_none, errW_some] <;> rfl), by (with_reducible repeat (first | apply Kd.R_alloc | apply Kd.R_drewN | apply Kd.R_drew)); exact HO_5.out, att15_0_0⟩
  ·rw [if_neg c4] at H
   exact absurd H (by simp)
 ·rw [if_neg c3] at H
  exact absurd H (by simp)

/-! ### impl_DeadAt: function 41 -/
def impl_DeadAt.l0 : Nat → List (S63) → List Int → List (List Int) → List Bool → List (S63) → Int → Int → Option (List Int)
 | 0, _, _, _, _, _, _, _ => none
 | k + 1, x0, x3, x4, x5, x19, x20, x21 => if x21 < x20 then (if 0 ≤ x21 then (if x21 < (x19.length : Int) then ((impl_within.f ((rd_T63 x19 x21).f0) 1 4).bind fun t464 => (if t464 = true then (if x21 < (x5.length : Int) then (if rdOf false x5 x21 = true then (if (wrap64 (x21 + 1)) < (x0.length : Int) then (if 0 ≤ (wrap64 (x21 + 1)) then (if (wrap64 (x21 + 1)) < (x4.length : Int) then ((slices_Contains_int_int.f k (rd_L5 x4 (wrap64 (x21 + 1))) ((rd_T63 x19 x21).f1)).bind fun t467 => (if t467 = true then (impl_DeadAt.l0 k x0 x3 x4 x5 x19 x20 (wrap64 (x21 + 1))) else (if x3.length < 17592186044416 then (impl_DeadAt.l0 k x0 (x3 ++ [x21]) x4 x5 x19 x20 (wrap64 (x21 + 1))) else (none)))) else (none)) else (none)) else (impl_DeadAt.l0 k x0 x3 x4 x5 x19 x20 (wrap64 (x21 + 1)))) else (impl_DeadAt.l0 k x0 x3 x4 x5 x19 x20 (wrap64 (x21 + 1)))) else (none)) else (impl_DeadAt.l0 k x0 x3 x4 x5 x19 x20 (wrap64 (x21 + 1))))) else (none)) else (none)) else (some x3)
def impl_DeadAt.f (k : Nat) (l0 : List (S63)) : Option (List Int) := (some (([] : List Int) : List Int)).bind fun y449 => ((impl_BodyOk.f k l0 3).bind fun t452 => (if t452 = true then ((impl_LiveAt.f k l0).bind fun t453 => ((impl_reached.f k l0 (([0] : List Int))).bind fun t459 => (impl_DeadAt.l0 k l0 y449 t453 t459 l0 (l0.length : Int) 0))) else (some y449)))
theorem impl_DeadAt.mono_l : ∀ k, (∀ y0 y1 y2 y3 y4 y5 y6, LeO (impl_DeadAt.l0 k y0 y1 y2 y3 y4 y5 y6) (impl_DeadAt.l0 (k + 1) y0 y1 y2 y3 y4 y5 y6))
 | 0 => fun _ _ _ _ _ _ _ r h => by simp [impl_DeadAt.l0] at h
 | k + 1 => by
  have ih0 := impl_DeadAt.mono_l k
  ·intro y0 y1 y2 y3 y4 y5 y6
   unfold impl_DeadAt.l0
   repeat' first
   | (with_reducible exact ih0 _ _ _ _ _ _ _)
   | (with_reducible exact impl_BodyOk.mono _ _ _)
   | (with_reducible exact impl_LiveAt.mono _ _)
   | (with_reducible exact impl_reached.mono _ _ _)
   | (with_reducible exact slices_Contains_int_int.mono _ _ _)
   | (with_reducible exact LeO.refl _)
   | (with_reducible exact LeO.none _)
   | (with_reducible refine LeO.ite ?_ ?_)
   | (with_reducible refine LeO.bind ?_ (fun _ => ?_))
   | exact ih0 _ _ _ _ _ _ _
   | exact impl_BodyOk.mono _ _ _
   | exact impl_LiveAt.mono _ _
   | exact impl_reached.mono _ _ _
   | exact slices_Contains_int_int.mono _ _ _
   | exact LeO.none _
   | refine LeO.ite ?_ ?_
   | refine LeO.bind ?_ (fun _ => ?_)
theorem impl_DeadAt.mono : ∀ a0 k, LeO (impl_DeadAt.f k a0) (impl_DeadAt.f (k + 1) a0) := by
 intro a0 k
 have ih0 := impl_DeadAt.mono_l k
 unfold impl_DeadAt.f
 repeat' first
   | (with_reducible exact ih0 _ _ _ _ _ _ _)
   | (with_reducible exact impl_BodyOk.mono _ _ _)
   | (with_reducible exact impl_LiveAt.mono _ _)
   | (with_reducible exact impl_reached.mono _ _ _)
   | (with_reducible exact slices_Contains_int_int.mono _ _ _)
   | (with_reducible exact LeO.refl _)
   | (with_reducible exact LeO.none _)
   | (with_reducible refine LeO.ite ?_ ?_)
   | (with_reducible refine LeO.bind ?_ (fun _ => ?_))
   | exact ih0 _ _ _ _ _ _ _
   | exact impl_BodyOk.mono _ _ _
   | exact impl_LiveAt.mono _ _
   | exact impl_reached.mono _ _ _
   | exact slices_Contains_int_int.mono _ _ _
   | exact LeO.none _
   | refine LeO.ite ?_ ?_
   | refine LeO.bind ?_ (fun _ => ?_)
set_option maxHeartbeats 80000000 in
set_option maxRecDepth 100000 in
theorem impl_DeadAt.calls (k : Nat) (A0 : Option Addr) (c0 : Nat) (l0 : List (S63)) (r : List Int) (w : World) (hr0 : Kd.C k63 w A0 l0.length l0) (hc0 : l0.length ≤ c0) (h : impl_DeadAt.f k l0 = some r) :
  Calls Try.prog 41 #[.slice A0 l0.length c0] w fun e w' => ∃ v0_ : Value, e = .returned (v0_) ∧ Kd.R (Kd.int .i64) 3 w' w.heap.size (fun _ => True) v0_ r ∧ Below w.heap.size w w' := by
 have hu63 := Try.underlying63
 have HR0 := Aside0.mk hr0
 have HC0 := Aside0.mk hc0
 clear hr0 hc0
 have HB := Aside0.mk (Below.refl w.heap.size w)
 have H : ((some (([] : List Int) : List Int)).bind fun y449 => ((impl_BodyOk.f k l0 3).bind fun t452 => (if t452 = true then ((impl_LiveAt.f k l0).bind fun t453 => ((impl_reached.f k l0 (([0] : List Int))).bind fun t459 => (impl_DeadAt.l0 k l0 y449 t453 t459 l0 (l0.length : Int) 0))) else (some y449)))) = some r := h
 clear h
 obtain ⟨y449, hy449⟩ : ∃ y_ : List Int, y_ = (([] : List Int)) := ⟨_, rfl⟩
 replace H : ((impl_BodyOk.f k l0 3).bind fun t452 => (if t452 = true then ((impl_LiveAt.f k l0).bind fun t453 => ((impl_reached.f k l0 (([0] : List Int))).bind fun t459 => (impl_DeadAt.l0 k l0 y449 t453 t459 l0 (l0.length : Int) 0))) else (some y449))) = some r := by first | (rw [hy449]; with_reducible exact H) | (have H2_ := (Option.bind_some _ _).symm.trans H; rw [hy449]; with_reducible exact H2_) | (have H2_ := (Option.bind_some _ _).symm.trans H; with_reducible exact H2_) | with_reducible exact H | (rw [hy449]; exact H) | exact H
 have Ny449 := Aside0.mk hy449
 clear hy449
 replace H := Option.bind_eq_some_iff.mp H
 obtain ⟨t452, A20, H⟩ := H
 (try dsimp only at H)
 have A2 := Aside0.mk A20
 clear A20
 by_cases c3 : t452 = true
 ·subst c3
  rw [if_pos rfl] at H
  replace H := Option.bind_eq_some_iff.mp H
  obtain ⟨t453, A40, H⟩ := H
  (try dsimp only at H)
  have A4 := Aside0.mk A40
  clear A40
  obtain ⟨y456, hy456⟩ : ∃ y_ : List Int, y_ = (([0] : List Int)) := ⟨_, rfl⟩
  replace H : ((impl_reached.f k l0 y456).bind fun t459 => (impl_DeadAt.l0 k l0 y449 t453 t459 l0 (l0.length : Int) 0)) = some r := by first | (rw [hy456]; with_reducible exact H) | (have H2_ := (Option.bind_some _ _).symm.trans H; rw [hy456]; with_reducible exact H2_) | (have H2_ := (Option.bind_some _ _).symm.trans H; with_reducible exact H2_) | with_reducible exact H | (rw [hy456]; exact H) | exact H
  have Ny456 := Aside0.mk hy456
  clear hy456
  replace H := Option.bind_eq_some_iff.mp H
  obtain ⟨t459, A50, H⟩ := H
  (try dsimp only at H)
  have A5 := Aside0.mk A50
  clear A50
  have H' := Aside0.mk H
  clear H
  go_enter Try.func41, Try.ntmps41
  go_wp2_with (first | ((with_reducible refine gate_dst (N := 9) rfl ?_); (try (refine gate_guard (by rfl) ?_; dsimp only)); refine Kd.R_lit (Kd.int .i64) _ 3 ?hg (N := 9) ?hd (xs := ([] : List Int)) (inner := []) (ok := fun _ => True) (okp := fun _ => True) ?hr ?hp (fun _ hk => hk) trivial (Below.refl _ _) (Nat.le_refl _) (by simp) ?_; (case hd => rfl); (case hg => rfl); (case hr => first | (go_simp; done) | (go_simp; rfl)); (case hp => exact (Reps.none _ _)); intro v450 w6 ho7 hb hg_ hnew_; clear hg_ hnew_; (first | rw [← Ny449.out] at ho7 | (simp only [Int.reduceToNat] at ho7; rw [← Ny449.out] at ho7)); have n0_ := Aside0.mk (Kd.R_lower ho7 (below_size att15_0_0)); have n1_ := Aside0.mk (below_step att15_0_0 hb); clear HB; have HO451 := n0_; have HB := n1_; clear n0_ n1_; clear hb ho7) | (go_at_call 34; (with_reducible refine (impl_BodyOk.calls k _ _ l0 3 true _ ?side1 ?side2 A2.out).mono ?_); (case side1 => repeat (first | exact (Kd.C_below HR0.out HB.out) | (with_reducible refine Kd.C_alloc ?_ _) | (with_reducible refine Kd.C_drewN ?_ _) | (with_reducible refine Kd.C_drew ?_))); (case side2 => exact HC0.out); rintro e w8 ⟨rfl, hb⟩; have n0_ := Aside0.mk (Kd.R_below att15_0_9 hb); have n1_ := Aside0.mk (below_step att15_0_0 hb); clear HO451; clear HB; have HO451 := n0_; have HB := n1_; clear n0_ n1_; (try clear hb); (try clear hb2); (try clear hk); (try clear hi)) | (go_at_call 36; (with_reducible refine (impl_LiveAt.calls k _ _ l0 t453 _ ?side1 ?side2 A4.out).mono ?_); (case side1 => repeat (first | exact (Kd.C_below HR0.out HB.out) | (with_reducible refine Kd.C_alloc ?_ _) | (with_reducible refine Kd.C_drewN ?_ _) | (with_reducible refine Kd.C_drew ?_))); (case side2 => exact HC0.out); rintro e w9 ⟨v454, rfl, ho0, hb⟩; have n0_ := Aside0.mk (Kd.R_below att15_0_9 hb); have n1_ := Aside0.mk (Kd.S_lower (Kd.S_new' ho0 (Kd.R_lt att15_0_9)) (below_size att15_0_0)); have n2_ := Aside0.mk (below_step att15_0_0 hb); clear HO451; clear HB; have HO451 := n0_; have HO455 := n1_; have HB := n2_; clear n0_ n1_ n2_; (try clear hb); (try clear hb2); (try clear hk); (try clear hi); (try clear ho0)) | ((with_reducible refine gate_dst (N := 17) rfl ?_); (try (refine gate_guard (by rfl) ?_; dsimp only)); refine Kd.R_lit (Kd.int .i64) _ 3 ?hg (N := 17) ?hd (xs := ([0] : List Int)) (inner := [.int .i64 0]) (ok := fun _ => True) (okp := fun _ => True) ?hr ?hp (fun _ hk => hk) trivial (Below.refl _ _) (Nat.le_refl _) (by simp) ?_; (case hd => rfl); (case hg => rfl); (case hr => first | (go_simp; done) | (go_simp; rfl)); (case hp => exact (Reps.one (show Kd.M (Kd.int .i64) _ _ _ 0 [.int .i64 0] from rfl) (Reps.none _ _))); intro v457 w10 ho11 hb hg_ hnew_; clear hg_ hnew_; (first | rw [← Ny456.out] at ho11 | (simp only [Int.reduceToNat] at ho11; rw [← Ny456.out] at ho11)); have n0_ := Aside0.mk (Kd.R_elder' att15_0_9 (Kd.R_base ho11) hb); have n1_ := Aside0.mk (Kd.S_elder' att15_0_14 (Kd.R_base ho11) hb); have n2_ := Aside0.mk (Kd.R_lower (Kd.R_new' ho11 (Kd.R_lt att15_0_9)) (below_size att15_0_0)); have n3_ := Aside0.mk (below_step att15_0_0 hb); clear HO451; clear HO455; clear HB; have HO451 := n0_; have HO455 := n1_; have HO458 := n2_; have HB := n3_; clear n0_ n1_ n2_ n3_; clear hb ho11; obtain ⟨Ao12, co12, eo12⟩ := Kd.R_slice HO458.out; subst eo12) | (go_at_call 68; (with_reducible refine (impl_reached.calls k _ _ l0 _ _ y456 t459 _ ?side1 ?side2 ?side3 ?side4 A5.out).mono ?_); (case side1 => repeat (first | exact (Kd.C_below HR0.out HB.out) | (with_reducible refine Kd.C_alloc ?_ _) | (with_reducible refine Kd.C_drewN ?_ _) | (with_reducible refine Kd.C_drew ?_))); (case side2 => exact HC0.out); (case side3 => repeat (first | exact (Kd.R_reads' HO458.out).2.2 | (with_reducible refine Kd.C_alloc ?_ _) | (with_reducible refine Kd.C_drewN ?_ _) | (with_reducible refine Kd.C_drew ?_))); (case side4 => exact (Kd.R_reads' HO458.out).2.1); rintro e w13 ⟨v460, rfl, ho0, hb⟩; have n0_ := Aside0.mk (Kd.R_below att15_0_9 hb); have n1_ := Aside0.mk (Kd.S_below att15_0_14 hb); have n2_ := Aside0.mk (Kd.R_below att15_0_21 hb); have n3_ := Aside0.mk (Kd.R_lower ho0 (below_size att15_0_0)); have n4_ := Aside0.mk (below_step att15_0_0 hb); clear HO451; clear HO455; clear HO458; clear HB; have HO451 := n0_; have HO455 := n1_; have HO458 := n2_; have HO461 := n3_; have HB := n4_; clear n0_ n1_ n2_ n3_ n4_; (try clear hb); (try clear hb2); (try clear hk); (try clear hi); (try clear ho0)))
  repeat (go_quiet (fail); try go_wp2_with (first | ((with_reducible refine gate_dst (N := 9) rfl ?_); (try (refine gate_guard (by rfl) ?_; dsimp only)); refine Kd.R_lit (Kd.int .i64) _ 3 ?hg (N := 9) ?hd (xs := ([] : List Int)) (inner := []) (ok := fun _ => True) (okp := fun _ => True) ?hr ?hp (fun _ hk => hk) trivial (Below.refl _ _) (Nat.le_refl _) (by simp) ?_; (case hd => rfl); (case hg => rfl); (case hr => first | (go_simp; done) | (go_simp; rfl)); (case hp => exact (Reps.none _ _)); intro v450 w6 ho7 hb hg_ hnew_; clear hg_ hnew_; (first | rw [← Ny449.out] at ho7 | (simp only [Int.reduceToNat] at ho7; rw [← Ny449.out] at ho7)); have n0_ := Aside0.mk (Kd.R_lower ho7 (below_size att15_0_0)); have n1_ := Aside0.mk (below_step att15_0_0 hb); clear HB; have HO451 := n0_; have HB := n1_; clear n0_ n1_; clear hb ho7) | (go_at_call 34; (with_reducible refine (impl_BodyOk.calls k _ _ l0 3 true _ ?side1 ?side2 A2.out).mono ?_); (case side1 => repeat (first | exact (Kd.C_below HR0.out HB.out) | (with_reducible refine Kd.C_alloc ?_ _) | (with_reducible refine Kd.C_drewN ?_ _) | (with_reducible refine Kd.C_drew ?_))); (case side2 => exact HC0.out); rintro e w8 ⟨rfl, hb⟩; have n0_ := Aside0.mk (Kd.R_below att15_0_9 hb); have n1_ := Aside0.mk (below_step att15_0_0 hb); clear HO451; clear HB; have HO451 := n0_; have HB := n1_; clear n0_ n1_; (try clear hb); (try clear hb2); (try clear hk); (try clear hi)) | (go_at_call 36; (with_reducible refine (impl_LiveAt.calls k _ _ l0 t453 _ ?side1 ?side2 A4.out).mono ?_); (case side1 => repeat (first | exact (Kd.C_below HR0.out HB.out) | (with_reducible refine Kd.C_alloc ?_ _) | (with_reducible refine Kd.C_drewN ?_ _) | (with_reducible refine Kd.C_drew ?_))); (case side2 => exact HC0.out); rintro e w9 ⟨v454, rfl, ho0, hb⟩; have n0_ := Aside0.mk (Kd.R_below att15_0_9 hb); have n1_ := Aside0.mk (Kd.S_lower (Kd.S_new' ho0 (Kd.R_lt att15_0_9)) (below_size att15_0_0)); have n2_ := Aside0.mk (below_step att15_0_0 hb); clear HO451; clear HB; have HO451 := n0_; have HO455 := n1_; have HB := n2_; clear n0_ n1_ n2_; (try clear hb); (try clear hb2); (try clear hk); (try clear hi); (try clear ho0)) | ((with_reducible refine gate_dst (N := 17) rfl ?_); (try (refine gate_guard (by rfl) ?_; dsimp only)); refine Kd.R_lit (Kd.int .i64) _ 3 ?hg (N := 17) ?hd (xs := ([0] : List Int)) (inner := [.int .i64 0]) (ok := fun _ => True) (okp := fun _ => True) ?hr ?hp (fun _ hk => hk) trivial (Below.refl _ _) (Nat.le_refl _) (by simp) ?_; (case hd => rfl); (case hg => rfl); (case hr => first | (go_simp; done) | (go_simp; rfl)); (case hp => exact (Reps.one (show Kd.M (Kd.int .i64) _ _ _ 0 [.int .i64 0] from rfl) (Reps.none _ _))); intro v457 w10 ho11 hb hg_ hnew_; clear hg_ hnew_; (first | rw [← Ny456.out] at ho11 | (simp only [Int.reduceToNat] at ho11; rw [← Ny456.out] at ho11)); have n0_ := Aside0.mk (Kd.R_elder' att15_0_9 (Kd.R_base ho11) hb); have n1_ := Aside0.mk (Kd.S_elder' att15_0_14 (Kd.R_base ho11) hb); have n2_ := Aside0.mk (Kd.R_lower (Kd.R_new' ho11 (Kd.R_lt att15_0_9)) (below_size att15_0_0)); have n3_ := Aside0.mk (below_step att15_0_0 hb); clear HO451; clear HO455; clear HB; have HO451 := n0_; have HO455 := n1_; have HO458 := n2_; have HB := n3_; clear n0_ n1_ n2_ n3_; clear hb ho11; obtain ⟨Ao12, co12, eo12⟩ := Kd.R_slice HO458.out; subst eo12) | (go_at_call 68; (with_reducible refine (impl_reached.calls k _ _ l0 _ _ y456 t459 _ ?side1 ?side2 ?side3 ?side4 A5.out).mono ?_); (case side1 => repeat (first | exact (Kd.C_below HR0.out HB.out) | (with_reducible refine Kd.C_alloc ?_ _) | (with_reducible refine Kd.C_drewN ?_ _) | (with_reducible refine Kd.C_drew ?_))); (case side2 => exact HC0.out); (case side3 => repeat (first | exact (Kd.R_reads' HO458.out).2.2 | (with_reducible refine Kd.C_alloc ?_ _) | (with_reducible refine Kd.C_drewN ?_ _) | (with_reducible refine Kd.C_drew ?_))); (case side4 => exact (Kd.R_reads' HO458.out).2.1); rintro e w13 ⟨v460, rfl, ho0, hb⟩; have n0_ := Aside0.mk (Kd.R_below att15_0_9 hb); have n1_ := Aside0.mk (Kd.S_below att15_0_14 hb); have n2_ := Aside0.mk (Kd.R_below att15_0_21 hb); have n3_ := Aside0.mk (Kd.R_lower ho0 (below_size att15_0_0)); have n4_ := Aside0.mk (below_step att15_0_0 hb); clear HO451; clear HO455; clear HO458; clear HB; have HO451 := n0_; have HO455 := n1_; have HO458 := n2_; have HO461 := n3_; have HB := n4_; clear n0_ n1_ n2_ n3_ n4_; (try clear hb); (try clear hb2); (try clear hk); (try clear hi); (try clear ho0))))
  go_loopg [3, 21] k (fun kq v3 v21 w' => ∃ (x3_1 : List Int) (x21_1 : Int), v21 = .int .i64 x21_1 ∧ Aside0 (impl_DeadAt.l0 kq l0 x3_1 t453 t459 l0 (l0.length : Int) x21_1 = some r) ∧ Aside0 (kq ≤ k) ∧ Aside0 (Kd.R (Kd.int .i64) 3 w' w.heap.size (fun _ => True) v3 x3_1) ∧ Aside0 (Kd.S (Kd.slice 3 (Kd.int .i64)) 34 w' w.heap.size (fun k_ => some k_ ≠ (v3 : Value).ownBlock) v454 t453) ∧ Aside0 (Kd.R Kd.bool 4 w' w.heap.size (fun _ => True) v460 t459) ∧ Aside0 (Below w.heap.size w w'))
  case atStart => exact ⟨(y449), (0), att15_0_15, H', ⟨Nat.le_refl _⟩, ⟨by (with_reducible repeat (first | apply Kd.R_alloc | apply Kd.R_drewN | apply Kd.R_drew)); exact Kd.R_mono HO451.out (fun _ hk => trivial)⟩, ⟨by (with_reducible repeat (first | apply Kd.S_alloc | apply Kd.S_drewN | apply Kd.S_drew)); exact Kd.S_mono HO455.out (fun _ hk => hk.1.2)⟩, ⟨by (with_reducible repeat (first | apply Kd.R_alloc | apply Kd.R_drewN | apply Kd.R_drew)); exact HO461.out⟩, ⟨att15_0_0⟩⟩
  case round =>
   clear H'
   try clear p2
   try clear c3
   try clear c4
   obtain ⟨x3_1, x21_1, rfl, HA, HK1, HO_3, HO_4, HO_5, HB⟩ := hrel
   cases gk with
   | zero => exact absurd HA.out (by simp [impl_DeadAt.l0])
   | succ k1 =>
    have H := HA.out
    clear HA
    simp only [impl_DeadAt.l0] at H
    by_cases c14 : x21_1 < (l0.length : Int)
    ·rw [if_pos c14] at H
     have c14b0 : decide (x21_1 < (l0.length : Int)) = true := decide_eq_true c14
     clear c14
     by_cases c15 : 0 ≤ x21_1
     ·rw [if_pos c15] at H
      have c15b0 : decide (0 ≤ x21_1) = true := decide_eq_true c15
      clear c15
      by_cases c16 : x21_1 < (l0.length : Int)
      ·rw [if_pos c16] at H
       have c16b0 : decide (x21_1 < (l0.length : Int)) = true := decide_eq_true c16
       clear c16
       replace H := Option.bind_eq_some_iff.mp H
       obtain ⟨t464, A170, H⟩ := H
       (try dsimp only at H)
       have A17 := Aside0.mk A170
       clear A170
       by_cases c18 : t464 = true
       ·subst c18
        rw [if_pos rfl] at H
        by_cases c19 : x21_1 < (t459.length : Int)
        ·rw [if_pos c19] at H
         have c19b0 : decide (x21_1 < (t459.length : Int)) = true := decide_eq_true c19
         clear c19
         obtain ⟨bq20, hbq20⟩ : ∃ b_ : Bool, b_ = (rdOf false t459 x21_1) := ⟨_, rfl⟩
         replace H : (if bq20 = true then (if (wrap64 (x21_1 + 1)) < (l0.length : Int) then (if 0 ≤ (wrap64 (x21_1 + 1)) then (if (wrap64 (x21_1 + 1)) < (t453.length : Int) then ((slices_Contains_int_int.f k1 (rd_L5 t453 (wrap64 (x21_1 + 1))) ((rd_T63 l0 x21_1).f1)).bind fun t467 => (if t467 = true then (impl_DeadAt.l0 k1 l0 x3_1 t453 t459 l0 (l0.length : Int) (wrap64 (x21_1 + 1))) else (if x3_1.length < 17592186044416 then (impl_DeadAt.l0 k1 l0 (x3_1 ++ [x21_1]) t453 t459 l0 (l0.length : Int) (wrap64 (x21_1 + 1))) else (none)))) else (none)) else (none)) else (impl_DeadAt.l0 k1 l0 x3_1 t453 t459 l0 (l0.length : Int) (wrap64 (x21_1 + 1)))) else (impl_DeadAt.l0 k1 l0 x3_1 t453 t459 l0 (l0.length : Int) (wrap64 (x21_1 + 1)))) = some r := by rw [← hbq20] at H; exact H
         have Nbq20 := Aside0.mk hbq20
         clear hbq20
         by_cases c21 : bq20 = true
         ·subst c21
          rw [if_pos rfl] at H
          by_cases c22 : (wrap64 (x21_1 + 1)) < (l0.length : Int)
          ·rw [if_pos c22] at H
           have c22b0 : decide ((wrap64 (x21_1 + 1)) < (l0.length : Int)) = true := decide_eq_true c22
           clear c22
           obtain ⟨ji23, hji23⟩ : ∃ j_ : Int, (wrap64 (x21_1 + 1)) = j_ := ⟨_, rfl⟩
           replace H : (if 0 ≤ (ji23) then (if (ji23) < (t453.length : Int) then ((slices_Contains_int_int.f k1 (rd_L5 t453 (ji23)) ((rd_T63 l0 x21_1).f1)).bind fun t467 => (if t467 = true then (impl_DeadAt.l0 k1 l0 x3_1 t453 t459 l0 (l0.length : Int) ji23) else (if x3_1.length < 17592186044416 then (impl_DeadAt.l0 k1 l0 (x3_1 ++ [x21_1]) t453 t459 l0 (l0.length : Int) ji23) else (none)))) else (none)) else (none)) = some r := by first | (rw [hji23] at H; exact H) | (simp only [hji23] at H ⊢; exact H)
           (try rw [hji23] at c22b0)
           (try rw [hji23] at A17)
           have hji23w : (IntKind.i64.wrap (x21_1 + 1)) = ji23 := (i64_w _).trans hji23
           by_cases c24 : 0 ≤ (ji23)
           ·rw [if_pos c24] at H
            have c24b0 : decide (0 ≤ (ji23)) = true := decide_eq_true c24
            clear c24
            by_cases c25 : (ji23) < (t453.length : Int)
            ·rw [if_pos c25] at H
             have c25b0 : decide ((ji23) < (t453.length : Int)) = true := decide_eq_true c25
             clear c25
             replace H := Option.bind_eq_some_iff.mp H
             obtain ⟨t467, A260, H⟩ := H
             (try dsimp only at H)
             have A26 := Aside0.mk A260
             clear A260
             by_cases c27 : t467 = true
             ·subst c27
              rw [if_pos rfl] at H
              have H' := Aside0.mk H
              clear H
              have p462 : 0 ≤ (x21_1 : Int) := of_decide_eq_true att15_0_5
              have q462 : x21_1 < (l0.length : Int) := of_decide_eq_true att15_0_5
              obtain ⟨ad462, e462, hx462_0, hx462_1, hx462_2, hx462_3, hx462_4⟩ := at_T63 HR0.out x21_1 p462 q462
              cases e462
              replace hx462_0 := (HB.out.cell (World.block_lt_of_cell? w _ hx462_0)).trans hx462_0
              replace hx462_1 := (HB.out.cell (World.block_lt_of_cell? w _ hx462_1)).trans hx462_1
              replace hx462_2 := (HB.out.cell (World.block_lt_of_cell? w _ hx462_2)).trans hx462_2
              replace hx462_3 := (HB.out.cell (World.block_lt_of_cell? w _ hx462_3)).trans hx462_3
              replace hx462_4 := (HB.out.cell (World.block_lt_of_cell? w _ hx462_4)).trans hx462_4
              replace p462 := eq_true p462
              replace q462 := eq_true q462
              go_wp2_with (first | ((with_reducible refine gate_dst (N := 7) rfl ?_); (try (refine gate_guard (by rfl) ?_; dsimp only)); refine box_event ?hg (N := 7) ?hd (cs := #[.int .i64 0, .int .i64 0, .int .i64 0, .int .i64 0, .int .i64 0]) (t := 63) ?hr ?_; (case hd => rfl); (case hg => rfl); (case hr => first | (go_simp; done) | (go_simp; rfl)); intro gb463 hg w28 hbox hb; have n0_ := Aside0.mk (Kd.R_below att15_0_8 hb); have n1_ := Aside0.mk (Kd.S_below att15_0_10 hb); have n2_ := Aside0.mk (Kd.R_below att15_0_7 hb); have n3_ := Aside0.mk (below_step att15_0_0 hb); have n4_ := Aside0.mk (hbox); have n5_ := Aside0.mk ((by rw [hg]; exact (below_size att15_0_0) : w.heap.size ≤ gb463)); have n6_ := Aside0.mk ((by rw [hg]; exact (below_size att15_0_0) : w.heap.size ≤ gb463)); clear HO_3; clear HO_4; clear HO_5; clear HB; have HO_3 := n0_; have HO_4 := n1_; have HO_5 := n2_; have HB := n3_; have BK463 := n4_; have GW463 := n5_; have GE463 := n6_; clear n0_ n1_ n2_ n3_ n4_ n5_ n6_; clear hb hbox hg; have hcz29_0 : w28.cell? ⟨gb463, 0, none⟩ = some (.int .i64 0) := (blk_cell BK463.out 0).trans rfl; have hcz29_1 : w28.cell? ⟨gb463, 1, none⟩ = some (.int .i64 0) := (blk_cell BK463.out 1).trans rfl; have hcz29_2 : w28.cell? ⟨gb463, 2, none⟩ = some (.int .i64 0) := (blk_cell BK463.out 2).trans rfl; have hcz29_3 : w28.cell? ⟨gb463, 3, none⟩ = some (.int .i64 0) := (blk_cell BK463.out 3).trans rfl; have hcz29_4 : w28.cell? ⟨gb463, 4, none⟩ = some (.int .i64 0) := (blk_cell BK463.out 4).trans rfl; have hfz29_0 := blk_frozen BK463.out 0; have hfz29_1 := blk_frozen BK463.out 1; have hfz29_2 := blk_frozen BK463.out 2; have hfz29_3 := blk_frozen BK463.out 3; have hfz29_4 := blk_frozen BK463.out 4) | ((with_reducible refine gate_store (t := 63) (p := 7) rfl ?_); (try (rw [drewN_self w28]; generalize hq_ : World.drewN w28 _ = w28; have n0_ := Aside0.mk (Kd.R_at hq_ HO_3.out); have n1_ := Aside0.mk (Kd.S_at hq_ HO_4.out); have n2_ := Aside0.mk (Kd.R_at hq_ HO_5.out); have n3_ := Aside0.mk (blk_at hq_ BK463.out); have n4_ := Aside0.mk (below_at hq_ HB.out); clear hq_ HO_3 HO_4 HO_5 BK463 HB; have HO_3 := n0_; have HO_4 := n1_; have HO_5 := n2_; have BK463 := n3_; have HB := n4_; clear n0_ n1_ n2_ n3_ n4_)); refine store_event (t := 63) (p := 7) (v := ?vo_w30) (w1 := (((((w28.setCell ⟨gb463, 0, none⟩ (.int .i64 ((rd_T63 l0 x21_1).f0))).setCell ⟨gb463, 1, none⟩ (.int .i64 ((rd_T63 l0 x21_1).f1))).setCell ⟨gb463, 2, none⟩ (.int .i64 ((rd_T63 l0 x21_1).f2))).setCell ⟨gb463, 3, none⟩ (.int .i64 ((rd_T63 l0 x21_1).f3))).setCell ⟨gb463, 4, none⟩ (.int .i64 ((rd_T63 l0 x21_1).f4)))) ?hg ?ho ?hn ?hr ?_; (case ho => rfl); (case hg => rfl); (case hn => rfl); (case hr => first | (go_simp; done) | (go_simp; rfl)); intro w30 hw; have n0_ : Aside0 (Kd.R (Kd.int .i64) 3 w30 w.heap.size (fun _ => True) u3 x3_1) := ⟨(by rw [hw]; exact att15_0_3)⟩; have n1_ : Aside0 (Kd.S (Kd.slice 3 (Kd.int .i64)) 34 w30 w.heap.size (fun k_ => some k_ ≠ (u3 : Value).ownBlock) v454 t453) := ⟨(by rw [hw]; exact att15_0_4)⟩; have n2_ : Aside0 (Kd.R Kd.bool 4 w30 w.heap.size (fun _ => True) v460 t459) := ⟨(by rw [hw]; exact att15_0_2)⟩; have n3_ : Aside0 (w30.heap[gb463]? = some (.cells #[.int .i64 ((rd_T63 l0 x21_1).f0), .int .i64 ((rd_T63 l0 x21_1).f1), .int .i64 ((rd_T63 l0 x21_1).f2), .int .i64 ((rd_T63 l0 x21_1).f3), .int .i64 ((rd_T63 l0 x21_1).f4)] 63 (0, 0))) := ⟨att15_0_1⟩; have n4_ : Aside0 (Below w.heap.size w w30) := ⟨(by rw [hw]; exact att15_0_6)⟩; clear hw; clear HO_3; clear HO_4; clear HO_5; clear BK463; clear HB; have HO_3 := n0_; have HO_4 := n1_; have HO_5 := n2_; have BK463 := n3_; have HB := n4_; clear n0_ n1_ n2_ n3_ n4_; have hcz31_0 : w30.cell? ⟨gb463, 0, none⟩ = some (.int .i64 ((rd_T63 l0 x21_1).f0)) := (blk_cell BK463.out 0).trans rfl; have hcz31_1 : w30.cell? ⟨gb463, 1, none⟩ = some (.int .i64 ((rd_T63 l0 x21_1).f1)) := (blk_cell BK463.out 1).trans rfl; have hcz31_2 : w30.cell? ⟨gb463, 2, none⟩ = some (.int .i64 ((rd_T63 l0 x21_1).f2)) := (blk_cell BK463.out 2).trans rfl; have hcz31_3 : w30.cell? ⟨gb463, 3, none⟩ = some (.int .i64 ((rd_T63 l0 x21_1).f3)) := (blk_cell BK463.out 3).trans rfl; have hcz31_4 : w30.cell? ⟨gb463, 4, none⟩ = some (.int .i64 ((rd_T63 l0 x21_1).f4)) := (blk_cell BK463.out 4).trans rfl; have hfz31_0 := blk_frozen BK463.out 0; have hfz31_1 := blk_frozen BK463.out 1; have hfz31_2 := blk_frozen BK463.out 2; have hfz31_3 := blk_frozen BK463.out 3; have hfz31_4 := blk_frozen BK463.out 4) | (go_at_call 79; (with_reducible refine (impl_within.calls ((rd_T63 l0 x21_1).f0) 1 4 true _ A17.out).mono ?_); rintro e w' ⟨rfl, ⟨nd, rfl⟩⟩; (try first | exact ⟨rfl, _, World.drewN_drewN _ _ _⟩ | exact ⟨rfl, _, Eq.trans (World.drewN_drewN _ _ _) (congrArg (World.drewN _) (Nat.add_assoc _ _ _))⟩); obtain ⟨Ao32, co32, eo32⟩ := Kd.R_slice HO_5.out; subst eo32; have p465 : 0 ≤ (x21_1 : Int) := of_decide_eq_true att15_0_5; have q465 : x21_1 < (t459.length : Int) := of_decide_eq_true att15_0_5; obtain ⟨ad465, e465, hx465_0⟩ := Kd.at_bool (Kd.R_reads' HO_5.out).2.2 x21_1 p465 q465; (try rw [← Nbq20.out] at hx465_0); cases e465; replace p465 := eq_true p465; replace q465 := eq_true q465; obtain ⟨Ao33, co33, eo33⟩ := Kd.S_slice HO_4.out; subst eo33; have p466 : 0 ≤ ((ji23) : Int) := of_decide_eq_true att15_0_5; have q466 : (ji23) < (t453.length : Int) := of_decide_eq_true att15_0_5; obtain ⟨ad466, A466_0, c466_0, e466, hx466_0, hl466_0, hi466_0⟩ := at_L5 (Kd.S_reads' HO_4.out).2.2 (ji23) p466 q466; cases e466; obtain ⟨ce466, hce466, hMe466, hcc466⟩ := Kd.S_get HO_4.out [] (ji23) p466 att15_1_0; obtain ⟨ve466_0, rfl, ge466_0⟩ := hMe466; have hv466_0 := hcc466 0 _ rfl; rw [Nat.add_zero, show ((Kd.slice 3 (Kd.int .i64))).sz = 1 from rfl, Nat.mul_one] at hv466_0; replace hv466_0 := Option.some.inj (hv466_0.symm.trans hx466_0); rw [hv466_0] at ge466_0; have HL466_0 := Aside0.mk (show Kd.R (Kd.int .i64) 3 _ _ _ _ (rd_L5 t453 (ji23)) from ge466_0); clear hv466_0 ge466_0; clear hcc466 hce466; have HR466_0 := Aside0.mk hi466_0; have HC466_0 := Aside0.mk hl466_0; clear hi466_0 hl466_0; replace p466 := eq_true p466; replace q466 := eq_true q466) | (go_at_call 84; (with_reducible refine (slices_Contains_int_int.calls k1 _ _ (rd_L5 t453 (ji23)) ((rd_T63 l0 x21_1).f1) true _ ?side1 ?side2 A26.out).mono ?_); (case side1 => repeat (first | exact att15_0_11 | (with_reducible refine Kd.C_alloc ?_ _) | (with_reducible refine Kd.C_drewN ?_ _) | (with_reducible refine Kd.C_drew ?_))); (case side2 => exact HC466_0.out); rintro e w' ⟨rfl, ⟨nd, rfl⟩⟩; (try first | exact ⟨rfl, _, World.drewN_drewN _ _ _⟩ | exact ⟨rfl, _, Eq.trans (World.drewN_drewN _ _ _) (congrArg (World.drewN _) (Nat.add_assoc _ _ _))⟩)))
              repeat (go_quiet (first | (go_at_call 79; (with_reducible refine (impl_within.calls ((rd_T63 l0 x21_1).f0) 1 4 true _ A17.out).mono ?_); rintro e w' ⟨rfl, ⟨nd, rfl⟩⟩; (try first | exact ⟨rfl, _, World.drewN_drewN _ _ _⟩ | exact ⟨rfl, _, Eq.trans (World.drewN_drewN _ _ _) (congrArg (World.drewN _) (Nat.add_assoc _ _ _))⟩); obtain ⟨Ao32, co32, eo32⟩ := Kd.R_slice HO_5.out; subst eo32; have p465 : 0 ≤ (x21_1 : Int) := of_decide_eq_true att15_0_5; have q465 : x21_1 < (t459.length : Int) := of_decide_eq_true att15_0_5; obtain ⟨ad465, e465, hx465_0⟩ := Kd.at_bool (Kd.R_reads' HO_5.out).2.2 x21_1 p465 q465; (try rw [← Nbq20.out] at hx465_0); cases e465; replace p465 := eq_true p465; replace q465 := eq_true q465; obtain ⟨Ao33, co33, eo33⟩ := Kd.S_slice HO_4.out; subst eo33; have p466 : 0 ≤ ((ji23) : Int) := of_decide_eq_true att15_0_5; have q466 : (ji23) < (t453.length : Int) := of_decide_eq_true att15_0_5; obtain ⟨ad466, A466_0, c466_0, e466, hx466_0, hl466_0, hi466_0⟩ := at_L5 (Kd.S_reads' HO_4.out).2.2 (ji23) p466 q466; cases e466; obtain ⟨ce466, hce466, hMe466, hcc466⟩ := Kd.S_get HO_4.out [] (ji23) p466 att15_1_0; obtain ⟨ve466_0, rfl, ge466_0⟩ := hMe466; have hv466_0 := hcc466 0 _ rfl; rw [Nat.add_zero, show ((Kd.slice 3 (Kd.int .i64))).sz = 1 from rfl, Nat.mul_one] at hv466_0; replace hv466_0 := Option.some.inj (hv466_0.symm.trans hx466_0); rw [hv466_0] at ge466_0; have HL466_0 := Aside0.mk (show Kd.R (Kd.int .i64) 3 _ _ _ _ (rd_L5 t453 (ji23)) from ge466_0); clear hv466_0 ge466_0; clear hcc466 hce466; have HR466_0 := Aside0.mk hi466_0; have HC466_0 := Aside0.mk hl466_0; clear hi466_0 hl466_0; replace p466 := eq_true p466; replace q466 := eq_true q466) | (go_at_call 84; (with_reducible refine (slices_Contains_int_int.calls k1 _ _ (rd_L5 t453 (ji23)) ((rd_T63 l0 x21_1).f1) true _ ?side1 ?side2 A26.out).mono ?_); (case side1 => repeat (first | exact att15_0_11 | (with_reducible refine Kd.C_alloc ?_ _) | (with_reducible refine Kd.C_drewN ?_ _) | (with_reducible refine Kd.C_drew ?_))); (case side2 => exact HC466_0.out); rintro e w' ⟨rfl, ⟨nd, rfl⟩⟩; (try first | exact ⟨rfl, _, World.drewN_drewN _ _ _⟩ | exact ⟨rfl, _, Eq.trans (World.drewN_drewN _ _ _) (congrArg (World.drewN _) (Nat.add_assoc _ _ _))⟩))); try go_wp2_with (first | ((with_reducible refine gate_dst (N := 7) rfl ?_); (try (refine gate_guard (by rfl) ?_; dsimp only)); refine box_event ?hg (N := 7) ?hd (cs := #[.int .i64 0, .int .i64 0, .int .i64 0, .int .i64 0, .int .i64 0]) (t := 63) ?hr ?_; (case hd => rfl); (case hg => rfl); (case hr => first | (go_simp; done) | (go_simp; rfl)); intro gb463 hg w28 hbox hb; have n0_ := Aside0.mk (Kd.R_below att15_0_8 hb); have n1_ := Aside0.mk (Kd.S_below att15_0_10 hb); have n2_ := Aside0.mk (Kd.R_below att15_0_7 hb); have n3_ := Aside0.mk (below_step att15_0_0 hb); have n4_ := Aside0.mk (hbox); have n5_ := Aside0.mk ((by rw [hg]; exact (below_size att15_0_0) : w.heap.size ≤ gb463)); have n6_ := Aside0.mk ((by rw [hg]; exact (below_size att15_0_0) : w.heap.size ≤ gb463)); clear HO_3; clear HO_4; clear HO_5; clear HB; have HO_3 := n0_; have HO_4 := n1_; have HO_5 := n2_; have HB := n3_; have BK463 := n4_; have GW463 := n5_; have GE463 := n6_; clear n0_ n1_ n2_ n3_ n4_ n5_ n6_; clear hb hbox hg; have hcz29_0 : w28.cell? ⟨gb463, 0, none⟩ = some (.int .i64 0) := (blk_cell BK463.out 0).trans rfl; have hcz29_1 : w28.cell? ⟨gb463, 1, none⟩ = some (.int .i64 0) := (blk_cell BK463.out 1).trans rfl; have hcz29_2 : w28.cell? ⟨gb463, 2, none⟩ = some (.int .i64 0) := (blk_cell BK463.out 2).trans rfl; have hcz29_3 : w28.cell? ⟨gb463, 3, none⟩ = some (.int .i64 0) := (blk_cell BK463.out 3).trans rfl; have hcz29_4 : w28.cell? ⟨gb463, 4, none⟩ = some (.int .i64 0) := (blk_cell BK463.out 4).trans rfl; have hfz29_0 := blk_frozen BK463.out 0; have hfz29_1 := blk_frozen BK463.out 1; have hfz29_2 := blk_frozen BK463.out 2; have hfz29_3 := blk_frozen BK463.out 3; have hfz29_4 := blk_frozen BK463.out 4) | ((with_reducible refine gate_store (t := 63) (p := 7) rfl ?_); (try (rw [drewN_self w28]; generalize hq_ : World.drewN w28 _ = w28; have n0_ := Aside0.mk (Kd.R_at hq_ HO_3.out); have n1_ := Aside0.mk (Kd.S_at hq_ HO_4.out); have n2_ := Aside0.mk (Kd.R_at hq_ HO_5.out); have n3_ := Aside0.mk (blk_at hq_ BK463.out); have n4_ := Aside0.mk (below_at hq_ HB.out); clear hq_ HO_3 HO_4 HO_5 BK463 HB; have HO_3 := n0_; have HO_4 := n1_; have HO_5 := n2_; have BK463 := n3_; have HB := n4_; clear n0_ n1_ n2_ n3_ n4_)); refine store_event (t := 63) (p := 7) (v := ?vo_w30) (w1 := (((((w28.setCell ⟨gb463, 0, none⟩ (.int .i64 ((rd_T63 l0 x21_1).f0))).setCell ⟨gb463, 1, none⟩ (.int .i64 ((rd_T63 l0 x21_1).f1))).setCell ⟨gb463, 2, none⟩ (.int .i64 ((rd_T63 l0 x21_1).f2))).setCell ⟨gb463, 3, none⟩ (.int .i64 ((rd_T63 l0 x21_1).f3))).setCell ⟨gb463, 4, none⟩ (.int .i64 ((rd_T63 l0 x21_1).f4)))) ?hg ?ho ?hn ?hr ?_; (case ho => rfl); (case hg => rfl); (case hn => rfl); (case hr => first | (go_simp; done) | (go_simp; rfl)); intro w30 hw; have n0_ : Aside0 (Kd.R (Kd.int .i64) 3 w30 w.heap.size (fun _ => True) u3 x3_1) := ⟨(by rw [hw]; exact att15_0_3)⟩; have n1_ : Aside0 (Kd.S (Kd.slice 3 (Kd.int .i64)) 34 w30 w.heap.size (fun k_ => some k_ ≠ (u3 : Value).ownBlock) v454 t453) := ⟨(by rw [hw]; exact att15_0_4)⟩; have n2_ : Aside0 (Kd.R Kd.bool 4 w30 w.heap.size (fun _ => True) v460 t459) := ⟨(by rw [hw]; exact att15_0_2)⟩; have n3_ : Aside0 (w30.heap[gb463]? = some (.cells #[.int .i64 ((rd_T63 l0 x21_1).f0), .int .i64 ((rd_T63 l0 x21_1).f1), .int .i64 ((rd_T63 l0 x21_1).f2), .int .i64 ((rd_T63 l0 x21_1).f3), .int .i64 ((rd_T63 l0 x21_1).f4)] 63 (0, 0))) := ⟨att15_0_1⟩; have n4_ : Aside0 (Below w.heap.size w w30) := ⟨(by rw [hw]; exact att15_0_6)⟩; clear hw; clear HO_3; clear HO_4; clear HO_5; clear BK463; clear HB; have HO_3 := n0_; have HO_4 := n1_; have HO_5 := n2_; have BK463 := n3_; have HB := n4_; clear n0_ n1_ n2_ n3_ n4_; have hcz31_0 : w30.cell? ⟨gb463, 0, none⟩ = some (.int .i64 ((rd_T63 l0 x21_1).f0)) := (blk_cell BK463.out 0).trans rfl; have hcz31_1 : w30.cell? ⟨gb463, 1, none⟩ = some (.int .i64 ((rd_T63 l0 x21_1).f1)) := (blk_cell BK463.out 1).trans rfl; have hcz31_2 : w30.cell? ⟨gb463, 2, none⟩ = some (.int .i64 ((rd_T63 l0 x21_1).f2)) := (blk_cell BK463.out 2).trans rfl; have hcz31_3 : w30.cell? ⟨gb463, 3, none⟩ = some (.int .i64 ((rd_T63 l0 x21_1).f3)) := (blk_cell BK463.out 3).trans rfl; have hcz31_4 : w30.cell? ⟨gb463, 4, none⟩ = some (.int .i64 ((rd_T63 l0 x21_1).f4)) := (blk_cell BK463.out 4).trans rfl; have hfz31_0 := blk_frozen BK463.out 0; have hfz31_1 := blk_frozen BK463.out 1; have hfz31_2 := blk_frozen BK463.out 2; have hfz31_3 := blk_frozen BK463.out 3; have hfz31_4 := blk_frozen BK463.out 4) | (go_at_call 79; (with_reducible refine (impl_within.calls ((rd_T63 l0 x21_1).f0) 1 4 true _ A17.out).mono ?_); rintro e w' ⟨rfl, ⟨nd, rfl⟩⟩; (try first | exact ⟨rfl, _, World.drewN_drewN _ _ _⟩ | exact ⟨rfl, _, Eq.trans (World.drewN_drewN _ _ _) (congrArg (World.drewN _) (Nat.add_assoc _ _ _))⟩); obtain ⟨Ao32, co32, eo32⟩ := Kd.R_slice HO_5.out; subst eo32; have p465 : 0 ≤ (x21_1 : Int) := of_decide_eq_true att15_0_5; have q465 : x21_1 < (t459.length : Int) := of_decide_eq_true att15_0_5; obtain ⟨ad465, e465, hx465_0⟩ := Kd.at_bool (Kd.R_reads' HO_5.out).2.2 x21_1 p465 q465; (try rw [← Nbq20.out] at hx465_0); cases e465; replace p465 := eq_true p465; replace q465 := eq_true q465; obtain ⟨Ao33, co33, eo33⟩ := Kd.S_slice HO_4.out; subst eo33; have p466 : 0 ≤ ((ji23) : Int) := of_decide_eq_true att15_0_5; have q466 : (ji23) < (t453.length : Int) := of_decide_eq_true att15_0_5; obtain ⟨ad466, A466_0, c466_0, e466, hx466_0, hl466_0, hi466_0⟩ := at_L5 (Kd.S_reads' HO_4.out).2.2 (ji23) p466 q466; cases e466; obtain ⟨ce466, hce466, hMe466, hcc466⟩ := Kd.S_get HO_4.out [] (ji23) p466 att15_1_0; obtain ⟨ve466_0, rfl, ge466_0⟩ := hMe466; have hv466_0 := hcc466 0 _ rfl; rw [Nat.add_zero, show ((Kd.slice 3 (Kd.int .i64))).sz = 1 from rfl, Nat.mul_one] at hv466_0; replace hv466_0 := Option.some.inj (hv466_0.symm.trans hx466_0); rw [hv466_0] at ge466_0; have HL466_0 := Aside0.mk (show Kd.R (Kd.int .i64) 3 _ _ _ _ (rd_L5 t453 (ji23)) from ge466_0); clear hv466_0 ge466_0; clear hcc466 hce466; have HR466_0 := Aside0.mk hi466_0; have HC466_0 := Aside0.mk hl466_0; clear hi466_0 hl466_0; replace p466 := eq_true p466; replace q466 := eq_true q466) | (go_at_call 84; (with_reducible refine (slices_Contains_int_int.calls k1 _ _ (rd_L5 t453 (ji23)) ((rd_T63 l0 x21_1).f1) true _ ?side1 ?side2 A26.out).mono ?_); (case side1 => repeat (first | exact att15_0_11 | (with_reducible refine Kd.C_alloc ?_ _) | (with_reducible refine Kd.C_drewN ?_ _) | (with_reducible refine Kd.C_drew ?_))); (case side2 => exact HC466_0.out); rintro e w' ⟨rfl, ⟨nd, rfl⟩⟩; (try first | exact ⟨rfl, _, World.drewN_drewN _ _ _⟩ | exact ⟨rfl, _, Eq.trans (World.drewN_drewN _ _ _) (congrArg (World.drewN _) (Nat.add_assoc _ _ _))⟩))))
              go_roundg k1
              case measure => have := HK1.out; omega
              case rel => exact ⟨(x3_1), (ji23), att15_0_25, H', ⟨att15_0_18⟩, ⟨att15_0_8⟩, ⟨att15_0_10⟩, ⟨att15_0_7⟩, ⟨att15_0_6⟩⟩
             ·replace c27 := Bool.eq_false_iff.mpr c27
              subst c27
              rw [if_neg (show ¬ (false = true) by decide)] at H
              by_cases c34 : x3_1.length < 17592186044416
              ·rw [if_pos c34] at H
               have LMc34 := Aside0.mk c34
               clear c34
               obtain ⟨y468, hy468⟩ : ∃ y_ : List Int, y_ = (x3_1 ++ [x21_1]) := ⟨_, rfl⟩
               replace H : (impl_DeadAt.l0 k1 l0 y468 t453 t459 l0 (l0.length : Int) ji23) = some r := by first | (rw [hy468]; with_reducible exact H) | (have H2_ := (Option.bind_some _ _).symm.trans H; rw [hy468]; with_reducible exact H2_) | (have H2_ := (Option.bind_some _ _).symm.trans H; with_reducible exact H2_) | with_reducible exact H | (rw [hy468]; exact H) | exact H
               have Ny468 := Aside0.mk hy468
               clear hy468
               have H' := Aside0.mk H
               clear H
               have p462 : 0 ≤ (x21_1 : Int) := of_decide_eq_true att15_0_5
               have q462 : x21_1 < (l0.length : Int) := of_decide_eq_true att15_0_5
               obtain ⟨ad462, e462, hx462_0, hx462_1, hx462_2, hx462_3, hx462_4⟩ := at_T63 HR0.out x21_1 p462 q462
               cases e462
               replace hx462_0 := (HB.out.cell (World.block_lt_of_cell? w _ hx462_0)).trans hx462_0
               replace hx462_1 := (HB.out.cell (World.block_lt_of_cell? w _ hx462_1)).trans hx462_1
               replace hx462_2 := (HB.out.cell (World.block_lt_of_cell? w _ hx462_2)).trans hx462_2
               replace hx462_3 := (HB.out.cell (World.block_lt_of_cell? w _ hx462_3)).trans hx462_3
               replace hx462_4 := (HB.out.cell (World.block_lt_of_cell? w _ hx462_4)).trans hx462_4
               replace p462 := eq_true p462
               replace q462 := eq_true q462
               go_wp2_with (first | ((with_reducible refine gate_dst (N := 7) rfl ?_); (try (refine gate_guard (by rfl) ?_; dsimp only)); refine box_event ?hg (N := 7) ?hd (cs := #[.int .i64 0, .int .i64 0, .int .i64 0, .int .i64 0, .int .i64 0]) (t := 63) ?hr ?_; (case hd => rfl); (case hg => rfl); (case hr => first | (go_simp; done) | (go_simp; rfl)); intro gb463 hg w35 hbox hb; have n0_ := Aside0.mk (Kd.R_below att15_0_8 hb); have n1_ := Aside0.mk (Kd.S_below att15_0_10 hb); have n2_ := Aside0.mk (Kd.R_below att15_0_7 hb); have n3_ := Aside0.mk (below_step att15_0_0 hb); have n4_ := Aside0.mk (hbox); have n5_ := Aside0.mk ((by rw [hg]; exact (below_size att15_0_0) : w.heap.size ≤ gb463)); have n6_ := Aside0.mk ((by rw [hg]; exact (below_size att15_0_0) : w.heap.size ≤ gb463)); clear HO_3; clear HO_4; clear HO_5; clear HB; have HO_3 := n0_; have HO_4 := n1_; have HO_5 := n2_; have HB := n3_; have BK463 := n4_; have GW463 := n5_; have GE463 := n6_; clear n0_ n1_ n2_ n3_ n4_ n5_ n6_; clear hb hbox hg; have hcz36_0 : w35.cell? ⟨gb463, 0, none⟩ = some (.int .i64 0) := (blk_cell BK463.out 0).trans rfl; have hcz36_1 : w35.cell? ⟨gb463, 1, none⟩ = some (.int .i64 0) := (blk_cell BK463.out 1).trans rfl; have hcz36_2 : w35.cell? ⟨gb463, 2, none⟩ = some (.int .i64 0) := (blk_cell BK463.out 2).trans rfl; have hcz36_3 : w35.cell? ⟨gb463, 3, none⟩ = some (.int .i64 0) := (blk_cell BK463.out 3).trans rfl; have hcz36_4 : w35.cell? ⟨gb463, 4, none⟩ = some (.int .i64 0) := (blk_cell BK463.out 4).trans rfl; have hfz36_0 := blk_frozen BK463.out 0; have hfz36_1 := blk_frozen BK463.out 1; have hfz36_2 := blk_frozen BK463.out 2; have hfz36_3 := blk_frozen BK463.out 3; have hfz36_4 := blk_frozen BK463.out 4) | ((with_reducible refine gate_store (t := 63) (p := 7) rfl ?_); (try (rw [drewN_self w35]; generalize hq_ : World.drewN w35 _ = w35; have n0_ := Aside0.mk (Kd.R_at hq_ HO_3.out); have n1_ := Aside0.mk (Kd.S_at hq_ HO_4.out); have n2_ := Aside0.mk (Kd.R_at hq_ HO_5.out); have n3_ := Aside0.mk (blk_at hq_ BK463.out); have n4_ := Aside0.mk (below_at hq_ HB.out); clear hq_ HO_3 HO_4 HO_5 BK463 HB; have HO_3 := n0_; have HO_4 := n1_; have HO_5 := n2_; have BK463 := n3_; have HB := n4_; clear n0_ n1_ n2_ n3_ n4_)); refine store_event (t := 63) (p := 7) (v := ?vo_w37) (w1 := (((((w35.setCell ⟨gb463, 0, none⟩ (.int .i64 ((rd_T63 l0 x21_1).f0))).setCell ⟨gb463, 1, none⟩ (.int .i64 ((rd_T63 l0 x21_1).f1))).setCell ⟨gb463, 2, none⟩ (.int .i64 ((rd_T63 l0 x21_1).f2))).setCell ⟨gb463, 3, none⟩ (.int .i64 ((rd_T63 l0 x21_1).f3))).setCell ⟨gb463, 4, none⟩ (.int .i64 ((rd_T63 l0 x21_1).f4)))) ?hg ?ho ?hn ?hr ?_; (case ho => rfl); (case hg => rfl); (case hn => rfl); (case hr => first | (go_simp; done) | (go_simp; rfl)); intro w37 hw; have n0_ : Aside0 (Kd.R (Kd.int .i64) 3 w37 w.heap.size (fun _ => True) u3 x3_1) := ⟨(by rw [hw]; exact att15_0_3)⟩; have n1_ : Aside0 (Kd.S (Kd.slice 3 (Kd.int .i64)) 34 w37 w.heap.size (fun k_ => some k_ ≠ (u3 : Value).ownBlock) v454 t453) := ⟨(by rw [hw]; exact att15_0_4)⟩; have n2_ : Aside0 (Kd.R Kd.bool 4 w37 w.heap.size (fun _ => True) v460 t459) := ⟨(by rw [hw]; exact att15_0_2)⟩; have n3_ : Aside0 (w37.heap[gb463]? = some (.cells #[.int .i64 ((rd_T63 l0 x21_1).f0), .int .i64 ((rd_T63 l0 x21_1).f1), .int .i64 ((rd_T63 l0 x21_1).f2), .int .i64 ((rd_T63 l0 x21_1).f3), .int .i64 ((rd_T63 l0 x21_1).f4)] 63 (0, 0))) := ⟨att15_0_1⟩; have n4_ : Aside0 (Below w.heap.size w w37) := ⟨(by rw [hw]; exact att15_0_6)⟩; clear hw; clear HO_3; clear HO_4; clear HO_5; clear BK463; clear HB; have HO_3 := n0_; have HO_4 := n1_; have HO_5 := n2_; have BK463 := n3_; have HB := n4_; clear n0_ n1_ n2_ n3_ n4_; have hcz38_0 : w37.cell? ⟨gb463, 0, none⟩ = some (.int .i64 ((rd_T63 l0 x21_1).f0)) := (blk_cell BK463.out 0).trans rfl; have hcz38_1 : w37.cell? ⟨gb463, 1, none⟩ = some (.int .i64 ((rd_T63 l0 x21_1).f1)) := (blk_cell BK463.out 1).trans rfl; have hcz38_2 : w37.cell? ⟨gb463, 2, none⟩ = some (.int .i64 ((rd_T63 l0 x21_1).f2)) := (blk_cell BK463.out 2).trans rfl; have hcz38_3 : w37.cell? ⟨gb463, 3, none⟩ = some (.int .i64 ((rd_T63 l0 x21_1).f3)) := (blk_cell BK463.out 3).trans rfl; have hcz38_4 : w37.cell? ⟨gb463, 4, none⟩ = some (.int .i64 ((rd_T63 l0 x21_1).f4)) := (blk_cell BK463.out 4).trans rfl; have hfz38_0 := blk_frozen BK463.out 0; have hfz38_1 := blk_frozen BK463.out 1; have hfz38_2 := blk_frozen BK463.out 2; have hfz38_3 := blk_frozen BK463.out 3; have hfz38_4 := blk_frozen BK463.out 4) | (go_at_call 79; (with_reducible refine (impl_within.calls ((rd_T63 l0 x21_1).f0) 1 4 true _ A17.out).mono ?_); rintro e w' ⟨rfl, ⟨nd, rfl⟩⟩; (try first | exact ⟨rfl, _, World.drewN_drewN _ _ _⟩ | exact ⟨rfl, _, Eq.trans (World.drewN_drewN _ _ _) (congrArg (World.drewN _) (Nat.add_assoc _ _ _))⟩); obtain ⟨Ao39, co39, eo39⟩ := Kd.R_slice HO_5.out; subst eo39; have p465 : 0 ≤ (x21_1 : Int) := of_decide_eq_true att15_0_5; have q465 : x21_1 < (t459.length : Int) := of_decide_eq_true att15_0_5; obtain ⟨ad465, e465, hx465_0⟩ := Kd.at_bool (Kd.R_reads' HO_5.out).2.2 x21_1 p465 q465; (try rw [← Nbq20.out] at hx465_0); cases e465; replace p465 := eq_true p465; replace q465 := eq_true q465; obtain ⟨Ao40, co40, eo40⟩ := Kd.S_slice HO_4.out; subst eo40; have p466 : 0 ≤ ((ji23) : Int) := of_decide_eq_true att15_0_5; have q466 : (ji23) < (t453.length : Int) := of_decide_eq_true att15_0_5; obtain ⟨ad466, A466_0, c466_0, e466, hx466_0, hl466_0, hi466_0⟩ := at_L5 (Kd.S_reads' HO_4.out).2.2 (ji23) p466 q466; cases e466; obtain ⟨ce466, hce466, hMe466, hcc466⟩ := Kd.S_get HO_4.out [] (ji23) p466 att15_1_0; obtain ⟨ve466_0, rfl, ge466_0⟩ := hMe466; have hv466_0 := hcc466 0 _ rfl; rw [Nat.add_zero, show ((Kd.slice 3 (Kd.int .i64))).sz = 1 from rfl, Nat.mul_one] at hv466_0; replace hv466_0 := Option.some.inj (hv466_0.symm.trans hx466_0); rw [hv466_0] at ge466_0; have HL466_0 := Aside0.mk (show Kd.R (Kd.int .i64) 3 _ _ _ _ (rd_L5 t453 (ji23)) from ge466_0); clear hv466_0 ge466_0; clear hcc466 hce466; have HR466_0 := Aside0.mk hi466_0; have HC466_0 := Aside0.mk hl466_0; clear hi466_0 hl466_0; replace p466 := eq_true p466; replace q466 := eq_true q466) | (go_at_call 84; (with_reducible refine (slices_Contains_int_int.calls k1 _ _ (rd_L5 t453 (ji23)) ((rd_T63 l0 x21_1).f1) false _ ?side1 ?side2 A26.out).mono ?_); (case side1 => repeat (first | exact att15_0_11 | (with_reducible refine Kd.C_alloc ?_ _) | (with_reducible refine Kd.C_drewN ?_ _) | (with_reducible refine Kd.C_drew ?_))); (case side2 => exact HC466_0.out); rintro e w' ⟨rfl, ⟨nd, rfl⟩⟩; (try first | exact ⟨rfl, _, World.drewN_drewN _ _ _⟩ | exact ⟨rfl, _, Eq.trans (World.drewN_drewN _ _ _) (congrArg (World.drewN _) (Nat.add_assoc _ _ _))⟩)) | ((with_reducible refine gate_builtin (b := .append) (xs := #[.tmp 54, .tmp 56]) rfl ?_); (try (refine gate_guard (by rfl) ?_; dsimp only)); at_builtin; refine Kd.R_append (Kd.int .i64) (w0 := w) w.heap.size rfl (.tmp 54) (.tmp 56) 34 3 (.int .i64 0) 8 rfl Try.underlying34 info3 rfl (by decide) (by omega) u3 x3_1 x21_1 [.int .i64 x21_1] (fun _ => True) (fun _ => False) rfl rfl ?aP (fun _ hk => hk.elim) ?aF ?aO ?aB ?aS ?aL ?_; (case aP => exact rfl); (case aB => exact att15_0_6); (case aF => exact (fun _ _ => trivial)); (case aO => exact att15_0_8); (case aS => exact (below_size att15_0_6)); (case aL => have := LMc34.out; omega); intro v469 w41 ho hb hg hat; rw [← Ny468.out] at ho; have n0_ := Aside0.mk (Kd.S_after (ok := (fun _ => True)) att15_0_17 hg hat); have n1_ := Aside0.mk (Kd.R_over' att15_0_7 (Kd.R_typed att15_0_8) (by decide) hg); have n2_ := Aside0.mk (blk_grown (g := gb463) (o := .cells #[.int .i64 ((rd_T63 l0 x21_1).f0), .int .i64 ((rd_T63 l0 x21_1).f1), .int .i64 ((rd_T63 l0 x21_1).f2), .int .i64 ((rd_T63 l0 x21_1).f3), .int .i64 ((rd_T63 l0 x21_1).f4)] 63 (0, 0)) att15_0_19 hg (Kd.R_ne HO_3.out BK463.out (by decide))); have n3_ := Aside0.mk (Kd.R_after (ok := (fun k_ => some k_ ≠ (.slice (some ad466) t453.length co40 : Value).ownBlock)) att15_0_16 hg hat); have n4_ := Aside0.mk (hb); have n5_ := Aside0.mk (ho); clear HO_4; clear HO_5; clear BK463; clear HL466_0; clear HB; clear HO_3; have HO_4 := n0_; have HO_5 := n1_; have BK463 := n2_; have HL466_0 := n3_; have HB := n4_; have HO470 := n5_; clear n0_ n1_ n2_ n3_ n4_ n5_; clear ho hb hg hat))
               repeat (go_quiet (first | (go_at_call 79; (with_reducible refine (impl_within.calls ((rd_T63 l0 x21_1).f0) 1 4 true _ A17.out).mono ?_); rintro e w' ⟨rfl, ⟨nd, rfl⟩⟩; (try first | exact ⟨rfl, _, World.drewN_drewN _ _ _⟩ | exact ⟨rfl, _, Eq.trans (World.drewN_drewN _ _ _) (congrArg (World.drewN _) (Nat.add_assoc _ _ _))⟩); obtain ⟨Ao39, co39, eo39⟩ := Kd.R_slice HO_5.out; subst eo39; have p465 : 0 ≤ (x21_1 : Int) := of_decide_eq_true att15_0_5; have q465 : x21_1 < (t459.length : Int) := of_decide_eq_true att15_0_5; obtain ⟨ad465, e465, hx465_0⟩ := Kd.at_bool (Kd.R_reads' HO_5.out).2.2 x21_1 p465 q465; (try rw [← Nbq20.out] at hx465_0); cases e465; replace p465 := eq_true p465; replace q465 := eq_true q465; obtain ⟨Ao40, co40, eo40⟩ := Kd.S_slice HO_4.out; subst eo40; have p466 : 0 ≤ ((ji23) : Int) := of_decide_eq_true att15_0_5; have q466 : (ji23) < (t453.length : Int) := of_decide_eq_true att15_0_5; obtain ⟨ad466, A466_0, c466_0, e466, hx466_0, hl466_0, hi466_0⟩ := at_L5 (Kd.S_reads' HO_4.out).2.2 (ji23) p466 q466; cases e466; obtain ⟨ce466, hce466, hMe466, hcc466⟩ := Kd.S_get HO_4.out [] (ji23) p466 att15_1_0; obtain ⟨ve466_0, rfl, ge466_0⟩ := hMe466; have hv466_0 := hcc466 0 _ rfl; rw [Nat.add_zero, show ((Kd.slice 3 (Kd.int .i64))).sz = 1 from rfl, Nat.mul_one] at hv466_0; replace hv466_0 := Option.some.inj (hv466_0.symm.trans hx466_0); rw [hv466_0] at ge466_0; have HL466_0 := Aside0.mk (show Kd.R (Kd.int .i64) 3 _ _ _ _ (rd_L5 t453 (ji23)) from ge466_0); clear hv466_0 ge466_0; clear hcc466 hce466; have HR466_0 := Aside0.mk hi466_0; have HC466_0 := Aside0.mk hl466_0; clear hi466_0 hl466_0; replace p466 := eq_true p466; replace q466 := eq_true q466) | (go_at_call 84; (with_reducible refine (slices_Contains_int_int.calls k1 _ _ (rd_L5 t453 (ji23)) ((rd_T63 l0 x21_1).f1) false _ ?side1 ?side2 A26.out).mono ?_); (case side1 => repeat (first | exact att15_0_11 | (with_reducible refine Kd.C_alloc ?_ _) | (with_reducible refine Kd.C_drewN ?_ _) | (with_reducible refine Kd.C_drew ?_))); (case side2 => exact HC466_0.out); rintro e w' ⟨rfl, ⟨nd, rfl⟩⟩; (try first | exact ⟨rfl, _, World.drewN_drewN _ _ _⟩ | exact ⟨rfl, _, Eq.trans (World.drewN_drewN _ _ _) (congrArg (World.drewN _) (Nat.add_assoc _ _ _))⟩))); try go_wp2_with (first | ((with_reducible refine gate_dst (N := 7) rfl ?_); (try (refine gate_guard (by rfl) ?_; dsimp only)); refine box_event ?hg (N := 7) ?hd (cs := #[.int .i64 0, .int .i64 0, .int .i64 0, .int .i64 0, .int .i64 0]) (t := 63) ?hr ?_; (case hd => rfl); (case hg => rfl); (case hr => first | (go_simp; done) | (go_simp; rfl)); intro gb463 hg w35 hbox hb; have n0_ := Aside0.mk (Kd.R_below att15_0_8 hb); have n1_ := Aside0.mk (Kd.S_below att15_0_10 hb); have n2_ := Aside0.mk (Kd.R_below att15_0_7 hb); have n3_ := Aside0.mk (below_step att15_0_0 hb); have n4_ := Aside0.mk (hbox); have n5_ := Aside0.mk ((by rw [hg]; exact (below_size att15_0_0) : w.heap.size ≤ gb463)); have n6_ := Aside0.mk ((by rw [hg]; exact (below_size att15_0_0) : w.heap.size ≤ gb463)); clear HO_3; clear HO_4; clear HO_5; clear HB; have HO_3 := n0_; have HO_4 := n1_; have HO_5 := n2_; have HB := n3_; have BK463 := n4_; have GW463 := n5_; have GE463 := n6_; clear n0_ n1_ n2_ n3_ n4_ n5_ n6_; clear hb hbox hg; have hcz36_0 : w35.cell? ⟨gb463, 0, none⟩ = some (.int .i64 0) := (blk_cell BK463.out 0).trans rfl; have hcz36_1 : w35.cell? ⟨gb463, 1, none⟩ = some (.int .i64 0) := (blk_cell BK463.out 1).trans rfl; have hcz36_2 : w35.cell? ⟨gb463, 2, none⟩ = some (.int .i64 0) := (blk_cell BK463.out 2).trans rfl; have hcz36_3 : w35.cell? ⟨gb463, 3, none⟩ = some (.int .i64 0) := (blk_cell BK463.out 3).trans rfl; have hcz36_4 : w35.cell? ⟨gb463, 4, none⟩ = some (.int .i64 0) := (blk_cell BK463.out 4).trans rfl; have hfz36_0 := blk_frozen BK463.out 0; have hfz36_1 := blk_frozen BK463.out 1; have hfz36_2 := blk_frozen BK463.out 2; have hfz36_3 := blk_frozen BK463.out 3; have hfz36_4 := blk_frozen BK463.out 4) | ((with_reducible refine gate_store (t := 63) (p := 7) rfl ?_); (try (rw [drewN_self w35]; generalize hq_ : World.drewN w35 _ = w35; have n0_ := Aside0.mk (Kd.R_at hq_ HO_3.out); have n1_ := Aside0.mk (Kd.S_at hq_ HO_4.out); have n2_ := Aside0.mk (Kd.R_at hq_ HO_5.out); have n3_ := Aside0.mk (blk_at hq_ BK463.out); have n4_ := Aside0.mk (below_at hq_ HB.out); clear hq_ HO_3 HO_4 HO_5 BK463 HB; have HO_3 := n0_; have HO_4 := n1_; have HO_5 := n2_; have BK463 := n3_; have HB := n4_; clear n0_ n1_ n2_ n3_ n4_)); refine store_event (t := 63) (p := 7) (v := ?vo_w37) (w1 := (((((w35.setCell ⟨gb463, 0, none⟩ (.int .i64 ((rd_T63 l0 x21_1).f0))).setCell ⟨gb463, 1, none⟩ (.int .i64 ((rd_T63 l0 x21_1).f1))).setCell ⟨gb463, 2, none⟩ (.int .i64 ((rd_T63 l0 x21_1).f2))).setCell ⟨gb463, 3, none⟩ (.int .i64 ((rd_T63 l0 x21_1).f3))).setCell ⟨gb463, 4, none⟩ (.int .i64 ((rd_T63 l0 x21_1).f4)))) ?hg ?ho ?hn ?hr ?_; (case ho => rfl); (case hg => rfl); (case hn => rfl); (case hr => first | (go_simp; done) | (go_simp; rfl)); intro w37 hw; have n0_ : Aside0 (Kd.R (Kd.int .i64) 3 w37 w.heap.size (fun _ => True) u3 x3_1) := ⟨(by rw [hw]; exact att15_0_3)⟩; have n1_ : Aside0 (Kd.S (Kd.slice 3 (Kd.int .i64)) 34 w37 w.heap.size (fun k_ => some k_ ≠ (u3 : Value).ownBlock) v454 t453) := ⟨(by rw [hw]; exact att15_0_4)⟩; have n2_ : Aside0 (Kd.R Kd.bool 4 w37 w.heap.size (fun _ => True) v460 t459) := ⟨(by rw [hw]; exact att15_0_2)⟩; have n3_ : Aside0 (w37.heap[gb463]? = some (.cells #[.int .i64 ((rd_T63 l0 x21_1).f0), .int .i64 ((rd_T63 l0 x21_1).f1), .int .i64 ((rd_T63 l0 x21_1).f2), .int .i64 ((rd_T63 l0 x21_1).f3), .int .i64 ((rd_T63 l0 x21_1).f4)] 63 (0, 0))) := ⟨att15_0_1⟩; have n4_ : Aside0 (Below w.heap.size w w37) := ⟨(by rw [hw]; exact att15_0_6)⟩; clear hw; clear HO_3; clear HO_4; clear HO_5; clear BK463; clear HB; have HO_3 := n0_; have HO_4 := n1_; have HO_5 := n2_; have BK463 := n3_; have HB := n4_; clear n0_ n1_ n2_ n3_ n4_; have hcz38_0 : w37.cell? ⟨gb463, 0, none⟩ = some (.int .i64 ((rd_T63 l0 x21_1).f0)) := (blk_cell BK463.out 0).trans rfl; have hcz38_1 : w37.cell? ⟨gb463, 1, none⟩ = some (.int .i64 ((rd_T63 l0 x21_1).f1)) := (blk_cell BK463.out 1).trans rfl; have hcz38_2 : w37.cell? ⟨gb463, 2, none⟩ = some (.int .i64 ((rd_T63 l0 x21_1).f2)) := (blk_cell BK463.out 2).trans rfl; have hcz38_3 : w37.cell? ⟨gb463, 3, none⟩ = some (.int .i64 ((rd_T63 l0 x21_1).f3)) := (blk_cell BK463.out 3).trans rfl; have hcz38_4 : w37.cell? ⟨gb463, 4, none⟩ = some (.int .i64 ((rd_T63 l0 x21_1).f4)) := (blk_cell BK463.out 4).trans rfl; have hfz38_0 := blk_frozen BK463.out 0; have hfz38_1 := blk_frozen BK463.out 1; have hfz38_2 := blk_frozen BK463.out 2; have hfz38_3 := blk_frozen BK463.out 3; have hfz38_4 := blk_frozen BK463.out 4) | (go_at_call 79; (with_reducible refine (impl_within.calls ((rd_T63 l0 x21_1).f0) 1 4 true _ A17.out).mono ?_); rintro e w' ⟨rfl, ⟨nd, rfl⟩⟩; (try first | exact ⟨rfl, _, World.drewN_drewN _ _ _⟩ | exact ⟨rfl, _, Eq.trans (World.drewN_drewN _ _ _) (congrArg (World.drewN _) (Nat.add_assoc _ _ _))⟩); obtain ⟨Ao39, co39, eo39⟩ := Kd.R_slice HO_5.out; subst eo39; have p465 : 0 ≤ (x21_1 : Int) := of_decide_eq_true att15_0_5; have q465 : x21_1 < (t459.length : Int) := of_decide_eq_true att15_0_5; obtain ⟨ad465, e465, hx465_0⟩ := Kd.at_bool (Kd.R_reads' HO_5.out).2.2 x21_1 p465 q465; (try rw [← Nbq20.out] at hx465_0); cases e465; replace p465 := eq_true p465; replace q465 := eq_true q465; obtain ⟨Ao40, co40, eo40⟩ := Kd.S_slice HO_4.out; subst eo40; have p466 : 0 ≤ ((ji23) : Int) := of_decide_eq_true att15_0_5; have q466 : (ji23) < (t453.length : Int) := of_decide_eq_true att15_0_5; obtain ⟨ad466, A466_0, c466_0, e466, hx466_0, hl466_0, hi466_0⟩ := at_L5 (Kd.S_reads' HO_4.out).2.2 (ji23) p466 q466; cases e466; obtain ⟨ce466, hce466, hMe466, hcc466⟩ := Kd.S_get HO_4.out [] (ji23) p466 att15_1_0; obtain ⟨ve466_0, rfl, ge466_0⟩ := hMe466; have hv466_0 := hcc466 0 _ rfl; rw [Nat.add_zero, show ((Kd.slice 3 (Kd.int .i64))).sz = 1 from rfl, Nat.mul_one] at hv466_0; replace hv466_0 := Option.some.inj (hv466_0.symm.trans hx466_0); rw [hv466_0] at ge466_0; have HL466_0 := Aside0.mk (show Kd.R (Kd.int .i64) 3 _ _ _ _ (rd_L5 t453 (ji23)) from ge466_0); clear hv466_0 ge466_0; clear hcc466 hce466; have HR466_0 := Aside0.mk hi466_0; have HC466_0 := Aside0.mk hl466_0; clear hi466_0 hl466_0; replace p466 := eq_true p466; replace q466 := eq_true q466) | (go_at_call 84; (with_reducible refine (slices_Contains_int_int.calls k1 _ _ (rd_L5 t453 (ji23)) ((rd_T63 l0 x21_1).f1) false _ ?side1 ?side2 A26.out).mono ?_); (case side1 => repeat (first | exact att15_0_11 | (with_reducible refine Kd.C_alloc ?_ _) | (with_reducible refine Kd.C_drewN ?_ _) | (with_reducible refine Kd.C_drew ?_))); (case side2 => exact HC466_0.out); rintro e w' ⟨rfl, ⟨nd, rfl⟩⟩; (try first | exact ⟨rfl, _, World.drewN_drewN _ _ _⟩ | exact ⟨rfl, _, Eq.trans (World.drewN_drewN _ _ _) (congrArg (World.drewN _) (Nat.add_assoc _ _ _))⟩)) | ((with_reducible refine gate_builtin (b := .append) (xs := #[.tmp 54, .tmp 56]) rfl ?_); (try (refine gate_guard (by rfl) ?_; dsimp only)); at_builtin; refine Kd.R_append (Kd.int .i64) (w0 := w) w.heap.size rfl (.tmp 54) (.tmp 56) 34 3 (.int .i64 0) 8 rfl Try.underlying34 info3 rfl (by decide) (by omega) u3 x3_1 x21_1 [.int .i64 x21_1] (fun _ => True) (fun _ => False) rfl rfl ?aP (fun _ hk => hk.elim) ?aF ?aO ?aB ?aS ?aL ?_; (case aP => exact rfl); (case aB => exact att15_0_6); (case aF => exact (fun _ _ => trivial)); (case aO => exact att15_0_8); (case aS => exact (below_size att15_0_6)); (case aL => have := LMc34.out; omega); intro v469 w41 ho hb hg hat; rw [← Ny468.out] at ho; have n0_ := Aside0.mk (Kd.S_after (ok := (fun _ => True)) att15_0_17 hg hat); have n1_ := Aside0.mk (Kd.R_over' att15_0_7 (Kd.R_typed att15_0_8) (by decide) hg); have n2_ := Aside0.mk (blk_grown (g := gb463) (o := .cells #[.int .i64 ((rd_T63 l0 x21_1).f0), .int .i64 ((rd_T63 l0 x21_1).f1), .int .i64 ((rd_T63 l0 x21_1).f2), .int .i64 ((rd_T63 l0 x21_1).f3), .int .i64 ((rd_T63 l0 x21_1).f4)] 63 (0, 0)) att15_0_19 hg (Kd.R_ne HO_3.out BK463.out (by decide))); have n3_ := Aside0.mk (Kd.R_after (ok := (fun k_ => some k_ ≠ (.slice (some ad466) t453.length co40 : Value).ownBlock)) att15_0_16 hg hat); have n4_ := Aside0.mk (hb); have n5_ := Aside0.mk (ho); clear HO_4; clear HO_5; clear BK463; clear HL466_0; clear HB; clear HO_3; have HO_4 := n0_; have HO_5 := n1_; have BK463 := n2_; have HL466_0 := n3_; have HB := n4_; have HO470 := n5_; clear n0_ n1_ n2_ n3_ n4_ n5_; clear ho hb hg hat)))
               go_roundg k1
               case measure => have := HK1.out; omega
               case rel => exact ⟨(y468), (ji23), att15_0_25, H', ⟨att15_0_18⟩, ⟨by (with_reducible repeat (first | apply Kd.R_alloc | apply Kd.R_drewN | apply Kd.R_drew)); exact HO470.out⟩, ⟨by (with_reducible repeat (first | apply Kd.S_alloc | apply Kd.S_drewN | apply Kd.S_drew)); exact Kd.S_mono HO_4.out (fun _ hk => hk.2)⟩, ⟨att15_0_7⟩, ⟨att15_0_6⟩⟩
              ·rw [if_neg c34] at H
               exact absurd H (by simp)
            ·rw [if_neg c25] at H
             exact absurd H (by simp)
           ·rw [if_neg c24] at H
            exact absurd H (by simp)
          ·rw [if_neg c22] at H
           have c22b0 : decide ((wrap64 (x21_1 + 1)) < (l0.length : Int)) = false := decide_eq_false c22
           clear c22
           have H' := Aside0.mk H
           clear H
           have p462 : 0 ≤ (x21_1 : Int) := of_decide_eq_true att15_0_5
           have q462 : x21_1 < (l0.length : Int) := of_decide_eq_true att15_0_5
           obtain ⟨ad462, e462, hx462_0, hx462_1, hx462_2, hx462_3, hx462_4⟩ := at_T63 HR0.out x21_1 p462 q462
           cases e462
           replace hx462_0 := (HB.out.cell (World.block_lt_of_cell? w _ hx462_0)).trans hx462_0
           replace hx462_1 := (HB.out.cell (World.block_lt_of_cell? w _ hx462_1)).trans hx462_1
           replace hx462_2 := (HB.out.cell (World.block_lt_of_cell? w _ hx462_2)).trans hx462_2
           replace hx462_3 := (HB.out.cell (World.block_lt_of_cell? w _ hx462_3)).trans hx462_3
           replace hx462_4 := (HB.out.cell (World.block_lt_of_cell? w _ hx462_4)).trans hx462_4
           replace p462 := eq_true p462
           replace q462 := eq_true q462
           go_wp2_with (first | ((with_reducible refine gate_dst (N := 7) rfl ?_); (try (refine gate_guard (by rfl) ?_; dsimp only)); refine box_event ?hg (N := 7) ?hd (cs := #[.int .i64 0, .int .i64 0, .int .i64 0, .int .i64 0, .int .i64 0]) (t := 63) ?hr ?_; (case hd => rfl); (case hg => rfl); (case hr => first | (go_simp; done) | (go_simp; rfl)); intro gb463 hg w42 hbox hb; have n0_ := Aside0.mk (Kd.R_below att15_0_8 hb); have n1_ := Aside0.mk (Kd.S_below att15_0_10 hb); have n2_ := Aside0.mk (Kd.R_below att15_0_7 hb); have n3_ := Aside0.mk (below_step att15_0_0 hb); have n4_ := Aside0.mk (hbox); have n5_ := Aside0.mk ((by rw [hg]; exact (below_size att15_0_0) : w.heap.size ≤ gb463)); have n6_ := Aside0.mk ((by rw [hg]; exact (below_size att15_0_0) : w.heap.size ≤ gb463)); clear HO_3; clear HO_4; clear HO_5; clear HB; have HO_3 := n0_; have HO_4 := n1_; have HO_5 := n2_; have HB := n3_; have BK463 := n4_; have GW463 := n5_; have GE463 := n6_; clear n0_ n1_ n2_ n3_ n4_ n5_ n6_; clear hb hbox hg; have hcz43_0 : w42.cell? ⟨gb463, 0, none⟩ = some (.int .i64 0) := (blk_cell BK463.out 0).trans rfl; have hcz43_1 : w42.cell? ⟨gb463, 1, none⟩ = some (.int .i64 0) := (blk_cell BK463.out 1).trans rfl; have hcz43_2 : w42.cell? ⟨gb463, 2, none⟩ = some (.int .i64 0) := (blk_cell BK463.out 2).trans rfl; have hcz43_3 : w42.cell? ⟨gb463, 3, none⟩ = some (.int .i64 0) := (blk_cell BK463.out 3).trans rfl; have hcz43_4 : w42.cell? ⟨gb463, 4, none⟩ = some (.int .i64 0) := (blk_cell BK463.out 4).trans rfl; have hfz43_0 := blk_frozen BK463.out 0; have hfz43_1 := blk_frozen BK463.out 1; have hfz43_2 := blk_frozen BK463.out 2; have hfz43_3 := blk_frozen BK463.out 3; have hfz43_4 := blk_frozen BK463.out 4) | (go_at_call 79; (with_reducible refine (impl_within.calls ((rd_T63 l0 x21_1).f0) 1 4 true _ A17.out).mono ?_); rintro e w' ⟨rfl, ⟨nd, rfl⟩⟩; (try first | exact ⟨rfl, _, World.drewN_drewN _ _ _⟩ | exact ⟨rfl, _, Eq.trans (World.drewN_drewN _ _ _) (congrArg (World.drewN _) (Nat.add_assoc _ _ _))⟩); obtain ⟨Ao44, co44, eo44⟩ := Kd.R_slice HO_5.out; subst eo44; have p465 : 0 ≤ (x21_1 : Int) := of_decide_eq_true att15_0_5; have q465 : x21_1 < (t459.length : Int) := of_decide_eq_true att15_0_5; obtain ⟨ad465, e465, hx465_0⟩ := Kd.at_bool (Kd.R_reads' HO_5.out).2.2 x21_1 p465 q465; (try rw [← Nbq20.out] at hx465_0); cases e465; have hn465_0 : ad465.block ≠ gb463 := Kd.own_blk (Kd.R_ne HO_5.out BK463.out (by decide)); have hn465_1 : ad465.block ≠ gb463 := Kd.own_blk (Kd.R_ne HO_5.out BK463.out (by decide)); have hn465_2 : ad465.block ≠ gb463 := Kd.own_blk (Kd.R_ne HO_5.out BK463.out (by decide)); have hn465_3 : ad465.block ≠ gb463 := Kd.own_blk (Kd.R_ne HO_5.out BK463.out (by decide)); have hn465_4 : ad465.block ≠ gb463 := Kd.own_blk (Kd.R_ne HO_5.out BK463.out (by decide)); replace hx465_0 := (cell_far (p := ⟨gb463, 0, none⟩) (by first | (rw [add_block]; exact hn465_0) | (show (Addr.add _ _).block ≠ _; rw [add_block]; exact hn465_0) | exact hn465_0) (.int .i64 ((rd_T63 l0 x21_1).f0))).trans hx465_0; replace hx465_0 := (cell_far (p := ⟨gb463, 1, none⟩) (by first | (rw [add_block]; exact hn465_1) | (show (Addr.add _ _).block ≠ _; rw [add_block]; exact hn465_1) | exact hn465_1) (.int .i64 ((rd_T63 l0 x21_1).f1))).trans hx465_0; replace hx465_0 := (cell_far (p := ⟨gb463, 2, none⟩) (by first | (rw [add_block]; exact hn465_2) | (show (Addr.add _ _).block ≠ _; rw [add_block]; exact hn465_2) | exact hn465_2) (.int .i64 ((rd_T63 l0 x21_1).f2))).trans hx465_0; replace hx465_0 := (cell_far (p := ⟨gb463, 3, none⟩) (by first | (rw [add_block]; exact hn465_3) | (show (Addr.add _ _).block ≠ _; rw [add_block]; exact hn465_3) | exact hn465_3) (.int .i64 ((rd_T63 l0 x21_1).f3))).trans hx465_0; replace hx465_0 := (cell_far (p := ⟨gb463, 4, none⟩) (by first | (rw [add_block]; exact hn465_4) | (show (Addr.add _ _).block ≠ _; rw [add_block]; exact hn465_4) | exact hn465_4) (.int .i64 ((rd_T63 l0 x21_1).f4))).trans hx465_0; (try have hy465_0 := fun (n_ : Nat) => (show (((((((w42.drewN n_).setCell ⟨gb463, 0, none⟩ (.int .i64 ((rd_T63 l0 x21_1).f0))).setCell ⟨gb463, 1, none⟩ (.int .i64 ((rd_T63 l0 x21_1).f1))).setCell ⟨gb463, 2, none⟩ (.int .i64 ((rd_T63 l0 x21_1).f2))).setCell ⟨gb463, 3, none⟩ (.int .i64 ((rd_T63 l0 x21_1).f3))).setCell ⟨gb463, 4, none⟩ (.int .i64 ((rd_T63 l0 x21_1).f4)))).cell? _ = some _ from hx465_0)); clear hn465_0; clear hn465_1; clear hn465_2; clear hn465_3; clear hn465_4; replace p465 := eq_true p465; replace q465 := eq_true q465))
           repeat (go_quiet (first | (go_at_call 79; (with_reducible refine (impl_within.calls ((rd_T63 l0 x21_1).f0) 1 4 true _ A17.out).mono ?_); rintro e w' ⟨rfl, ⟨nd, rfl⟩⟩; (try first | exact ⟨rfl, _, World.drewN_drewN _ _ _⟩ | exact ⟨rfl, _, Eq.trans (World.drewN_drewN _ _ _) (congrArg (World.drewN _) (Nat.add_assoc _ _ _))⟩); obtain ⟨Ao44, co44, eo44⟩ := Kd.R_slice HO_5.out; subst eo44; have p465 : 0 ≤ (x21_1 : Int) := of_decide_eq_true att15_0_5; have q465 : x21_1 < (t459.length : Int) := of_decide_eq_true att15_0_5; obtain ⟨ad465, e465, hx465_0⟩ := Kd.at_bool (Kd.R_reads' HO_5.out).2.2 x21_1 p465 q465; (try rw [← Nbq20.out] at hx465_0); cases e465; have hn465_0 : ad465.block ≠ gb463 := Kd.own_blk (Kd.R_ne HO_5.out BK463.out (by decide)); have hn465_1 : ad465.block ≠ gb463 := Kd.own_blk (Kd.R_ne HO_5.out BK463.out (by decide)); have hn465_2 : ad465.block ≠ gb463 := Kd.own_blk (Kd.R_ne HO_5.out BK463.out (by decide)); have hn465_3 : ad465.block ≠ gb463 := Kd.own_blk (Kd.R_ne HO_5.out BK463.out (by decide)); have hn465_4 : ad465.block ≠ gb463 := Kd.own_blk (Kd.R_ne HO_5.out BK463.out (by decide)); replace hx465_0 := (cell_far (p := ⟨gb463, 0, none⟩) (by first | (rw [add_block]; exact hn465_0) | (show (Addr.add _ _).block ≠ _; rw [add_block]; exact hn465_0) | exact hn465_0) (.int .i64 ((rd_T63 l0 x21_1).f0))).trans hx465_0; replace hx465_0 := (cell_far (p := ⟨gb463, 1, none⟩) (by first | (rw [add_block]; exact hn465_1) | (show (Addr.add _ _).block ≠ _; rw [add_block]; exact hn465_1) | exact hn465_1) (.int .i64 ((rd_T63 l0 x21_1).f1))).trans hx465_0; replace hx465_0 := (cell_far (p := ⟨gb463, 2, none⟩) (by first | (rw [add_block]; exact hn465_2) | (show (Addr.add _ _).block ≠ _; rw [add_block]; exact hn465_2) | exact hn465_2) (.int .i64 ((rd_T63 l0 x21_1).f2))).trans hx465_0; replace hx465_0 := (cell_far (p := ⟨gb463, 3, none⟩) (by first | (rw [add_block]; exact hn465_3) | (show (Addr.add _ _).block ≠ _; rw [add_block]; exact hn465_3) | exact hn465_3) (.int .i64 ((rd_T63 l0 x21_1).f3))).trans hx465_0; replace hx465_0 := (cell_far (p := ⟨gb463, 4, none⟩) (by first | (rw [add_block]; exact hn465_4) | (show (Addr.add _ _).block ≠ _; rw [add_block]; exact hn465_4) | exact hn465_4) (.int .i64 ((rd_T63 l0 x21_1).f4))).trans hx465_0; (try have hy465_0 := fun (n_ : Nat) => (show (((((((w42.drewN n_).setCell ⟨gb463, 0, none⟩ (.int .i64 ((rd_T63 l0 x21_1).f0))).setCell ⟨gb463, 1, none⟩ (.int .i64 ((rd_T63 l0 x21_1).f1))).setCell ⟨gb463, 2, none⟩ (.int .i64 ((rd_T63 l0 x21_1).f2))).setCell ⟨gb463, 3, none⟩ (.int .i64 ((rd_T63 l0 x21_1).f3))).setCell ⟨gb463, 4, none⟩ (.int .i64 ((rd_T63 l0 x21_1).f4)))).cell? _ = some _ from hx465_0)); clear hn465_0; clear hn465_1; clear hn465_2; clear hn465_3; clear hn465_4; replace p465 := eq_true p465; replace q465 := eq_true q465)); try go_wp2_with (first | ((with_reducible refine gate_dst (N := 7) rfl ?_); (try (refine gate_guard (by rfl) ?_; dsimp only)); refine box_event ?hg (N := 7) ?hd (cs := #[.int .i64 0, .int .i64 0, .int .i64 0, .int .i64 0, .int .i64 0]) (t := 63) ?hr ?_; (case hd => rfl); (case hg => rfl); (case hr => first | (go_simp; done) | (go_simp; rfl)); intro gb463 hg w42 hbox hb; have n0_ := Aside0.mk (Kd.R_below att15_0_8 hb); have n1_ := Aside0.mk (Kd.S_below att15_0_10 hb); have n2_ := Aside0.mk (Kd.R_below att15_0_7 hb); have n3_ := Aside0.mk (below_step att15_0_0 hb); have n4_ := Aside0.mk (hbox); have n5_ := Aside0.mk ((by rw [hg]; exact (below_size att15_0_0) : w.heap.size ≤ gb463)); have n6_ := Aside0.mk ((by rw [hg]; exact (below_size att15_0_0) : w.heap.size ≤ gb463)); clear HO_3; clear HO_4; clear HO_5; clear HB; have HO_3 := n0_; have HO_4 := n1_; have HO_5 := n2_; have HB := n3_; have BK463 := n4_; have GW463 := n5_; have GE463 := n6_; clear n0_ n1_ n2_ n3_ n4_ n5_ n6_; clear hb hbox hg; have hcz43_0 : w42.cell? ⟨gb463, 0, none⟩ = some (.int .i64 0) := (blk_cell BK463.out 0).trans rfl; have hcz43_1 : w42.cell? ⟨gb463, 1, none⟩ = some (.int .i64 0) := (blk_cell BK463.out 1).trans rfl; have hcz43_2 : w42.cell? ⟨gb463, 2, none⟩ = some (.int .i64 0) := (blk_cell BK463.out 2).trans rfl; have hcz43_3 : w42.cell? ⟨gb463, 3, none⟩ = some (.int .i64 0) := (blk_cell BK463.out 3).trans rfl; have hcz43_4 : w42.cell? ⟨gb463, 4, none⟩ = some (.int .i64 0) := (blk_cell BK463.out 4).trans rfl; have hfz43_0 := blk_frozen BK463.out 0; have hfz43_1 := blk_frozen BK463.out 1; have hfz43_2 := blk_frozen BK463.out 2; have hfz43_3 := blk_frozen BK463.out 3; have hfz43_4 := blk_frozen BK463.out 4) | (go_at_call 79; (with_reducible refine (impl_within.calls ((rd_T63 l0 x21_1).f0) 1 4 true _ A17.out).mono ?_); rintro e w' ⟨rfl, ⟨nd, rfl⟩⟩; (try first | exact ⟨rfl, _, World.drewN_drewN _ _ _⟩ | exact ⟨rfl, _, Eq.trans (World.drewN_drewN _ _ _) (congrArg (World.drewN _) (Nat.add_assoc _ _ _))⟩); obtain ⟨Ao44, co44, eo44⟩ := Kd.R_slice HO_5.out; subst eo44; have p465 : 0 ≤ (x21_1 : Int) := of_decide_eq_true att15_0_5; have q465 : x21_1 < (t459.length : Int) := of_decide_eq_true att15_0_5; obtain ⟨ad465, e465, hx465_0⟩ := Kd.at_bool (Kd.R_reads' HO_5.out).2.2 x21_1 p465 q465; (try rw [← Nbq20.out] at hx465_0); cases e465; have hn465_0 : ad465.block ≠ gb463 := Kd.own_blk (Kd.R_ne HO_5.out BK463.out (by decide)); have hn465_1 : ad465.block ≠ gb463 := Kd.own_blk (Kd.R_ne HO_5.out BK463.out (by decide)); have hn465_2 : ad465.block ≠ gb463 := Kd.own_blk (Kd.R_ne HO_5.out BK463.out (by decide)); have hn465_3 : ad465.block ≠ gb463 := Kd.own_blk (Kd.R_ne HO_5.out BK463.out (by decide)); have hn465_4 : ad465.block ≠ gb463 := Kd.own_blk (Kd.R_ne HO_5.out BK463.out (by decide)); replace hx465_0 := (cell_far (p := ⟨gb463, 0, none⟩) (by first | (rw [add_block]; exact hn465_0) | (show (Addr.add _ _).block ≠ _; rw [add_block]; exact hn465_0) | exact hn465_0) (.int .i64 ((rd_T63 l0 x21_1).f0))).trans hx465_0; replace hx465_0 := (cell_far (p := ⟨gb463, 1, none⟩) (by first | (rw [add_block]; exact hn465_1) | (show (Addr.add _ _).block ≠ _; rw [add_block]; exact hn465_1) | exact hn465_1) (.int .i64 ((rd_T63 l0 x21_1).f1))).trans hx465_0; replace hx465_0 := (cell_far (p := ⟨gb463, 2, none⟩) (by first | (rw [add_block]; exact hn465_2) | (show (Addr.add _ _).block ≠ _; rw [add_block]; exact hn465_2) | exact hn465_2) (.int .i64 ((rd_T63 l0 x21_1).f2))).trans hx465_0; replace hx465_0 := (cell_far (p := ⟨gb463, 3, none⟩) (by first | (rw [add_block]; exact hn465_3) | (show (Addr.add _ _).block ≠ _; rw [add_block]; exact hn465_3) | exact hn465_3) (.int .i64 ((rd_T63 l0 x21_1).f3))).trans hx465_0; replace hx465_0 := (cell_far (p := ⟨gb463, 4, none⟩) (by first | (rw [add_block]; exact hn465_4) | (show (Addr.add _ _).block ≠ _; rw [add_block]; exact hn465_4) | exact hn465_4) (.int .i64 ((rd_T63 l0 x21_1).f4))).trans hx465_0; (try have hy465_0 := fun (n_ : Nat) => (show (((((((w42.drewN n_).setCell ⟨gb463, 0, none⟩ (.int .i64 ((rd_T63 l0 x21_1).f0))).setCell ⟨gb463, 1, none⟩ (.int .i64 ((rd_T63 l0 x21_1).f1))).setCell ⟨gb463, 2, none⟩ (.int .i64 ((rd_T63 l0 x21_1).f2))).setCell ⟨gb463, 3, none⟩ (.int .i64 ((rd_T63 l0 x21_1).f3))).setCell ⟨gb463, 4, none⟩ (.int .i64 ((rd_T63 l0 x21_1).f4)))).cell? _ = some _ from hx465_0)); clear hn465_0; clear hn465_1; clear hn465_2; clear hn465_3; clear hn465_4; replace p465 := eq_true p465; replace q465 := eq_true q465)))
           go_roundg k1
           case measure => have := HK1.out; omega
           case rel => exact ⟨(x3_1), (wrap64 (x21_1 + 1)), att15_0_15, H', ⟨att15_0_18⟩, ⟨att15_0_3⟩, ⟨att15_0_4⟩, ⟨att15_0_2⟩, ⟨att15_0_6⟩⟩
         ·replace c21 := Bool.eq_false_iff.mpr c21
          subst c21
          rw [if_neg (show ¬ (false = true) by decide)] at H
          have H' := Aside0.mk H
          clear H
          have p462 : 0 ≤ (x21_1 : Int) := of_decide_eq_true att15_0_5
          have q462 : x21_1 < (l0.length : Int) := of_decide_eq_true att15_0_5
          obtain ⟨ad462, e462, hx462_0, hx462_1, hx462_2, hx462_3, hx462_4⟩ := at_T63 HR0.out x21_1 p462 q462
          cases e462
          replace hx462_0 := (HB.out.cell (World.block_lt_of_cell? w _ hx462_0)).trans hx462_0
          replace hx462_1 := (HB.out.cell (World.block_lt_of_cell? w _ hx462_1)).trans hx462_1
          replace hx462_2 := (HB.out.cell (World.block_lt_of_cell? w _ hx462_2)).trans hx462_2
          replace hx462_3 := (HB.out.cell (World.block_lt_of_cell? w _ hx462_3)).trans hx462_3
          replace hx462_4 := (HB.out.cell (World.block_lt_of_cell? w _ hx462_4)).trans hx462_4
          replace p462 := eq_true p462
          replace q462 := eq_true q462
          go_wp2_with (first | ((with_reducible refine gate_dst (N := 7) rfl ?_); (try (refine gate_guard (by rfl) ?_; dsimp only)); refine box_event ?hg (N := 7) ?hd (cs := #[.int .i64 0, .int .i64 0, .int .i64 0, .int .i64 0, .int .i64 0]) (t := 63) ?hr ?_; (case hd => rfl); (case hg => rfl); (case hr => first | (go_simp; done) | (go_simp; rfl)); intro gb463 hg w45 hbox hb; have n0_ := Aside0.mk (Kd.R_below att15_0_8 hb); have n1_ := Aside0.mk (Kd.S_below att15_0_10 hb); have n2_ := Aside0.mk (Kd.R_below att15_0_7 hb); have n3_ := Aside0.mk (below_step att15_0_0 hb); have n4_ := Aside0.mk (hbox); have n5_ := Aside0.mk ((by rw [hg]; exact (below_size att15_0_0) : w.heap.size ≤ gb463)); have n6_ := Aside0.mk ((by rw [hg]; exact (below_size att15_0_0) : w.heap.size ≤ gb463)); clear HO_3; clear HO_4; clear HO_5; clear HB; have HO_3 := n0_; have HO_4 := n1_; have HO_5 := n2_; have HB := n3_; have BK463 := n4_; have GW463 := n5_; have GE463 := n6_; clear n0_ n1_ n2_ n3_ n4_ n5_ n6_; clear hb hbox hg; have hcz46_0 : w45.cell? ⟨gb463, 0, none⟩ = some (.int .i64 0) := (blk_cell BK463.out 0).trans rfl; have hcz46_1 : w45.cell? ⟨gb463, 1, none⟩ = some (.int .i64 0) := (blk_cell BK463.out 1).trans rfl; have hcz46_2 : w45.cell? ⟨gb463, 2, none⟩ = some (.int .i64 0) := (blk_cell BK463.out 2).trans rfl; have hcz46_3 : w45.cell? ⟨gb463, 3, none⟩ = some (.int .i64 0) := (blk_cell BK463.out 3).trans rfl; have hcz46_4 : w45.cell? ⟨gb463, 4, none⟩ = some (.int .i64 0) := (blk_cell BK463.out 4).trans rfl; have hfz46_0 := blk_frozen BK463.out 0; have hfz46_1 := blk_frozen BK463.out 1; have hfz46_2 := blk_frozen BK463.out 2; have hfz46_3 := blk_frozen BK463.out 3; have hfz46_4 := blk_frozen BK463.out 4) | (go_at_call 79; (with_reducible refine (impl_within.calls ((rd_T63 l0 x21_1).f0) 1 4 true _ A17.out).mono ?_); rintro e w' ⟨rfl, ⟨nd, rfl⟩⟩; (try first | exact ⟨rfl, _, World.drewN_drewN _ _ _⟩ | exact ⟨rfl, _, Eq.trans (World.drewN_drewN _ _ _) (congrArg (World.drewN _) (Nat.add_assoc _ _ _))⟩); obtain ⟨Ao47, co47, eo47⟩ := Kd.R_slice HO_5.out; subst eo47; have p465 : 0 ≤ (x21_1 : Int) := of_decide_eq_true att15_0_5; have q465 : x21_1 < (t459.length : Int) := of_decide_eq_true att15_0_5; obtain ⟨ad465, e465, hx465_0⟩ := Kd.at_bool (Kd.R_reads' HO_5.out).2.2 x21_1 p465 q465; (try rw [← Nbq20.out] at hx465_0); cases e465; have hn465_0 : ad465.block ≠ gb463 := Kd.own_blk (Kd.R_ne HO_5.out BK463.out (by decide)); have hn465_1 : ad465.block ≠ gb463 := Kd.own_blk (Kd.R_ne HO_5.out BK463.out (by decide)); have hn465_2 : ad465.block ≠ gb463 := Kd.own_blk (Kd.R_ne HO_5.out BK463.out (by decide)); have hn465_3 : ad465.block ≠ gb463 := Kd.own_blk (Kd.R_ne HO_5.out BK463.out (by decide)); have hn465_4 : ad465.block ≠ gb463 := Kd.own_blk (Kd.R_ne HO_5.out BK463.out (by decide)); replace hx465_0 := (cell_far (p := ⟨gb463, 0, none⟩) (by first | (rw [add_block]; exact hn465_0) | (show (Addr.add _ _).block ≠ _; rw [add_block]; exact hn465_0) | exact hn465_0) (.int .i64 ((rd_T63 l0 x21_1).f0))).trans hx465_0; replace hx465_0 := (cell_far (p := ⟨gb463, 1, none⟩) (by first | (rw [add_block]; exact hn465_1) | (show (Addr.add _ _).block ≠ _; rw [add_block]; exact hn465_1) | exact hn465_1) (.int .i64 ((rd_T63 l0 x21_1).f1))).trans hx465_0; replace hx465_0 := (cell_far (p := ⟨gb463, 2, none⟩) (by first | (rw [add_block]; exact hn465_2) | (show (Addr.add _ _).block ≠ _; rw [add_block]; exact hn465_2) | exact hn465_2) (.int .i64 ((rd_T63 l0 x21_1).f2))).trans hx465_0; replace hx465_0 := (cell_far (p := ⟨gb463, 3, none⟩) (by first | (rw [add_block]; exact hn465_3) | (show (Addr.add _ _).block ≠ _; rw [add_block]; exact hn465_3) | exact hn465_3) (.int .i64 ((rd_T63 l0 x21_1).f3))).trans hx465_0; replace hx465_0 := (cell_far (p := ⟨gb463, 4, none⟩) (by first | (rw [add_block]; exact hn465_4) | (show (Addr.add _ _).block ≠ _; rw [add_block]; exact hn465_4) | exact hn465_4) (.int .i64 ((rd_T63 l0 x21_1).f4))).trans hx465_0; (try have hy465_0 := fun (n_ : Nat) => (show (((((((w45.drewN n_).setCell ⟨gb463, 0, none⟩ (.int .i64 ((rd_T63 l0 x21_1).f0))).setCell ⟨gb463, 1, none⟩ (.int .i64 ((rd_T63 l0 x21_1).f1))).setCell ⟨gb463, 2, none⟩ (.int .i64 ((rd_T63 l0 x21_1).f2))).setCell ⟨gb463, 3, none⟩ (.int .i64 ((rd_T63 l0 x21_1).f3))).setCell ⟨gb463, 4, none⟩ (.int .i64 ((rd_T63 l0 x21_1).f4)))).cell? _ = some _ from hx465_0)); clear hn465_0; clear hn465_1; clear hn465_2; clear hn465_3; clear hn465_4; replace p465 := eq_true p465; replace q465 := eq_true q465))
          repeat (go_quiet (first | (go_at_call 79; (with_reducible refine (impl_within.calls ((rd_T63 l0 x21_1).f0) 1 4 true _ A17.out).mono ?_); rintro e w' ⟨rfl, ⟨nd, rfl⟩⟩; (try first | exact ⟨rfl, _, World.drewN_drewN _ _ _⟩ | exact ⟨rfl, _, Eq.trans (World.drewN_drewN _ _ _) (congrArg (World.drewN _) (Nat.add_assoc _ _ _))⟩); obtain ⟨Ao47, co47, eo47⟩ := Kd.R_slice HO_5.out; subst eo47; have p465 : 0 ≤ (x21_1 : Int) := of_decide_eq_true att15_0_5; have q465 : x21_1 < (t459.length : Int) := of_decide_eq_true att15_0_5; obtain ⟨ad465, e465, hx465_0⟩ := Kd.at_bool (Kd.R_reads' HO_5.out).2.2 x21_1 p465 q465; (try rw [← Nbq20.out] at hx465_0); cases e465; have hn465_0 : ad465.block ≠ gb463 := Kd.own_blk (Kd.R_ne HO_5.out BK463.out (by decide)); have hn465_1 : ad465.block ≠ gb463 := Kd.own_blk (Kd.R_ne HO_5.out BK463.out (by decide)); have hn465_2 : ad465.block ≠ gb463 := Kd.own_blk (Kd.R_ne HO_5.out BK463.out (by decide)); have hn465_3 : ad465.block ≠ gb463 := Kd.own_blk (Kd.R_ne HO_5.out BK463.out (by decide)); have hn465_4 : ad465.block ≠ gb463 := Kd.own_blk (Kd.R_ne HO_5.out BK463.out (by decide)); replace hx465_0 := (cell_far (p := ⟨gb463, 0, none⟩) (by first | (rw [add_block]; exact hn465_0) | (show (Addr.add _ _).block ≠ _; rw [add_block]; exact hn465_0) | exact hn465_0) (.int .i64 ((rd_T63 l0 x21_1).f0))).trans hx465_0; replace hx465_0 := (cell_far (p := ⟨gb463, 1, none⟩) (by first | (rw [add_block]; exact hn465_1) | (show (Addr.add _ _).block ≠ _; rw [add_block]; exact hn465_1) | exact hn465_1) (.int .i64 ((rd_T63 l0 x21_1).f1))).trans hx465_0; replace hx465_0 := (cell_far (p := ⟨gb463, 2, none⟩) (by first | (rw [add_block]; exact hn465_2) | (show (Addr.add _ _).block ≠ _; rw [add_block]; exact hn465_2) | exact hn465_2) (.int .i64 ((rd_T63 l0 x21_1).f2))).trans hx465_0; replace hx465_0 := (cell_far (p := ⟨gb463, 3, none⟩) (by first | (rw [add_block]; exact hn465_3) | (show (Addr.add _ _).block ≠ _; rw [add_block]; exact hn465_3) | exact hn465_3) (.int .i64 ((rd_T63 l0 x21_1).f3))).trans hx465_0; replace hx465_0 := (cell_far (p := ⟨gb463, 4, none⟩) (by first | (rw [add_block]; exact hn465_4) | (show (Addr.add _ _).block ≠ _; rw [add_block]; exact hn465_4) | exact hn465_4) (.int .i64 ((rd_T63 l0 x21_1).f4))).trans hx465_0; (try have hy465_0 := fun (n_ : Nat) => (show (((((((w45.drewN n_).setCell ⟨gb463, 0, none⟩ (.int .i64 ((rd_T63 l0 x21_1).f0))).setCell ⟨gb463, 1, none⟩ (.int .i64 ((rd_T63 l0 x21_1).f1))).setCell ⟨gb463, 2, none⟩ (.int .i64 ((rd_T63 l0 x21_1).f2))).setCell ⟨gb463, 3, none⟩ (.int .i64 ((rd_T63 l0 x21_1).f3))).setCell ⟨gb463, 4, none⟩ (.int .i64 ((rd_T63 l0 x21_1).f4)))).cell? _ = some _ from hx465_0)); clear hn465_0; clear hn465_1; clear hn465_2; clear hn465_3; clear hn465_4; replace p465 := eq_true p465; replace q465 := eq_true q465)); try go_wp2_with (first | ((with_reducible refine gate_dst (N := 7) rfl ?_); (try (refine gate_guard (by rfl) ?_; dsimp only)); refine box_event ?hg (N := 7) ?hd (cs := #[.int .i64 0, .int .i64 0, .int .i64 0, .int .i64 0, .int .i64 0]) (t := 63) ?hr ?_; (case hd => rfl); (case hg => rfl); (case hr => first | (go_simp; done) | (go_simp; rfl)); intro gb463 hg w45 hbox hb; have n0_ := Aside0.mk (Kd.R_below att15_0_8 hb); have n1_ := Aside0.mk (Kd.S_below att15_0_10 hb); have n2_ := Aside0.mk (Kd.R_below att15_0_7 hb); have n3_ := Aside0.mk (below_step att15_0_0 hb); have n4_ := Aside0.mk (hbox); have n5_ := Aside0.mk ((by rw [hg]; exact (below_size att15_0_0) : w.heap.size ≤ gb463)); have n6_ := Aside0.mk ((by rw [hg]; exact (below_size att15_0_0) : w.heap.size ≤ gb463)); clear HO_3; clear HO_4; clear HO_5; clear HB; have HO_3 := n0_; have HO_4 := n1_; have HO_5 := n2_; have HB := n3_; have BK463 := n4_; have GW463 := n5_; have GE463 := n6_; clear n0_ n1_ n2_ n3_ n4_ n5_ n6_; clear hb hbox hg; have hcz46_0 : w45.cell? ⟨gb463, 0, none⟩ = some (.int .i64 0) := (blk_cell BK463.out 0).trans rfl; have hcz46_1 : w45.cell? ⟨gb463, 1, none⟩ = some (.int .i64 0) := (blk_cell BK463.out 1).trans rfl; have hcz46_2 : w45.cell? ⟨gb463, 2, none⟩ = some (.int .i64 0) := (blk_cell BK463.out 2).trans rfl; have hcz46_3 : w45.cell? ⟨gb463, 3, none⟩ = some (.int .i64 0) := (blk_cell BK463.out 3).trans rfl; have hcz46_4 : w45.cell? ⟨gb463, 4, none⟩ = some (.int .i64 0) := (blk_cell BK463.out 4).trans rfl; have hfz46_0 := blk_frozen BK463.out 0; have hfz46_1 := blk_frozen BK463.out 1; have hfz46_2 := blk_frozen BK463.out 2; have hfz46_3 := blk_frozen BK463.out 3; have hfz46_4 := blk_frozen BK463.out 4) | (go_at_call 79; (with_reducible refine (impl_within.calls ((rd_T63 l0 x21_1).f0) 1 4 true _ A17.out).mono ?_); rintro e w' ⟨rfl, ⟨nd, rfl⟩⟩; (try first | exact ⟨rfl, _, World.drewN_drewN _ _ _⟩ | exact ⟨rfl, _, Eq.trans (World.drewN_drewN _ _ _) (congrArg (World.drewN _) (Nat.add_assoc _ _ _))⟩); obtain ⟨Ao47, co47, eo47⟩ := Kd.R_slice HO_5.out; subst eo47; have p465 : 0 ≤ (x21_1 : Int) := of_decide_eq_true att15_0_5; have q465 : x21_1 < (t459.length : Int) := of_decide_eq_true att15_0_5; obtain ⟨ad465, e465, hx465_0⟩ := Kd.at_bool (Kd.R_reads' HO_5.out).2.2 x21_1 p465 q465; (try rw [← Nbq20.out] at hx465_0); cases e465; have hn465_0 : ad465.block ≠ gb463 := Kd.own_blk (Kd.R_ne HO_5.out BK463.out (by decide)); have hn465_1 : ad465.block ≠ gb463 := Kd.own_blk (Kd.R_ne HO_5.out BK463.out (by decide)); have hn465_2 : ad465.block ≠ gb463 := Kd.own_blk (Kd.R_ne HO_5.out BK463.out (by decide)); have hn465_3 : ad465.block ≠ gb463 := Kd.own_blk (Kd.R_ne HO_5.out BK463.out (by decide)); have hn465_4 : ad465.block ≠ gb463 := Kd.own_blk (Kd.R_ne HO_5.out BK463.out (by decide)); replace hx465_0 := (cell_far (p := ⟨gb463, 0, none⟩) (by first | (rw [add_block]; exact hn465_0) | (show (Addr.add _ _).block ≠ _; rw [add_block]; exact hn465_0) | exact hn465_0) (.int .i64 ((rd_T63 l0 x21_1).f0))).trans hx465_0; replace hx465_0 := (cell_far (p := ⟨gb463, 1, none⟩) (by first | (rw [add_block]; exact hn465_1) | (show (Addr.add _ _).block ≠ _; rw [add_block]; exact hn465_1) | exact hn465_1) (.int .i64 ((rd_T63 l0 x21_1).f1))).trans hx465_0; replace hx465_0 := (cell_far (p := ⟨gb463, 2, none⟩) (by first | (rw [add_block]; exact hn465_2) | (show (Addr.add _ _).block ≠ _; rw [add_block]; exact hn465_2) | exact hn465_2) (.int .i64 ((rd_T63 l0 x21_1).f2))).trans hx465_0; replace hx465_0 := (cell_far (p := ⟨gb463, 3, none⟩) (by first | (rw [add_block]; exact hn465_3) | (show (Addr.add _ _).block ≠ _; rw [add_block]; exact hn465_3) | exact hn465_3) (.int .i64 ((rd_T63 l0 x21_1).f3))).trans hx465_0; replace hx465_0 := (cell_far (p := ⟨gb463, 4, none⟩) (by first | (rw [add_block]; exact hn465_4) | (show (Addr.add _ _).block ≠ _; rw [add_block]; exact hn465_4) | exact hn465_4) (.int .i64 ((rd_T63 l0 x21_1).f4))).trans hx465_0; (try have hy465_0 := fun (n_ : Nat) => (show (((((((w45.drewN n_).setCell ⟨gb463, 0, none⟩ (.int .i64 ((rd_T63 l0 x21_1).f0))).setCell ⟨gb463, 1, none⟩ (.int .i64 ((rd_T63 l0 x21_1).f1))).setCell ⟨gb463, 2, none⟩ (.int .i64 ((rd_T63 l0 x21_1).f2))).setCell ⟨gb463, 3, none⟩ (.int .i64 ((rd_T63 l0 x21_1).f3))).setCell ⟨gb463, 4, none⟩ (.int .i64 ((rd_T63 l0 x21_1).f4)))).cell? _ = some _ from hx465_0)); clear hn465_0; clear hn465_1; clear hn465_2; clear hn465_3; clear hn465_4; replace p465 := eq_true p465; replace q465 := eq_true q465)))
          go_roundg k1
          case measure => have := HK1.out; omega
          case rel => exact ⟨(x3_1), (wrap64 (x21_1 + 1)), att15_0_15, H', ⟨att15_0_18⟩, ⟨att15_0_3⟩, ⟨att15_0_4⟩, ⟨att15_0_2⟩, ⟨att15_0_6⟩⟩
        ·rw [if_neg c19] at H
         exact absurd H (by simp)
       ·replace c18 := Bool.eq_false_iff.mpr c18
        subst c18
        rw [if_neg (show ¬ (false = true) by decide)] at H
        have H' := Aside0.mk H
        clear H
        have p462 : 0 ≤ (x21_1 : Int) := of_decide_eq_true att15_0_5
        have q462 : x21_1 < (l0.length : Int) := of_decide_eq_true att15_0_5
        obtain ⟨ad462, e462, hx462_0, hx462_1, hx462_2, hx462_3, hx462_4⟩ := at_T63 HR0.out x21_1 p462 q462
        cases e462
        replace hx462_0 := (HB.out.cell (World.block_lt_of_cell? w _ hx462_0)).trans hx462_0
        replace hx462_1 := (HB.out.cell (World.block_lt_of_cell? w _ hx462_1)).trans hx462_1
        replace hx462_2 := (HB.out.cell (World.block_lt_of_cell? w _ hx462_2)).trans hx462_2
        replace hx462_3 := (HB.out.cell (World.block_lt_of_cell? w _ hx462_3)).trans hx462_3
        replace hx462_4 := (HB.out.cell (World.block_lt_of_cell? w _ hx462_4)).trans hx462_4
        replace p462 := eq_true p462
        replace q462 := eq_true q462
        go_wp2_with (first | ((with_reducible refine gate_dst (N := 7) rfl ?_); (try (refine gate_guard (by rfl) ?_; dsimp only)); refine box_event ?hg (N := 7) ?hd (cs := #[.int .i64 0, .int .i64 0, .int .i64 0, .int .i64 0, .int .i64 0]) (t := 63) ?hr ?_; (case hd => rfl); (case hg => rfl); (case hr => first | (go_simp; done) | (go_simp; rfl)); intro gb463 hg w48 hbox hb; have n0_ := Aside0.mk (Kd.R_below att15_0_8 hb); have n1_ := Aside0.mk (Kd.S_below att15_0_10 hb); have n2_ := Aside0.mk (Kd.R_below att15_0_7 hb); have n3_ := Aside0.mk (below_step att15_0_0 hb); have n4_ := Aside0.mk (hbox); have n5_ := Aside0.mk ((by rw [hg]; exact (below_size att15_0_0) : w.heap.size ≤ gb463)); have n6_ := Aside0.mk ((by rw [hg]; exact (below_size att15_0_0) : w.heap.size ≤ gb463)); clear HO_3; clear HO_4; clear HO_5; clear HB; have HO_3 := n0_; have HO_4 := n1_; have HO_5 := n2_; have HB := n3_; have BK463 := n4_; have GW463 := n5_; have GE463 := n6_; clear n0_ n1_ n2_ n3_ n4_ n5_ n6_; clear hb hbox hg; have hcz49_0 : w48.cell? ⟨gb463, 0, none⟩ = some (.int .i64 0) := (blk_cell BK463.out 0).trans rfl; have hcz49_1 : w48.cell? ⟨gb463, 1, none⟩ = some (.int .i64 0) := (blk_cell BK463.out 1).trans rfl; have hcz49_2 : w48.cell? ⟨gb463, 2, none⟩ = some (.int .i64 0) := (blk_cell BK463.out 2).trans rfl; have hcz49_3 : w48.cell? ⟨gb463, 3, none⟩ = some (.int .i64 0) := (blk_cell BK463.out 3).trans rfl; have hcz49_4 : w48.cell? ⟨gb463, 4, none⟩ = some (.int .i64 0) := (blk_cell BK463.out 4).trans rfl; have hfz49_0 := blk_frozen BK463.out 0; have hfz49_1 := blk_frozen BK463.out 1; have hfz49_2 := blk_frozen BK463.out 2; have hfz49_3 := blk_frozen BK463.out 3; have hfz49_4 := blk_frozen BK463.out 4) | (go_at_call 79; (with_reducible refine (impl_within.calls ((rd_T63 l0 x21_1).f0) 1 4 false _ A17.out).mono ?_); rintro e w' ⟨rfl, ⟨nd, rfl⟩⟩; (try first | exact ⟨rfl, _, World.drewN_drewN _ _ _⟩ | exact ⟨rfl, _, Eq.trans (World.drewN_drewN _ _ _) (congrArg (World.drewN _) (Nat.add_assoc _ _ _))⟩)))
        repeat (go_quiet (first | (go_at_call 79; (with_reducible refine (impl_within.calls ((rd_T63 l0 x21_1).f0) 1 4 false _ A17.out).mono ?_); rintro e w' ⟨rfl, ⟨nd, rfl⟩⟩; (try first | exact ⟨rfl, _, World.drewN_drewN _ _ _⟩ | exact ⟨rfl, _, Eq.trans (World.drewN_drewN _ _ _) (congrArg (World.drewN _) (Nat.add_assoc _ _ _))⟩))); try go_wp2_with (first | ((with_reducible refine gate_dst (N := 7) rfl ?_); (try (refine gate_guard (by rfl) ?_; dsimp only)); refine box_event ?hg (N := 7) ?hd (cs := #[.int .i64 0, .int .i64 0, .int .i64 0, .int .i64 0, .int .i64 0]) (t := 63) ?hr ?_; (case hd => rfl); (case hg => rfl); (case hr => first | (go_simp; done) | (go_simp; rfl)); intro gb463 hg w48 hbox hb; have n0_ := Aside0.mk (Kd.R_below att15_0_8 hb); have n1_ := Aside0.mk (Kd.S_below att15_0_10 hb); have n2_ := Aside0.mk (Kd.R_below att15_0_7 hb); have n3_ := Aside0.mk (below_step att15_0_0 hb); have n4_ := Aside0.mk (hbox); have n5_ := Aside0.mk ((by rw [hg]; exact (below_size att15_0_0) : w.heap.size ≤ gb463)); have n6_ := Aside0.mk ((by rw [hg]; exact (below_size att15_0_0) : w.heap.size ≤ gb463)); clear HO_3; clear HO_4; clear HO_5; clear HB; have HO_3 := n0_; have HO_4 := n1_; have HO_5 := n2_; have HB := n3_; have BK463 := n4_; have GW463 := n5_; have GE463 := n6_; clear n0_ n1_ n2_ n3_ n4_ n5_ n6_; clear hb hbox hg; have hcz49_0 : w48.cell? ⟨gb463, 0, none⟩ = some (.int .i64 0) := (blk_cell BK463.out 0).trans rfl; have hcz49_1 : w48.cell? ⟨gb463, 1, none⟩ = some (.int .i64 0) := (blk_cell BK463.out 1).trans rfl; have hcz49_2 : w48.cell? ⟨gb463, 2, none⟩ = some (.int .i64 0) := (blk_cell BK463.out 2).trans rfl; have hcz49_3 : w48.cell? ⟨gb463, 3, none⟩ = some (.int .i64 0) := (blk_cell BK463.out 3).trans rfl; have hcz49_4 : w48.cell? ⟨gb463, 4, none⟩ = some (.int .i64 0) := (blk_cell BK463.out 4).trans rfl; have hfz49_0 := blk_frozen BK463.out 0; have hfz49_1 := blk_frozen BK463.out 1; have hfz49_2 := blk_frozen BK463.out 2; have hfz49_3 := blk_frozen BK463.out 3; have hfz49_4 := blk_frozen BK463.out 4) | (go_at_call 79; (with_reducible refine (impl_within.calls ((rd_T63 l0 x21_1).f0) 1 4 false _ A17.out).mono ?_); rintro e w' ⟨rfl, ⟨nd, rfl⟩⟩; (try first | exact ⟨rfl, _, World.drewN_drewN _ _ _⟩ | exact ⟨rfl, _, Eq.trans (World.drewN_drewN _ _ _) (congrArg (World.drewN _) (Nat.add_assoc _ _ _))⟩))))
        go_roundg k1
        case measure => have := HK1.out; omega
        case rel => exact ⟨(x3_1), (wrap64 (x21_1 + 1)), att15_0_15, H', ⟨att15_0_18⟩, ⟨att15_0_3⟩, ⟨att15_0_4⟩, ⟨att15_0_2⟩, ⟨att15_0_6⟩⟩
      ·rw [if_neg c16] at H
       exact absurd H (by simp)
     ·rw [if_neg c15] at H
      exact absurd H (by simp)
    ·rw [if_neg c14] at H
     have c14b0 : decide (x21_1 < (l0.length : Int)) = false := decide_eq_false c14
     clear c14
     obtain rfl := Option.some.inj H
     go_wp2
     repeat (go_quiet (fail); try go_wp2)
     go_ret
     exact ⟨_, by first | rfl | (simp [errW_none, errW_some] <;> rfl) | (simp [*, errW_none, errW_some] <;> rfl), by (with_reducible repeat (first | apply Kd.R_alloc | apply Kd.R_drewN | apply Kd.R_drew)); exact HO_3.out, att15_0_0⟩
 ·replace c3 := Bool.eq_false_iff.mpr c3
  subst c3
  rw [if_neg (show ¬ (false = true) by decide)] at H
  obtain rfl := Option.some.inj H
  go_enter Try.func41, Try.ntmps41
  go_wp2_with (first | ((with_reducible refine gate_dst (N := 9) rfl ?_); (try (refine gate_guard (by rfl) ?_; dsimp only)); refine Kd.R_lit (Kd.int .i64) _ 3 ?hg (N := 9) ?hd (xs := ([] : List Int)) (inner := []) (ok := fun _ => True) (okp := fun _ => True) ?hr ?hp (fun _ hk => hk) trivial (Below.refl _ _) (Nat.le_refl _) (by simp) ?_; (case hd => rfl); (case hg => rfl); (case hr => first | (go_simp; done) | (go_simp; rfl)); (case hp => exact (Reps.none _ _)); intro v450 w50 ho51 hb hg_ hnew_; clear hg_ hnew_; (first | rw [← Ny449.out] at ho51 | (simp only [Int.reduceToNat] at ho51; rw [← Ny449.out] at ho51)); have n0_ := Aside0.mk (Kd.R_lower ho51 (below_size att15_0_0)); have n1_ := Aside0.mk (below_step att15_0_0 hb); clear HB; have HO451 := n0_; have HB := n1_; clear n0_ n1_; clear hb ho51) | (go_at_call 34; (with_reducible refine (impl_BodyOk.calls k _ _ l0 3 false _ ?side1 ?side2 A2.out).mono ?_); (case side1 => repeat (first | exact (Kd.C_below HR0.out HB.out) | (with_reducible refine Kd.C_alloc ?_ _) | (with_reducible refine Kd.C_drewN ?_ _) | (with_reducible refine Kd.C_drew ?_))); (case side2 => exact HC0.out); rintro e w52 ⟨rfl, hb⟩; have n0_ := Aside0.mk (Kd.R_below att15_0_9 hb); have n1_ := Aside0.mk (below_step att15_0_0 hb); clear HO451; clear HB; have HO451 := n0_; have HB := n1_; clear n0_ n1_; (try clear hb); (try clear hb2); (try clear hk); (try clear hi)))
  repeat (go_quiet (fail); try go_wp2_with (first | ((with_reducible refine gate_dst (N := 9) rfl ?_); (try (refine gate_guard (by rfl) ?_; dsimp only)); refine Kd.R_lit (Kd.int .i64) _ 3 ?hg (N := 9) ?hd (xs := ([] : List Int)) (inner := []) (ok := fun _ => True) (okp := fun _ => True) ?hr ?hp (fun _ hk => hk) trivial (Below.refl _ _) (Nat.le_refl _) (by simp) ?_; (case hd => rfl); (case hg => rfl); (case hr => first | (go_simp; done) | (go_simp; rfl)); (case hp => exact (Reps.none _ _)); intro v450 w50 ho51 hb hg_ hnew_; clear hg_ hnew_; (first | rw [← Ny449.out] at ho51 | (simp only [Int.reduceToNat] at ho51; rw [← Ny449.out] at ho51)); have n0_ := Aside0.mk (Kd.R_lower ho51 (below_size att15_0_0)); have n1_ := Aside0.mk (below_step att15_0_0 hb); clear HB; have HO451 := n0_; have HB := n1_; clear n0_ n1_; clear hb ho51) | (go_at_call 34; (with_reducible refine (impl_BodyOk.calls k _ _ l0 3 false _ ?side1 ?side2 A2.out).mono ?_); (case side1 => repeat (first | exact (Kd.C_below HR0.out HB.out) | (with_reducible refine Kd.C_alloc ?_ _) | (with_reducible refine Kd.C_drewN ?_ _) | (with_reducible refine Kd.C_drew ?_))); (case side2 => exact HC0.out); rintro e w52 ⟨rfl, hb⟩; have n0_ := Aside0.mk (Kd.R_below att15_0_9 hb); have n1_ := Aside0.mk (below_step att15_0_0 hb); clear HO451; clear HB; have HO451 := n0_; have HB := n1_; clear n0_ n1_; (try clear hb); (try clear hb2); (try clear hk); (try clear hi))))
  go_ret
  exact ⟨_, by first | rfl | (simp [errW_none, errW_some] <;> rfl) | (simp [*, errW_none, errW_some] <;> rfl), by (with_reducible repeat (first | apply Kd.R_alloc | apply Kd.R_drewN | apply Kd.R_drew)); exact HO451.out, att15_0_0⟩

/-! ### impl_copyBody: function 66 -/
def impl_copyBody.f (l0 : List (S63)) : Option ((List (S63))) := (some (([] : List (S63)) : List (S63))).bind fun y471 => (if y471.length + l0.length < 3518437208883 then (some (y471 ++ l0)) else (none))
set_option maxHeartbeats 80000000 in
set_option maxRecDepth 100000 in
theorem impl_copyBody.calls (A0 : Option Addr) (c0 : Nat) (l0 : List (S63)) (r : List (S63)) (w : World) (hr0 : Kd.C k63 w A0 l0.length l0) (hc0 : l0.length ≤ c0) (h : impl_copyBody.f l0 = some r) :
  Calls Try.prog 66 #[.slice A0 l0.length c0] w fun e w' => ∃ v0_ : Value, e = .returned (v0_) ∧ Kd.R k63 63 w' w.heap.size (fun _ => True) v0_ r ∧ Below w.heap.size w w' := by
 have HR0 := Aside0.mk hr0
 have HC0 := Aside0.mk hc0
 clear hr0 hc0
 have HB := Aside0.mk (Below.refl w.heap.size w)
 have H : ((some (([] : List (S63)) : List (S63))).bind fun y471 => (if y471.length + l0.length < 3518437208883 then (some (y471 ++ l0)) else (none))) = some r := h
 clear h
 obtain ⟨y471, hy471⟩ : ∃ y_ : List (S63), y_ = (([] : List (S63))) := ⟨_, rfl⟩
 replace H : (if y471.length + l0.length < 3518437208883 then (some (y471 ++ l0)) else (none)) = some r := by first | (rw [hy471]; with_reducible exact H) | (have H2_ := (Option.bind_some _ _).symm.trans H; rw [hy471]; with_reducible exact H2_) | (have H2_ := (Option.bind_some _ _).symm.trans H; with_reducible exact H2_) | with_reducible exact H | (rw [hy471]; exact H) | exact H
 have Ny471 := Aside0.mk hy471
 clear hy471
 by_cases c2 : y471.length + l0.length < 3518437208883
 ·rw [if_pos c2] at H
  have LMc2 := Aside0.mk c2
  clear c2
  obtain ⟨y474, hy474⟩ : ∃ y_ : List (S63), y_ = (y471 ++ l0) := ⟨_, rfl⟩
  replace H : (some y474) = some r := by first | (rw [hy474]; with_reducible exact H) | (have H2_ := (Option.bind_some _ _).symm.trans H; rw [hy474]; with_reducible exact H2_) | (have H2_ := (Option.bind_some _ _).symm.trans H; with_reducible exact H2_) | with_reducible exact H | (rw [hy474]; exact H) | exact H
  have Ny474 := Aside0.mk hy474
  clear hy474
  obtain rfl := Option.some.inj H
  go_enter Try.func66, Try.ntmps66
  go_wp2_with (first | ((with_reducible refine gate_dst (N := 3) rfl ?_); refine Kd.R_lit k63 _ 63 ?hg (N := 3) ?hd (xs := ([] : List (S63))) (inner := []) (ok := fun _ => True) (okp := fun _ => True) ?hr ?hp (fun _ hk => hk) trivial (Below.refl _ _) (Nat.le_refl _) (by simp) ?_; (case hd => rfl); (case hg => rfl); (case hr => first | (go_simp; done) | (go_simp; rfl)); (case hp => exact (Reps.none _ _)); intro v472 w3 ho4 hb hg_ hnew_; clear hg_ hnew_; (first | rw [← Ny471.out] at ho4 | (simp only [Int.reduceToNat] at ho4; rw [← Ny471.out] at ho4)); have n0_ := Aside0.mk (Kd.R_lower ho4 (below_size att15_0_0)); have n1_ := Aside0.mk (below_step att15_0_0 hb); clear HB; have HO473 := n0_; have HB := n1_; clear n0_ n1_; clear hb ho4) | ((with_reducible refine gate_builtin (b := .append) (xs := #[.tmp 3, .tmp 4]) rfl ?_); at_builtin; refine Kd.R_append_rows k63 (w0 := w) w.heap.size rfl (.tmp 3) (.tmp 4) 24 63 (.agg #[(.int .i64 0), (.int .i64 0), (.int .i64 0), (.int .i64 0), (.int .i64 0)]) 40 rfl Try.underlying24 info63 rfl (by decide) (by omega) v472 y471 l0 _ _ _ (fun _ => True) (fun _ => False) rfl rfl ?aO ?aR (fun _ _ h => h) (fun _ h => h.elim) ?aF ?aB ?aS ?aL ?_; (case aR => repeat (first | exact (Kd.C_below HR0.out HB.out) | (with_reducible refine Kd.C_alloc ?_ _) | (with_reducible refine Kd.C_drewN ?_ _) | (with_reducible refine Kd.C_drew ?_))); (case aB => exact att15_0_0); (case aF => exact (fun _ _ => trivial)); (case aO => exact (by (with_reducible repeat (first | apply Kd.R_alloc | apply Kd.R_drewN | apply Kd.R_drew)); exact HO473.out)); (case aS => exact (below_size att15_0_0)); (case aL => have := LMc2.out; omega); intro v475 w5 ho hb hg hat; rw [← Ny474.out] at ho; have n0_ := Aside0.mk (hb); have n1_ := Aside0.mk (ho); clear HB; clear HO473; have HB := n0_; have HO476 := n1_; clear n0_ n1_; clear ho hb hg hat))
  go_ret
  exact ⟨_, by first | rfl | (simp [errW_none, errW_some] <;> rfl) | (simp [*, errW_none, errW_some] <;> rfl), by (with_reducible repeat (first | apply Kd.R_alloc | apply Kd.R_drewN | apply Kd.R_drew)); exact HO476.out, att15_0_0⟩
 ·rw [if_neg c2] at H
  exact absurd H (by simp)

/-! ### impl_TrimBody: function 51 -/
def impl_TrimBody.l0 : Nat → List (S63) → List Int → Int → Int → Option ((List (S63)))
 | 0, _, _, _, _ => none
 | k + 1, x3, x9, x10, x11 => if x11 < x10 then (if 0 ≤ x11 then (if x11 < (x9.length : Int) then (if 0 ≤ (rd x9 x11) then (if (rd x9 x11) < (x3.length : Int) then (impl_TrimBody.l0 k (x3.set ((rd x9 x11) : Int).toNat (⟨11, 0, 0, 0, wrap64 ((rd x9 x11) + 1)⟩ : S63)) x9 x10 (wrap64 (x11 + 1))) else (none)) else (none)) else (none)) else (none)) else (some x3)
def impl_TrimBody.f (k : Nat) (l0 : List (S63)) : Option ((List (S63))) := (impl_copyBody.f l0).bind fun t477 => ((impl_DeadAt.f k l0).bind fun t480 => (impl_TrimBody.l0 k t477 t480 (t480.length : Int) 0))
theorem impl_TrimBody.mono_l : ∀ k, (∀ y0 y1 y2 y3, LeO (impl_TrimBody.l0 k y0 y1 y2 y3) (impl_TrimBody.l0 (k + 1) y0 y1 y2 y3))
 | 0 => fun _ _ _ _ r h => by simp [impl_TrimBody.l0] at h
 | k + 1 => by
  have ih0 := impl_TrimBody.mono_l k
  ·intro y0 y1 y2 y3
   unfold impl_TrimBody.l0
   repeat' first
   | (with_reducible exact ih0 _ _ _ _)
   | (with_reducible exact impl_DeadAt.mono _ _)
   | (with_reducible exact LeO.refl _)
   | (with_reducible exact LeO.none _)
   | (with_reducible refine LeO.ite ?_ ?_)
   | (with_reducible refine LeO.bind ?_ (fun _ => ?_))
   | exact ih0 _ _ _ _
   | exact impl_DeadAt.mono _ _
   | exact LeO.none _
   | refine LeO.ite ?_ ?_
   | refine LeO.bind ?_ (fun _ => ?_)
theorem impl_TrimBody.mono : ∀ a0 k, LeO (impl_TrimBody.f k a0) (impl_TrimBody.f (k + 1) a0) := by
 intro a0 k
 have ih0 := impl_TrimBody.mono_l k
 unfold impl_TrimBody.f
 repeat' first
   | (with_reducible exact ih0 _ _ _ _)
   | (with_reducible exact impl_DeadAt.mono _ _)
   | (with_reducible exact LeO.refl _)
   | (with_reducible exact LeO.none _)
   | (with_reducible refine LeO.ite ?_ ?_)
   | (with_reducible refine LeO.bind ?_ (fun _ => ?_))
   | exact ih0 _ _ _ _
   | exact impl_DeadAt.mono _ _
   | exact LeO.none _
   | refine LeO.ite ?_ ?_
   | refine LeO.bind ?_ (fun _ => ?_)
set_option maxHeartbeats 80000000 in
set_option maxRecDepth 100000 in
theorem impl_TrimBody.calls (k : Nat) (A0 : Option Addr) (c0 : Nat) (l0 : List (S63)) (r : List (S63)) (w : World) (hr0 : Kd.C k63 w A0 l0.length l0) (hc0 : l0.length ≤ c0) (h : impl_TrimBody.f k l0 = some r) :
  Calls Try.prog 51 #[.slice A0 l0.length c0] w fun e w' => ∃ v0_ : Value, e = .returned (v0_) ∧ Kd.R k63 63 w' w.heap.size (fun _ => True) v0_ r ∧ Below w.heap.size w w' := by
 have hu63 := Try.underlying63
 have HR0 := Aside0.mk hr0
 have HC0 := Aside0.mk hc0
 clear hr0 hc0
 have HB := Aside0.mk (Below.refl w.heap.size w)
 have H : ((impl_copyBody.f l0).bind fun t477 => ((impl_DeadAt.f k l0).bind fun t480 => (impl_TrimBody.l0 k t477 t480 (t480.length : Int) 0))) = some r := h
 clear h
 replace H := Option.bind_eq_some_iff.mp H
 obtain ⟨t477, A20, H⟩ := H
 (try dsimp only at H)
 have A2 := Aside0.mk A20
 clear A20
 replace H := Option.bind_eq_some_iff.mp H
 obtain ⟨t480, A30, H⟩ := H
 (try dsimp only at H)
 have A3 := Aside0.mk A30
 clear A30
 have H' := Aside0.mk H
 clear H
 go_enter Try.func51, Try.ntmps51
 go_wp2_with (first | ((with_reducible refine gate_callee (f := 66) rfl ?_); refine goesL_ (some 7) rfl rfl Try.func66 (by kernel_rfl) rfl #[.slice A0 l0.length c0] rfl att15_0_12 ?_; (with_reducible refine (impl_copyBody.calls _ _ l0 t477 _ ?side1 ?side2 A2.out).mono ?_); (case side1 => repeat (first | exact HR0.out | (with_reducible refine Kd.C_alloc ?_ _) | (with_reducible refine Kd.C_drewN ?_ _) | (with_reducible refine Kd.C_drew ?_))); (case side2 => exact HC0.out); rintro e w4 ⟨v478, rfl, ho0, hb⟩; refine ⟨_, rfl, ?_⟩; have n0_ := Aside0.mk (Kd.R_lower ho0 (below_size att15_0_0)); have n1_ := Aside0.mk (below_step att15_0_0 hb); clear HB; have HO479 := n0_; have HB := n1_; clear n0_ n1_; (try clear hb); (try clear hb2); (try clear hk); (try clear hi); (try clear ho0)) | ((with_reducible refine gate_callee (f := 41) rfl ?_); refine goesL_ (some 9) rfl rfl Try.func41 (by kernel_rfl) rfl #[.slice A0 l0.length c0] rfl att15_0_12 ?_; (with_reducible refine (impl_DeadAt.calls k _ _ l0 t480 _ ?side1 ?side2 A3.out).mono ?_); (case side1 => repeat (first | exact (Kd.C_below HR0.out HB.out) | (with_reducible refine Kd.C_alloc ?_ _) | (with_reducible refine Kd.C_drewN ?_ _) | (with_reducible refine Kd.C_drew ?_))); (case side2 => exact HC0.out); rintro e w5 ⟨v481, rfl, ho0, hb⟩; refine ⟨_, rfl, ?_⟩; have n0_ := Aside0.mk (Kd.R_below att15_0_20 hb); have n1_ := Aside0.mk (Kd.R_lower ho0 (below_size att15_0_0)); have n2_ := Aside0.mk (below_step att15_0_0 hb); clear HO479; clear HB; have HO479 := n0_; have HO482 := n1_; have HB := n2_; clear n0_ n1_ n2_; (try clear hb); (try clear hb2); (try clear hk); (try clear hi); (try clear ho0); obtain ⟨Ao6, co6, eo6⟩ := Kd.R_slice HO482.out; subst eo6))
 go_loopg [11] k (fun kq v11 w' => ∃ (x3_1 : List (S63)) (x11_1 : Int), v11 = .int .i64 x11_1 ∧ Aside0 (impl_TrimBody.l0 kq x3_1 t480 (t480.length : Int) x11_1 = some r) ∧ Aside0 (kq ≤ k) ∧ Aside0 (Kd.R k63 63 w' w.heap.size (fun _ => True) v478 x3_1) ∧ Aside0 (Kd.R (Kd.int .i64) 3 w' w.heap.size (fun _ => True) (.slice Ao6 t480.length co6) t480) ∧ Aside0 (Below w.heap.size w w'))
 case atStart => exact ⟨(t477), (0), att15_0_15, H', ⟨Nat.le_refl _⟩, ⟨att15_0_20⟩, ⟨by (with_reducible repeat (first | apply Kd.R_alloc | apply Kd.R_drewN | apply Kd.R_drew)); exact HO482.out⟩, ⟨att15_0_0⟩⟩
 case round =>
  clear H'
  try clear p2
  try clear c4
  try clear c5
  try clear c6
  obtain ⟨x3_1, x11_1, rfl, HA, HK1, HO_3, HO_9, HB⟩ := hrel
  cases gk with
  | zero => exact absurd HA.out (by simp [impl_TrimBody.l0])
  | succ k1 =>
   have H := HA.out
   clear HA
   simp only [impl_TrimBody.l0] at H
   by_cases c7 : x11_1 < (t480.length : Int)
   ·rw [if_pos c7] at H
    have c7b0 : decide (x11_1 < (t480.length : Int)) = true := decide_eq_true c7
    clear c7
    by_cases c8 : 0 ≤ x11_1
    ·rw [if_pos c8] at H
     have c8b0 : decide (0 ≤ x11_1) = true := decide_eq_true c8
     clear c8
     by_cases c9 : x11_1 < (t480.length : Int)
     ·rw [if_pos c9] at H
      have c9b0 : decide (x11_1 < (t480.length : Int)) = true := decide_eq_true c9
      clear c9
      by_cases c10 : 0 ≤ (rd t480 x11_1)
      ·rw [if_pos c10] at H
       have c10b0 : decide (0 ≤ (rd t480 x11_1)) = true := decide_eq_true c10
       clear c10
       by_cases c11 : (rd t480 x11_1) < (x3_1.length : Int)
       ·rw [if_pos c11] at H
        have c11b0 : decide ((rd t480 x11_1) < (x3_1.length : Int)) = true := decide_eq_true c11
        clear c11
        obtain ⟨y484, hy484⟩ : ∃ y_ : List (S63), y_ = (x3_1.set ((rd t480 x11_1) : Int).toNat (⟨11, 0, 0, 0, wrap64 ((rd t480 x11_1) + 1)⟩ : S63)) := ⟨_, rfl⟩
        replace H : (impl_TrimBody.l0 k1 y484 t480 (t480.length : Int) (wrap64 (x11_1 + 1))) = some r := by first | (rw [hy484]; with_reducible exact H) | (have H2_ := (Option.bind_some _ _).symm.trans H; rw [hy484]; with_reducible exact H2_) | (have H2_ := (Option.bind_some _ _).symm.trans H; with_reducible exact H2_) | with_reducible exact H | (rw [hy484]; exact H) | exact H
        have Ny484 := Aside0.mk hy484
        clear hy484
        have H' := Aside0.mk H
        clear H
        have p483 : 0 ≤ (x11_1 : Int) := of_decide_eq_true att15_0_5
        have q483 : x11_1 < (t480.length : Int) := of_decide_eq_true att15_0_5
        obtain ⟨ad483, e483, hx483_0⟩ := Kd.at_int (Kd.R_reads' HO_9.out).2.2 x11_1 p483 q483
        cases e483
        replace p483 := eq_true p483
        replace q483 := eq_true q483
        have p12 : 0 ≤ ((rd t480 x11_1) : Int) := of_decide_eq_true att15_0_5
        have q12 : ((rd t480 x11_1) : Int) < ((x3_1.length : Int) : Int) := of_decide_eq_true att15_0_5
        obtain ⟨go12, co12, eo12, gb12, gl12, cl12, HG12⟩ := Kd.R_form HO_3.out (by omega)
        (first | cases eo12 | (injection eo12 with ea_ en_ ec_; (first | subst ea_ | (injection ea_ with ea_; subst ea_)); subst ec_; clear en_))
        have GB12 := Aside0.mk gb12
        have GG12 := Aside0.mk HG12
        clear gb12 gl12 HG12
        obtain ⟨ce12, hcl12, hM12, hcc12, hfr12⟩ := Kd.R_elem HO_3.out z63 ((rd t480 x11_1) : Int) p12 q12
        obtain rfl := k63_openM hM12
        have hx12_0 : wr.cell? ⟨go12, ((rd t480 x11_1) : Int).toNat * 5, none⟩ = some (.int .i64 ((rd_T63 x3_1 (rd t480 x11_1)).f0)) := hcc12 0 _ rfl
        have hx12_1 : wr.cell? ⟨go12, ((rd t480 x11_1) : Int).toNat * 5 + 1, none⟩ = some (.int .i64 ((rd_T63 x3_1 (rd t480 x11_1)).f1)) := hcc12 1 _ rfl
        have hx12_2 : wr.cell? ⟨go12, ((rd t480 x11_1) : Int).toNat * 5 + 2, none⟩ = some (.int .i64 ((rd_T63 x3_1 (rd t480 x11_1)).f2)) := hcc12 2 _ rfl
        have hx12_3 : wr.cell? ⟨go12, ((rd t480 x11_1) : Int).toNat * 5 + 3, none⟩ = some (.int .i64 ((rd_T63 x3_1 (rd t480 x11_1)).f3)) := hcc12 3 _ rfl
        have hx12_4 : wr.cell? ⟨go12, ((rd t480 x11_1) : Int).toNat * 5 + 4, none⟩ = some (.int .i64 ((rd_T63 x3_1 (rd t480 x11_1)).f4)) := hcc12 4 _ rfl
        have hf12_0 : wr.frozen? ⟨go12, ((rd t480 x11_1) : Int).toNat * 5, none⟩ = false := hfr12 0
        have hf12_1 : wr.frozen? ⟨go12, ((rd t480 x11_1) : Int).toNat * 5 + 1, none⟩ = false := hfr12 1
        have hf12_2 : wr.frozen? ⟨go12, ((rd t480 x11_1) : Int).toNat * 5 + 2, none⟩ = false := hfr12 2
        have hf12_3 : wr.frozen? ⟨go12, ((rd t480 x11_1) : Int).toNat * 5 + 3, none⟩ = false := hfr12 3
        have hf12_4 : wr.frozen? ⟨go12, ((rd t480 x11_1) : Int).toNat * 5 + 4, none⟩ = false := hfr12 4
        clear hcl12 hcc12 hfr12 hM12
        replace p12 := eq_true p12
        replace q12 := eq_true q12
        have HX13 := Aside0.mk (show Kd.R k63 63 wr w.heap.size (fun _ => True) (.slice (some ⟨go12, 0, none⟩) x3_1.length co12) x3_1 from att15_0_8)
        obtain ⟨ce13, hcl13, hM13, hcc13, hfr13⟩ := Kd.R_elem HX13.out z63 ((rd t480 x11_1) : Int) (of_decide_eq_true att15_0_5) att15_1_1
        obtain rfl := k63_openM hM13
        have HP13 := Kd.R_seg HX13.out ((rd t480 x11_1) : Int) (of_decide_eq_true att15_0_5) att15_1_1 (seg := [.int .i64 11, .int .i64 0, .int .i64 0, .int .i64 0, .int .i64 (wrap64 ((rd t480 x11_1) + 1))]) (j := 0) hcl13 hcc13 (show 5 ≤ 5 from by decide) (x' := (⟨11, 0, 0, 0, wrap64 ((rd t480 x11_1) + 1)⟩ : S63)) (k63_mkM _ _ _ (⟨11, 0, 0, 0, wrap64 ((rd t480 x11_1) + 1)⟩ : S63) ) (fun _ hk => hk)
        have hx13_0 := hcc13 0 _ rfl
        (try simp only [show (k63).sz = 5 from rfl, Nat.mul_one, Nat.add_zero] at hx13_0)
        have hf13_0 := hfr13 0
        (try simp only [show (k63).sz = 5 from rfl, Nat.mul_one, Nat.add_zero] at hf13_0)
        have hx13_1 := hcc13 1 _ rfl
        (try simp only [show (k63).sz = 5 from rfl, Nat.mul_one, Nat.add_zero] at hx13_1)
        have hf13_1 := hfr13 1
        (try simp only [show (k63).sz = 5 from rfl, Nat.mul_one, Nat.add_zero] at hf13_1)
        have hx13_2 := hcc13 2 _ rfl
        (try simp only [show (k63).sz = 5 from rfl, Nat.mul_one, Nat.add_zero] at hx13_2)
        have hf13_2 := hfr13 2
        (try simp only [show (k63).sz = 5 from rfl, Nat.mul_one, Nat.add_zero] at hf13_2)
        have hx13_3 := hcc13 3 _ rfl
        (try simp only [show (k63).sz = 5 from rfl, Nat.mul_one, Nat.add_zero] at hx13_3)
        have hf13_3 := hfr13 3
        (try simp only [show (k63).sz = 5 from rfl, Nat.mul_one, Nat.add_zero] at hf13_3)
        have hx13_4 := hcc13 4 _ rfl
        (try simp only [show (k63).sz = 5 from rfl, Nat.mul_one, Nat.add_zero] at hx13_4)
        have hf13_4 := hfr13 4
        (try simp only [show (k63).sz = 5 from rfl, Nat.mul_one, Nat.add_zero] at hf13_4)
        clear hcl13 hcc13 hfr13 hM13
        go_wp2_with (first | ((with_reducible refine gate_store (t := 63) (p := 20) rfl ?_); refine store_event (t := 63) (p := 20) (v := ?vo_w14) (w1 := (((((wr.setCell ⟨go12, ((rd t480 x11_1) : Int).toNat * 5, none⟩ (.int .i64 11)).setCell ⟨go12, ((rd t480 x11_1) : Int).toNat * 5 + 1, none⟩ (.int .i64 0)).setCell ⟨go12, ((rd t480 x11_1) : Int).toNat * 5 + 2, none⟩ (.int .i64 0)).setCell ⟨go12, ((rd t480 x11_1) : Int).toNat * 5 + 3, none⟩ (.int .i64 0)).setCell ⟨go12, ((rd t480 x11_1) : Int).toNat * 5 + 4, none⟩ (.int .i64 (wrap64 ((rd t480 x11_1) + 1))))) ?hg ?ho ?hn ?hr ?_; (case ho => rfl); (case hg => rfl); (case hn => rfl); (case hr => first | (go_simp; done) | (go_simp; rfl)); intro w14 hw; have hg : wr.grownBy w14 (some go12) := (by rw [hw]; exact HP13.2); have hp_ : Kd.R k63 63 w14 w.heap.size (fun _ => True) (.slice (some ⟨go12, 0, none⟩) x3_1.length co12) y484 := (by rw [hw, Ny484.out]; exact HP13.1); clear HP13; have n0_ := Aside0.mk (hp_); have n1_ := Aside0.mk (Kd.R_over' (v := (.slice (some ⟨go12, 0, none⟩) x3_1.length co12)) att15_0_24 (Kd.R_typed HO_3.out) (by decide) hg); have n2_ := Aside0.mk ((by rw [hw]; exact below_set (below_set (below_set (below_set (below_set (HB.out) GB12.out) GB12.out) GB12.out) GB12.out) GB12.out : Below w.heap.size w w14)); clear HO_3; clear HO_9; clear HB; have HO_3 := n0_; have HO_9 := n1_; have HB := n2_; clear n0_ n1_ n2_; clear hg hw hp_))
        go_roundg k1
        case measure => have := HK1.out; omega
        case rel => exact ⟨(y484), (wrap64 (x11_1 + 1)), att15_0_15, H', ⟨att15_0_18⟩, ⟨att15_0_8⟩, ⟨att15_0_24⟩, ⟨att15_0_0⟩⟩
       ·rw [if_neg c11] at H
        exact absurd H (by simp)
      ·rw [if_neg c10] at H
       exact absurd H (by simp)
     ·rw [if_neg c9] at H
      exact absurd H (by simp)
    ·rw [if_neg c8] at H
     exact absurd H (by simp)
   ·rw [if_neg c7] at H
    have c7b0 : decide (x11_1 < (t480.length : Int)) = false := decide_eq_false c7
    clear c7
    obtain rfl := Option.some.inj H
    go_wp2
    go_ret
    exact ⟨_, by first | rfl | (simp [errW_none, errW_some] <;> rfl) | (simp [*, errW_none, errW_some] <;> rfl), by (with_reducible repeat (first | apply Kd.R_alloc | apply Kd.R_drewN | apply Kd.R_drew)); exact HO_3.out, att15_0_0⟩

end Go.Proofs.Ytocimkpafakiaaa.XFnExactTrimBody
