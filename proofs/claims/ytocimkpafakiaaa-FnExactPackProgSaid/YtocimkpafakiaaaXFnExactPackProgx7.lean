/- Each Go function that the law reaches as a Lean function, and that Go comes to just its answer; written by this session's xprint.py over the kit's printer. -/
import Derived.Test.YtocimkpafakiaaaXFnExactPackProgx0
namespace Go.Proofs.Ytocimkpafakiaaa.XFnExactPackProg
open Go.RowKit Go.Proofs.YtocimkpafakiaaaW.PrintWords Go.Proofs.YtocimkpafakiaaaW.PrintLast Go.Proofs.YtocimkpafakiaaaW.PrintMore
attribute [local go_sem] max2_int min2_int max_two min_two max_three min_three max_four min_four   -- for this text's walks alone
set_option linter.unusedVariables false
set_option linter.unusedSimpArgs false

theorem att8_0_0 {p : Prop} (h : p := by repeat (first | (with_reducible first | exact HB.out | apply below_alloc | apply pw_below_drewN | apply below_drew1 | refine below_set ?_ GE237.out | refine below_set ?_ GE238.out | refine below_set ?_ GE245.out) | exact HB.out)) : p := h
theorem att8_0_1 {p : Prop} (h : p := by repeat (first | (with_reducible first | exact HB.out | apply below_alloc | apply pw_below_drewN | apply below_drew1 | refine below_set ?_ GE237.out | refine below_set ?_ GE238.out) | exact HB.out)) : p := h
theorem att8_0_2 {p : Prop} (h : p := by (with_reducible repeat (first | refine blk_drewN ?_ _ | refine blk_drew ?_ | refine blk_alloc ?_ _)); exact BK237.out) : p := h
theorem att8_0_3 {p : Prop} (h : p := by (with_reducible repeat (first | refine blk_drewN ?_ _ | refine blk_drew ?_ | refine blk_alloc ?_ _)); exact BK238.out) : p := h
theorem att8_0_4 {p : Prop} (h : p := by repeat (first | (with_reducible first | exact HB.out | apply below_alloc | apply pw_below_drewN | apply below_drew1 | refine below_set ?_ GE237.out) | exact HB.out)) : p := h
theorem att8_0_5 {p : Prop} (h : p := by repeat (first | (with_reducible first | exact HB.out | apply below_alloc | apply pw_below_drewN | apply below_drew1) | exact HB.out)) : p := h
theorem att8_0_6 {p : Prop} (h : p := by (with_reducible repeat (first | refine blk_drewN ?_ _ | refine blk_drew ?_ | refine blk_alloc ?_ _)); exact BK245.out) : p := h
theorem att8_0_7 {p : Prop} (h : p := by (with_reducible repeat (first | apply Kd.S_alloc | apply Kd.S_drewN | apply Kd.S_drew)); exact HO_246001.out) : p := h
theorem att8_0_8 {p : Prop} (h : p := by (with_reducible repeat (first | apply Kd.R_alloc | apply Kd.R_drewN | apply Kd.R_drew)); exact HO_246000.out) : p := h
theorem att8_0_9 {p : Prop} (h : p := by rintro w' ⟨s0, s1, s2, s3, s4⟩; go_simp; with_reducible rfl) : p := h
theorem att8_0_10 {p : Prop} (h : p := by (with_reducible repeat (first | apply Kd.R_alloc | apply Kd.R_drewN | apply Kd.R_drew)); exact HO248.out) : p := h
/-! ### spec_l17Prog: function 102 -/
def spec_l17Prog.l0 : Nat → Int → List Int → List (List (S63)) → List Int → List (List (S63)) → Option (List Int × (List (List (S63))))
 | 0, _, _, _, _, _ => none
 | k + 1, x4, x238000, x238001, x246000, x246001 => if x4 < (x238001.length : Int) then ((some (([] : List (S63)) : List (S63))).bind fun y246 => (if 0 ≤ x4 then (if y246.length + (rd_L5 x238001 x4).length < 3518437208883 then (if x246001.length < 5864062014805 then (spec_l17Prog.l0 k (wrap64 (x4 + 1)) x238000 x238001 x246000 (x246001 ++ [(y246 ++ (rd_L5 x238001 x4))])) else (none)) else (none)) else (none))) else (some (x246000, x246001))
def spec_l17Prog.f (k : Nat) (l0_0 : List Int) (l0_1 : List (List (S63))) : Option (List Int × (List (List (S63)))) := (some (([] : List Int) : List Int)).bind fun y239 => (if y239.length + l0_0.length < 17592186044416 then (spec_l17Prog.l0 k 0 l0_0 l0_1 (y239 ++ l0_0) ([] : List (List (S63)))) else (none))
theorem spec_l17Prog.mono_l : ∀ k, (∀ y0 y1 y2 y3 y4, LeO (spec_l17Prog.l0 k y0 y1 y2 y3 y4) (spec_l17Prog.l0 (k + 1) y0 y1 y2 y3 y4))
 | 0 => fun _ _ _ _ _ r h => by simp [spec_l17Prog.l0] at h
 | k + 1 => by
  have ih0 := spec_l17Prog.mono_l k
  ·intro y0 y1 y2 y3 y4
   unfold spec_l17Prog.l0
   repeat' first
   | (with_reducible exact ih0 _ _ _ _ _)
   | (with_reducible exact LeO.refl _)
   | (with_reducible exact LeO.none _)
   | (with_reducible refine LeO.ite ?_ ?_)
   | (with_reducible refine LeO.bind ?_ (fun _ => ?_))
   | exact ih0 _ _ _ _ _
   | exact LeO.none _
   | refine LeO.ite ?_ ?_
   | refine LeO.bind ?_ (fun _ => ?_)
theorem spec_l17Prog.mono : ∀ a0 a1 k, LeO (spec_l17Prog.f k a0 a1) (spec_l17Prog.f (k + 1) a0 a1) := by
 intro a0 a1 k
 have ih0 := spec_l17Prog.mono_l k
 unfold spec_l17Prog.f
 repeat' first
   | (with_reducible exact ih0 _ _ _ _ _)
   | (with_reducible exact LeO.refl _)
   | (with_reducible exact LeO.none _)
   | (with_reducible refine LeO.ite ?_ ?_)
   | (with_reducible refine LeO.bind ?_ (fun _ => ?_))
   | exact ih0 _ _ _ _ _
   | exact LeO.none _
   | refine LeO.ite ?_ ?_
   | refine LeO.bind ?_ (fun _ => ?_)
def spec_l17Prog.T5 : Bool × List (List Nat × List Nat) := (true, [([], []), ([0], [0]), ([], []), ([], []), ([3], [3]), ([], []), ([4, 5], [4, 5]), ([6], [6]), ([2, 7], [2, 7]), ([8], [8]), ([1, 9, 8], [1, 9]), ([0, 1, 2, 3, 4, 5, 6, 7, 8, 9, 10], []), ([11, 10, 10, 0, 1, 2, 3, 4, 5, 6, 7, 8, 9, 10], [10, 11])])
def spec_l17Prog.B5 : List Nat := [0, 1, 0, 0, 8, 0, 56, 120, 252, 508, 1023, 2047, 4095]
theorem spec_l17Prog.tab5 : rtab .any (opsOf Try.f102 5) = spec_l17Prog.T5 := by kernel_rfl
theorem spec_l17Prog.bits5 : waitsOk spec_l17Prog.T5.2 spec_l17Prog.B5 = true := by kernel_rfl
set_option maxHeartbeats 80000000 in
set_option maxRecDepth 100000 in
theorem spec_l17Prog.calls (k : Nat) (A0_0 : Option Addr) (c0_0 : Nat) (l0_0 : List Int) (A0_1 : Option Addr) (c0_1 : Nat) (l0_1 : List (List (S63))) (r1 : List Int) (r2 : List (List (S63))) (w : World) (hr0_0 : Kd.C (Kd.int .i64) w A0_0 l0_0.length l0_0) (hc0_0 : l0_0.length ≤ c0_0) (hr0_1 : Kd.C (Kd.slice 63 k63) w A0_1 l0_1.length l0_1) (hc0_1 : l0_1.length ≤ c0_1) (h : spec_l17Prog.f k l0_0 l0_1 = some (r1, r2)) :
  Calls Try.prog 102 #[.agg #[.slice A0_0 l0_0.length c0_0, .slice A0_1 l0_1.length c0_1]] w fun e w' => ∃ v0_ v1_ : Value, e = .returned (.agg #[v0_, v1_]) ∧ Kd.R (Kd.int .i64) 3 w' w.heap.size (fun _ => True) v0_ r1 ∧ Kd.S (Kd.slice 63 k63) 24 w' w.heap.size (fun _ => True) v1_ r2 ∧ Below w.heap.size w w' := by
 have hu56 := Try.underlying56
 have HR0_0 := Aside0.mk hr0_0
 have HC0_0 := Aside0.mk hc0_0
 clear hr0_0 hc0_0
 have HR0_1 := Aside0.mk hr0_1
 have HC0_1 := Aside0.mk hc0_1
 clear hr0_1 hc0_1
 have HB := Aside0.mk (Below.refl w.heap.size w)
 have H : ((some (([] : List Int) : List Int)).bind fun y239 => (if y239.length + l0_0.length < 17592186044416 then (spec_l17Prog.l0 k 0 l0_0 l0_1 (y239 ++ l0_0) ([] : List (List (S63)))) else (none))) = some (r1, r2) := h
 clear h
 obtain ⟨y239, hy239⟩ : ∃ y_ : List Int, y_ = (([] : List Int)) := ⟨_, rfl⟩
 replace H : (if y239.length + l0_0.length < 17592186044416 then (spec_l17Prog.l0 k 0 l0_0 l0_1 (y239 ++ l0_0) ([] : List (List (S63)))) else (none)) = some (r1, r2) := by first | (rw [hy239]; with_reducible exact H) | (have H2_ := (Option.bind_some _ _).symm.trans H; rw [hy239]; with_reducible exact H2_) | (have H2_ := (Option.bind_some _ _).symm.trans H; with_reducible exact H2_) | with_reducible exact H | (rw [hy239]; exact H) | exact H
 have Ny239 := Aside0.mk hy239
 clear hy239
 by_cases c2 : y239.length + l0_0.length < 17592186044416
 ·rw [if_pos c2] at H
  have LMc2 := Aside0.mk c2
  clear c2
  obtain ⟨y242, hy242⟩ : ∃ y_ : List Int, y_ = (y239 ++ l0_0) := ⟨_, rfl⟩
  replace H : (spec_l17Prog.l0 k 0 l0_0 l0_1 y242 ([] : List (List (S63)))) = some (r1, r2) := by first | (rw [hy242]; with_reducible exact H) | (have H2_ := (Option.bind_some _ _).symm.trans H; rw [hy242]; with_reducible exact H2_) | (have H2_ := (Option.bind_some _ _).symm.trans H; with_reducible exact H2_) | with_reducible exact H | (rw [hy242]; exact H) | exact H
  have Ny242 := Aside0.mk hy242
  clear hy242
  have H' := Aside0.mk H
  clear H
  go_enter Try.func102, Try.ntmps102
  go_wp2_with (first | ((with_reducible refine gate_dst (N := 1) rfl ?_); refine box_event ?hg (N := 1) ?hd (cs := #[.slice A0_0 l0_0.length c0_0, .slice A0_1 l0_1.length c0_1]) (t := 56) ?hr ?_; (case hd => rfl); (case hg => rfl); (case hr => first | (go_simp; done) | (go_simp; rfl)); intro gb237 hg w3 hbox hb; have n0_ := Aside0.mk (below_step att8_0_5 hb); have n1_ := Aside0.mk (hbox); have n2_ := Aside0.mk ((by rw [hg]; exact (below_size att8_0_5) : w.heap.size ≤ gb237)); have n3_ := Aside0.mk ((by rw [hg]; exact (below_size att8_0_5) : w.heap.size ≤ gb237)); clear HB; have HB := n0_; have BK237 := n1_; have GW237 := n2_; have GE237 := n3_; clear n0_ n1_ n2_ n3_; clear hb hbox hg) | ((with_reducible refine gate_dst (N := 2) rfl ?_); refine box_event ?hg (N := 2) ?hd (cs := #[.slice none 0 0, .slice none 0 0]) (t := 56) ?hr ?_; (case hd => rfl); (case hg => rfl); (case hr => first | (go_simp; done) | (go_simp; rfl)); intro gb238 hg w4 hbox hb; have n0_ := Aside0.mk (blk_below (g := gb237) (o := .cells #[.slice A0_0 l0_0.length c0_0, .slice A0_1 l0_1.length c0_1] 56 (0, 0)) att8_0_2 hb); have n1_ := Aside0.mk (below_step att8_0_4 hb); have n2_ := Aside0.mk (hbox); have n3_ := Aside0.mk ((by rw [hg]; exact (below_size att8_0_4) : w.heap.size ≤ gb238)); have n4_ := Aside0.mk ((by rw [hg]; exact (below_size att8_0_4) : w.heap.size ≤ gb238)); have n5_ := Aside0.mk ((by rw [hg]; exact Nat.ne_of_lt (blk_lt (g := gb237) (o := .cells #[.slice A0_0 l0_0.length c0_0, .slice A0_1 l0_1.length c0_1] 56 (0, 0)) att8_0_2) : gb237 ≠ gb238)); have n6_ := Aside0.mk ((by rw [hg]; exact Nat.ne_of_gt (blk_lt (g := gb237) (o := .cells #[.slice A0_0 l0_0.length c0_0, .slice A0_1 l0_1.length c0_1] 56 (0, 0)) att8_0_2) : gb238 ≠ gb237)); clear BK237; clear HB; have BK237 := n0_; have HB := n1_; have BK238 := n2_; have GW238 := n3_; have GE238 := n4_; have NB237_238 := n5_; have NB238_237 := n6_; clear n0_ n1_ n2_ n3_ n4_ n5_ n6_; clear hb hbox hg) | ((with_reducible refine gate_dst (N := 5) rfl ?_); refine Kd.R_lit (Kd.int .i64) _ 3 ?hg (N := 5) ?hd (xs := ([] : List Int)) (inner := []) (ok := fun _ => True) (okp := fun _ => True) ?hr ?hp (fun _ hk => hk) trivial (Below.refl _ _) (Nat.le_refl _) (by simp) ?_; (case hd => rfl); (case hg => rfl); (case hr => first | (go_simp; done) | (go_simp; rfl)); (case hp => exact (Reps.none _ _)); intro v240 w5 ho6 hb hg_ hnew_; clear hg_ hnew_; (first | rw [← Ny239.out] at ho6 | (simp only [Int.reduceToNat] at ho6; rw [← Ny239.out] at ho6)); have n0_ := Aside0.mk (Kd.R_lower ho6 (below_size att8_0_1)); have n1_ := Aside0.mk (blk_below (g := gb237) (o := .cells #[.slice A0_0 l0_0.length c0_0, .slice A0_1 l0_1.length c0_1] 56 (0, 0)) att8_0_2 hb); have n2_ := Aside0.mk (blk_below (g := gb238) (o := .cells #[.slice none 0 0, .slice none 0 0] 56 (0, 0)) att8_0_3 hb); have n3_ := Aside0.mk (below_step att8_0_1 hb); clear BK237; clear BK238; clear HB; have HO241 := n0_; have BK237 := n1_; have BK238 := n2_; have HB := n3_; clear n0_ n1_ n2_ n3_; clear hb ho6; have hnb7 := NB237_238.out; have hnc7 := NB238_237.out; have hcz8_0 : w5.cell? ⟨gb237, 0, none⟩ = some (.slice A0_0 l0_0.length c0_0) := (blk_cell BK237.out 0).trans rfl; have hcz8_1 : w5.cell? ⟨gb237, 1, none⟩ = some (.slice A0_1 l0_1.length c0_1) := (blk_cell BK237.out 1).trans rfl; have hfz8_0 := blk_frozen BK237.out 0; have hfz8_1 := blk_frozen BK237.out 1) | ((with_reducible refine gate_builtin (b := .append) (xs := #[.tmp 5, .tmp 7]) rfl ?_); at_builtin; refine Kd.R_append_rows (Kd.int .i64) (w0 := w) w.heap.size rfl (.tmp 5) (.tmp 7) 34 3 (.int .i64 0) 8 rfl Try.underlying34 info3 rfl (by decide) (by omega) v240 y239 l0_0 _ _ _ (fun _ => True) (fun _ => False) rfl rfl ?aO ?aR (fun _ _ h => h) (fun _ h => h.elim) ?aF ?aB ?aS ?aL ?_; (case aR => repeat (first | exact (Kd.C_below HR0_0.out HB.out) | (with_reducible refine Kd.C_alloc ?_ _) | (with_reducible refine Kd.C_drewN ?_ _) | (with_reducible refine Kd.C_drew ?_))); (case aB => exact att8_0_1); (case aF => exact (fun _ _ => trivial)); (case aO => exact (by (with_reducible repeat (first | apply Kd.R_alloc | apply Kd.R_drewN | apply Kd.R_drew)); exact HO241.out)); (case aS => exact (below_size att8_0_1)); (case aL => have := LMc2.out; omega); intro v243 w9 ho hb hg hat; rw [← Ny242.out] at ho; have n0_ := Aside0.mk (blk_grown (g := gb237) (o := .cells #[.slice A0_0 l0_0.length c0_0, .slice A0_1 l0_1.length c0_1] 56 (0, 0)) att8_0_2 hg (Kd.R_ne HO241.out BK237.out (by decide))); have n1_ := Aside0.mk (blk_grown (g := gb238) (o := .cells #[.slice none 0 0, .slice none 0 0] 56 (0, 0)) att8_0_3 hg (Kd.R_ne HO241.out BK238.out (by decide))); have n2_ := Aside0.mk (hb); have n3_ := Aside0.mk (ho); clear BK237; clear BK238; clear HB; clear HO241; have BK237 := n0_; have BK238 := n1_; have HB := n2_; have HO244 := n3_; clear n0_ n1_ n2_ n3_; clear ho hb hg hat; obtain ⟨Ao10, co10, eo10⟩ := Kd.R_slice HO244.out; subst eo10) | ((with_reducible refine gate_dst (N := 3) rfl ?_); refine box_event ?hg (N := 3) ?hd (cs := #[.slice none 0 0, .slice none 0 0]) (t := 56) ?hr ?_; (case hd => rfl); (case hg => rfl); (case hr => first | (go_simp; done) | (go_simp; rfl)); intro gb245 hg w11 hbox hb; have n0_ := Aside0.mk (Kd.R_below (by (with_reducible repeat (first | apply Kd.R_alloc | apply Kd.R_drewN | apply Kd.R_drew)); exact HO244.out) hb); have n1_ := Aside0.mk (blk_below (g := gb237) (o := .cells #[.slice A0_0 l0_0.length c0_0, .slice A0_1 l0_1.length c0_1] 56 (0, 0)) att8_0_2 hb); have n2_ := Aside0.mk (blk_below (g := gb238) (o := .cells #[.slice none 0 0, .slice none 0 0] 56 (0, 0)) att8_0_3 hb); have n3_ := Aside0.mk (below_step att8_0_1 hb); have n4_ := Aside0.mk (hbox); have n5_ := Aside0.mk ((by rw [hg]; exact (below_size att8_0_1) : w.heap.size ≤ gb245)); have n6_ := Aside0.mk ((by rw [hg]; exact (below_size att8_0_1) : w.heap.size ≤ gb245)); have n7_ := Aside0.mk ((by rw [hg]; exact Nat.ne_of_lt (blk_lt (g := gb237) (o := .cells #[.slice A0_0 l0_0.length c0_0, .slice A0_1 l0_1.length c0_1] 56 (0, 0)) att8_0_2) : gb237 ≠ gb245)); have n8_ := Aside0.mk ((by rw [hg]; exact Nat.ne_of_gt (blk_lt (g := gb237) (o := .cells #[.slice A0_0 l0_0.length c0_0, .slice A0_1 l0_1.length c0_1] 56 (0, 0)) att8_0_2) : gb245 ≠ gb237)); have n9_ := Aside0.mk ((by rw [hg]; exact Nat.ne_of_lt (blk_lt (g := gb238) (o := .cells #[.slice none 0 0, .slice none 0 0] 56 (0, 0)) att8_0_3) : gb238 ≠ gb245)); have n10_ := Aside0.mk ((by rw [hg]; exact Nat.ne_of_gt (blk_lt (g := gb238) (o := .cells #[.slice none 0 0, .slice none 0 0] 56 (0, 0)) att8_0_3) : gb245 ≠ gb238)); clear HO244; clear BK237; clear BK238; clear HB; have HO244 := n0_; have BK237 := n1_; have BK238 := n2_; have HB := n3_; have BK245 := n4_; have GW245 := n5_; have GE245 := n6_; have NB237_245 := n7_; have NB245_237 := n8_; have NB238_245 := n9_; have NB245_238 := n10_; clear n0_ n1_ n2_ n3_ n4_ n5_ n6_ n7_ n8_ n9_ n10_; clear hb hbox hg; have hnb12 := NB245_237.out; have hnc12 := NB237_245.out; have hnb13 := NB245_238.out; have hnc13 := NB238_245.out; have hcz14_0 : w11.cell? ⟨gb245, 0, none⟩ = some (.slice none 0 0) := (blk_cell BK245.out 0).trans rfl; have hcz14_1 : w11.cell? ⟨gb245, 1, none⟩ = some (.slice none 0 0) := (blk_cell BK245.out 1).trans rfl; have hfz14_0 := blk_frozen BK245.out 0; have hfz14_1 := blk_frozen BK245.out 1))
  go_loopg [4] k (fun kq v4 w' => ∃ (x4_1 : Int) (x246001_1 : List (List (S63))) (u246001 : Value), v4 = .int .i64 x4_1 ∧ Aside0 (spec_l17Prog.l0 kq x4_1 l0_0 l0_1 y242 x246001_1 = some (r1, r2)) ∧ Aside0 (kq ≤ k) ∧ Aside0 (Kd.R (Kd.int .i64) 3 w' w.heap.size (fun _ => True) (.slice Ao10 y242.length co10) y242) ∧ Aside0 (Kd.S (Kd.slice 63 k63) 24 w' w.heap.size (fun _ => True) u246001 x246001_1) ∧ Aside0 (w'.heap[gb237]? = some (.cells #[(.slice A0_0 l0_0.length c0_0), (.slice A0_1 l0_1.length c0_1)] 56 (0, 0))) ∧ Aside0 (w'.heap[gb238]? = some (.cells #[(.slice none 0 0), (.slice none 0 0)] 56 (0, 0))) ∧ Aside0 (w'.heap[gb245]? = some (.cells #[(.slice Ao10 y242.length co10), u246001] 56 (0, 0))) ∧ Aside0 (Below w.heap.size w w'))
  case atStart => exact ⟨(0), (([] : List (List (S63)))), (.slice none 0 0), (by first | rfl | (simp; done) | (simp [*]; done)), H', ⟨Nat.le_refl _⟩, ⟨by (with_reducible repeat (first | apply Kd.R_alloc | apply Kd.R_drewN | apply Kd.R_drew)); exact Kd.R_mono (Kd.R_far (p := ⟨gb245, 1, none⟩) (Kd.R_far (p := ⟨gb245, 0, none⟩) (Kd.R_types HO244.out BK245.out (by decide)) (fun _ hk => hk.2) (.slice Ao10 y242.length co10)) (fun _ hk => hk.2) (.slice none 0 0)) (fun _ hk => trivial)⟩, ⟨by first | exact Kd.S_nil _ _ _ _ _ | exact Kd.N_nil _ _ _ _ _ | exact Kd.V_nil _ _ _ _ _ | exact Kd.Q_nil _ _ _ _ _ | exact Kd.R_nil _ _ _ _ _⟩, ⟨by (with_reducible repeat (first | refine blk_drewN ?_ _ | refine blk_drew ?_ | refine blk_alloc ?_ _)); refine blk_far ?_ NB237_245.out _; (with_reducible repeat (first | refine blk_drewN ?_ _ | refine blk_drew ?_ | refine blk_alloc ?_ _)); refine blk_far ?_ NB237_245.out _; (with_reducible repeat (first | refine blk_drewN ?_ _ | refine blk_drew ?_ | refine blk_alloc ?_ _)); exact BK237.out⟩, ⟨by (with_reducible repeat (first | refine blk_drewN ?_ _ | refine blk_drew ?_ | refine blk_alloc ?_ _)); refine blk_far ?_ NB238_245.out _; (with_reducible repeat (first | refine blk_drewN ?_ _ | refine blk_drew ?_ | refine blk_alloc ?_ _)); refine blk_far ?_ NB238_245.out _; (with_reducible repeat (first | refine blk_drewN ?_ _ | refine blk_drew ?_ | refine blk_alloc ?_ _)); exact BK238.out⟩, ⟨by (with_reducible repeat (first | refine blk_drewN ?_ _ | refine blk_drew ?_ | refine blk_alloc ?_ _)); refine blk_put (cs := #[.slice Ao10 y242.length co10, .slice none 0 0]) ?_ 1 _ rfl; (with_reducible repeat (first | refine blk_drewN ?_ _ | refine blk_drew ?_ | refine blk_alloc ?_ _)); refine blk_put (cs := #[.slice none 0 0, .slice none 0 0]) ?_ 0 _ rfl; (with_reducible repeat (first | refine blk_drewN ?_ _ | refine blk_drew ?_ | refine blk_alloc ?_ _)); exact BK245.out⟩, ⟨att8_0_0⟩⟩
  case round =>
   clear H'
   try clear c1
   try clear c2
   try clear p2
   try clear c7
   try clear c10
   try clear c12
   try clear c13
   try clear hcz14_0
   try clear hcz14_1
   try clear hcz8_0
   try clear hcz8_1
   try clear hfz14_0
   try clear hfz14_1
   try clear hfz8_0
   try clear hfz8_1
   obtain ⟨x4_1, x246001_1, u246001, rfl, HA, HK1, HO_246000, HO_246001, BK237, BK238, BK245, HB⟩ := hrel
   cases gk with
   | zero => exact absurd HA.out (by simp [spec_l17Prog.l0])
   | succ k1 =>
    have H := HA.out
    clear HA
    simp only [spec_l17Prog.l0] at H
    by_cases c15 : x4_1 < (l0_1.length : Int)
    ·rw [if_pos c15] at H
     have c15b0 : decide (x4_1 < (l0_1.length : Int)) = true := decide_eq_true c15
     clear c15
     obtain ⟨y246, hy246⟩ : ∃ y_ : List (S63), y_ = (([] : List (S63))) := ⟨_, rfl⟩
     replace H : (if 0 ≤ x4_1 then (if y246.length + (rd_L5 l0_1 x4_1).length < 3518437208883 then (if x246001_1.length < 5864062014805 then (spec_l17Prog.l0 k1 (wrap64 (x4_1 + 1)) l0_0 l0_1 y242 (x246001_1 ++ [(y246 ++ (rd_L5 l0_1 x4_1))])) else (none)) else (none)) else (none)) = some (r1, r2) := by first | (rw [hy246]; with_reducible exact H) | (have H2_ := (Option.bind_some _ _).symm.trans H; rw [hy246]; with_reducible exact H2_) | (have H2_ := (Option.bind_some _ _).symm.trans H; with_reducible exact H2_) | with_reducible exact H | (rw [hy246]; exact H) | exact H
     have Ny246 := Aside0.mk hy246
     clear hy246
     by_cases c16 : 0 ≤ x4_1
     ·rw [if_pos c16] at H
      have c16b0 : decide (0 ≤ x4_1) = true := decide_eq_true c16
      clear c16
      by_cases c17 : y246.length + (rd_L5 l0_1 x4_1).length < 3518437208883
      ·rw [if_pos c17] at H
       have LMc17 := Aside0.mk c17
       clear c17
       obtain ⟨y250, hy250⟩ : ∃ y_ : List (S63), y_ = (y246 ++ (rd_L5 l0_1 x4_1)) := ⟨_, rfl⟩
       replace H : (if x246001_1.length < 5864062014805 then (spec_l17Prog.l0 k1 (wrap64 (x4_1 + 1)) l0_0 l0_1 y242 (x246001_1 ++ [y250])) else (none)) = some (r1, r2) := by first | (rw [hy250]; with_reducible exact H) | (have H2_ := (Option.bind_some _ _).symm.trans H; rw [hy250]; with_reducible exact H2_) | (have H2_ := (Option.bind_some _ _).symm.trans H; with_reducible exact H2_) | with_reducible exact H | (rw [hy250]; exact H) | exact H
       have Ny250 := Aside0.mk hy250
       clear hy250
       by_cases c18 : x246001_1.length < 5864062014805
       ·rw [if_pos c18] at H
        have LMc18 := Aside0.mk c18
        clear c18
        obtain ⟨y253, hy253⟩ : ∃ y_ : List (List (S63)), y_ = (x246001_1 ++ [y250]) := ⟨_, rfl⟩
        replace H : (spec_l17Prog.l0 k1 (wrap64 (x4_1 + 1)) l0_0 l0_1 y242 y253) = some (r1, r2) := by first | (rw [hy253]; with_reducible exact H) | (have H2_ := (Option.bind_some _ _).symm.trans H; rw [hy253]; with_reducible exact H2_) | (have H2_ := (Option.bind_some _ _).symm.trans H; with_reducible exact H2_) | with_reducible exact H | (rw [hy253]; exact H) | exact H
        have Ny253 := Aside0.mk hy253
        clear hy253
        have H' := Aside0.mk H
        clear H
        have hnb19 := NB237_238.out
        have hnc19 := NB238_237.out
        have hnb20 := NB237_245.out
        have hnc20 := NB245_237.out
        have hcz21_0 : wr.cell? ⟨gb237, 0, none⟩ = some (.slice A0_0 l0_0.length c0_0) := (blk_cell BK237.out 0).trans rfl
        have hcz21_1 : wr.cell? ⟨gb237, 1, none⟩ = some (.slice A0_1 l0_1.length c0_1) := (blk_cell BK237.out 1).trans rfl
        have hfz21_0 := blk_frozen BK237.out 0
        have hfz21_1 := blk_frozen BK237.out 1
        try go_wp2
        have n0_ := Aside0.mk (Kd.R_drew HO_246000.out)
        have n1_ := Aside0.mk (Kd.S_drew HO_246001.out)
        have n2_ := Aside0.mk (blk_drew BK237.out)
        have n3_ := Aside0.mk (blk_drew BK238.out)
        have n4_ := Aside0.mk (blk_drew BK245.out)
        have n5_ := Aside0.mk (below_drew1 HB.out)
        clear HO_246000
        clear HO_246001
        clear BK237
        clear BK238
        clear BK245
        clear HB
        have HO_246000 := n0_
        have HO_246001 := n1_
        have BK237 := n2_
        have BK238 := n3_
        have BK245 := n4_
        have HB := n5_
        clear n0_ n1_ n2_ n3_ n4_ n5_
        have p249 : 0 ≤ (x4_1 : Int) := of_decide_eq_true (by first | (with_reducible assumption) | assumption)
        have q249 : x4_1 < (l0_1.length : Int) := of_decide_eq_true (by first | (with_reducible assumption) | assumption)
        obtain ⟨ad249, A249_0, c249_0, e249, hx249_0, hl249_0, hi249_0⟩ := at_L5 HR0_1.out x4_1 p249 q249
        have hw249_0 := hx249_0
        cases e249
        replace hx249_0 := (HB.out.cell (World.block_lt_of_cell? w _ hx249_0)).trans hx249_0
        have HR249_0 := Aside0.mk hi249_0
        have HC249_0 := Aside0.mk hl249_0
        clear hi249_0 hl249_0
        replace p249 := eq_true p249
        replace q249 := eq_true q249
        refine start_ (n := 13) (S := fun w' => w'.cell? ⟨gb245, 0, none⟩ = some (.slice Ao10 y242.length co10) ∧ w'.cell? ⟨gb245, 1, none⟩ = some (u246001) ∧ w'.cell? ⟨gb237, 0, none⟩ = some (.slice A0_0 l0_0.length c0_0) ∧ w'.cell? ⟨gb237, 1, none⟩ = some (.slice (some ad249) l0_1.length c0_1) ∧ w'.cell? (ad249.add (x4_1).toNat) = some (.slice A249_0 (rd_L5 l0_1 x4_1).length c249_0)) (ds := [12]) (tf_ 0 13) (by kernel_rfl) rfl rfl ⟨(blk_cell BK245.out 0).trans rfl, (blk_cell BK245.out 1).trans rfl, (blk_cell BK237.out 0).trans rfl, (blk_cell BK237.out 1).trans rfl, ((HB.out.cell (World.block_lt_of_cell? w _ hw249_0)).trans hw249_0)⟩ (fun hHeld => ?_); refine with_tabW spec_l17Prog.tab5 spec_l17Prog.bits5 (fun HT_ HW_ => ?_)
        generalize wr.drew = w22 at HO_246000 HO_246001 BK237 BK238 BK245 HB HR249_0 hx249_0 hHeld ⊢
        refine pureP_ (i := 0) (N := some 17) (tf_ 1 12) (any_of HT_.out (by kernel_rfl)) (h := ?_)
        refine pureP_ (i := 3) (N := some 20) #[true, false, false, true, false, false, false, false, false, false, false, false, false] (any_of HT_.out (by kernel_rfl)) (h := ?_)
        refine pureP_ (i := 5) (N := some 22) #[true, false, false, true, false, true, false, false, false, false, false, false, false] (any_of HT_.out (by kernel_rfl)) (h := ?_)
        refine takeP_ (i := 1) (N := some 18) #[true, true, false, true, false, true, false, false, false, false, false, false, false] (take_ofW HT_.out HW_.out (by kernel_rfl)) hHeld (hy := Or.inl ⟨by rfl, att8_0_9⟩) (h := ?_)
        refine takeP_ (i := 4) (N := some 21) #[true, true, false, true, true, true, false, false, false, false, false, false, false] (take_ofW HT_.out HW_.out (by kernel_rfl)) hHeld (hy := Or.inl ⟨by rfl, att8_0_9⟩) (h := ?_)
        refine pureP_ (i := 6) (N := some 23) #[true, true, false, true, true, true, true, false, false, false, false, false, false] (any_of HT_.out (by kernel_rfl)) (h := ?_)
        refine takeP_ (i := 7) (N := some 24) #[true, true, false, true, true, true, true, true, false, false, false, false, false] (take_ofW HT_.out HW_.out (by kernel_rfl)) hHeld (hy := Or.inl ⟨by rfl, att8_0_9⟩) (h := ?_)
        refine one_ (i := 2) (N := some 19) (tf_ 8 5) rfl rfl (one_of HT_.out (by kernel_rfl)) (by decide) (fun K hK => ?_)
        refine Kd.R_lit_step k63 _ 63 ?hg (N := 19) ?hd (xs := ([] : List (S63))) (inner := []) (ok := fun _ => True) (okp := fun _ => True) ?hr ?hp (fun _ hk => hk) trivial (Below.refl _ _) (Nat.le_refl _) (by simp) ?_; (case hd => rfl); (case hg => rfl); (case hr => first | (go_simp; done) | (go_simp; rfl)); (case hp => exact (Reps.none _ _))
        intro v247 w23 ho24 hb hg_ hnew_
        clear hg_ hnew_
        (first | rw [← Ny246.out] at ho24 | (simp only [Int.reduceToNat] at ho24; rw [← Ny246.out] at ho24))
        have n0_ := Aside0.mk (Kd.R_below att8_0_8 hb)
        have n1_ := Aside0.mk (Kd.S_elder' att8_0_7 (Kd.R_base ho24) hb)
        have n2_ := Aside0.mk (Kd.R_lower ho24 (below_size att8_0_0))
        have n3_ := Aside0.mk (blk_below (g := gb237) (o := .cells #[.slice A0_0 l0_0.length c0_0, .slice (some ad249) l0_1.length c0_1] 56 (0, 0)) att8_0_2 hb)
        have n4_ := Aside0.mk (blk_below (g := gb238) (o := .cells #[.slice none 0 0, .slice none 0 0] 56 (0, 0)) att8_0_3 hb)
        have n5_ := Aside0.mk (blk_below (g := gb245) (o := .cells #[.slice Ao10 y242.length co10, u246001] 56 (0, 0)) att8_0_6 hb)
        have n6_ := Aside0.mk (below_step att8_0_0 hb)
        clear HO_246000
        clear HO_246001
        clear BK237
        clear BK238
        clear BK245
        clear HB
        have HO_246000 := n0_
        have HO_246001 := n1_
        have HO248 := n2_
        have BK237 := n3_
        have BK238 := n4_
        have BK245 := n5_
        have HB := n6_
        clear n0_ n1_ n2_ n3_ n4_ n5_ n6_
        clear hb ho24
        refine hK.out _ _ ⟨(blk_cell BK245.out 0).trans rfl, (blk_cell BK245.out 1).trans rfl, (blk_cell BK237.out 0).trans rfl, (blk_cell BK237.out 1).trans rfl, ((HB.out.cell (World.block_lt_of_cell? w _ hw249_0)).trans hw249_0)⟩ (fun hHeld => ?_)
        clear hK K
        refine normP_ (h := ?_)
        refine one_ (i := 8) (N := some 25) (tf_ 9 4) rfl rfl (one_of HT_.out (by kernel_rfl)) (by decide) (fun K hK => ?_)
        refine Kd.R_append_rows_step k63 (w0 := w) w.heap.size (by rfl) (.tmp 19) (.tmp 24) 24 63 (.agg #[(.int .i64 0), (.int .i64 0), (.int .i64 0), (.int .i64 0), (.int .i64 0)]) 40 rfl Try.underlying24 info63 rfl (by decide) (by omega) v247 y246 (rd_L5 l0_1 x4_1) _ _ _ (fun _ => True) (fun _ => False) rfl rfl ?aO ?aR (fun _ _ h => h) (fun _ h => h.elim) ?aF ?aB ?aS ?aL ?_
        (case aR => repeat (first | exact (Kd.C_below HR249_0.out HB.out) | (with_reducible refine Kd.C_alloc ?_ _) | (with_reducible refine Kd.C_drewN ?_ _) | (with_reducible refine Kd.C_drew ?_)))
        (case aB => exact att8_0_0)
        (case aF => exact (fun _ _ => trivial))
        (case aO => exact att8_0_10)
        (case aS => exact (below_size att8_0_0))
        (case aL => have := LMc17.out; omega)
        intro v251 w25 ho hb hg hat
        rw [← Ny250.out] at ho
        have n0_ := Aside0.mk (Kd.R_over' att8_0_8 (Kd.R_typed att8_0_10) (by decide) hg)
        have n1_ := Aside0.mk (Kd.S_after (ok := (fun _ => True)) att8_0_7 hg hat)
        have n2_ := Aside0.mk (blk_grown (g := gb237) (o := .cells #[.slice A0_0 l0_0.length c0_0, .slice (some ad249) l0_1.length c0_1] 56 (0, 0)) att8_0_2 hg (Kd.R_ne HO248.out BK237.out (by decide)))
        have n3_ := Aside0.mk (blk_grown (g := gb238) (o := .cells #[.slice none 0 0, .slice none 0 0] 56 (0, 0)) att8_0_3 hg (Kd.R_ne HO248.out BK238.out (by decide)))
        have n4_ := Aside0.mk (blk_grown (g := gb245) (o := .cells #[.slice Ao10 y242.length co10, u246001] 56 (0, 0)) att8_0_6 hg (Kd.R_ne HO248.out BK245.out (by decide)))
        have n5_ := Aside0.mk (hb)
        have n6_ := Aside0.mk (ho)
        clear HO_246000
        clear HO_246001
        clear BK237
        clear BK238
        clear BK245
        clear HB
        clear HO248
        have HO_246000 := n0_
        have HO_246001 := n1_
        have BK237 := n2_
        have BK238 := n3_
        have BK245 := n4_
        have HB := n5_
        have HO252 := n6_
        clear n0_ n1_ n2_ n3_ n4_ n5_ n6_
        clear ho hb hg hat
        obtain ⟨Ao27, co27, eo27⟩ := Kd.R_slice HO252.out
        (first | subst eo27 | (injection eo27 with f1_ f2_ f3_; have f4_ := f1_.symm; have f5_ := f3_.symm; clear f1_ f2_ f3_; subst f4_; subst f5_))
        refine hK.out _ _ ⟨(blk_cell BK245.out 0).trans rfl, (blk_cell BK245.out 1).trans rfl, (blk_cell BK237.out 0).trans rfl, (blk_cell BK237.out 1).trans rfl, ((HB.out.cell (World.block_lt_of_cell? w _ hw249_0)).trans hw249_0)⟩ (fun hHeld => ?_)
        clear hK K
        refine normP_ (h := ?_)
        refine one_ (i := 9) (N := some 26) (tf_ 10 3) rfl rfl (one_of HT_.out (by kernel_rfl)) (by decide) (fun K hK => ?_)
        refine value_ (w1 := ?_) (v := ?_) (by rfl) rfl ?_ ?_
        rotate_left 2
        ·go_simp
         constructor
         ·rfl
         ·rfl
        refine hK.out _ _ ⟨(blk_cell (blk_alloc BK245.out _) 0).trans rfl, (blk_cell (blk_alloc BK245.out _) 1).trans rfl, (blk_cell (blk_alloc BK237.out _) 0).trans rfl, (blk_cell (blk_alloc BK237.out _) 1).trans rfl, (World.cell?_alloc_lt _ _ _ (World.block_lt_of_cell? _ _ (((HB.out.cell (World.block_lt_of_cell? w _ hw249_0)).trans hw249_0)))).trans (((HB.out.cell (World.block_lt_of_cell? w _ hw249_0)).trans hw249_0))⟩ (fun hHeld => ?_)
        clear hK K
        refine normP_ (h := ?_)
        refine one_ (i := 10) (N := some 27) (tf_ 11 2) rfl rfl (one_of HT_.out (by kernel_rfl)) (by decide) (fun K hK => ?_)
        refine Kd.S_append_step (Kd.slice 63 k63) (w0 := w) w.heap.size (by rfl) (.tmp 18) (.tmp 26) 54 24 (.slice none 0 0) 24 rfl Try.underlying54 info24 rfl (by decide) (by omega) u246001 x246001_1 y250 [.slice Ao27 y250.length co27] (fun _ => True) (fun k_ => some k_ = (.slice Ao27 y250.length co27 : Value).ownBlock) rfl rfl ?aP (fun k_ hk_ => ((Kd.R_mono (ok' := fun k_ => ((fun _ => True)) k_ ∧ some k_ ≠ (u246001 : Value).ownBlock) (Kd.R_apart' (HO252.out) (Kd.S_typed HO_246001.out) (by decide)) (fun k_ hk => ⟨trivial, hk.2⟩))).1 k_ hk_.symm) ?aF ?aO ?aB ?aS ?aL ?_
        (case aP => exact Kd.M_row (Kd.R_mono (Kd.R_tight rfl (Kd.R_mono (ok' := fun k_ => ((fun _ => True)) k_ ∧ some k_ ≠ (u246001 : Value).ownBlock) (Kd.R_apart' (HO252.out) (Kd.S_typed HO_246001.out) (by decide)) (fun k_ hk => ⟨trivial, hk.2⟩))) (fun _ h_ => h_)))
        (case aB => exact att8_0_0)
        (case aF => exact (fun _ _ => trivial))
        (case aO => exact (by (with_reducible repeat (first | apply Kd.S_alloc | apply Kd.S_drewN | apply Kd.S_drew)); exact Kd.S_mono HO_246001.out (fun k_ hk => ⟨trivial, fun e_ => hk.2 e_⟩)))
        (case aS => exact (below_size att8_0_0))
        (case aL => have := LMc18.out; omega)
        intro v254 w26 ho hb hg hat
        rw [← Ny253.out] at ho
        have n0_ := Aside0.mk (Kd.R_over' att8_0_8 (Kd.S_typed att8_0_7) (by decide) hg)
        have n1_ := Aside0.mk (blk_grown (g := gb237) (o := .cells #[.slice A0_0 l0_0.length c0_0, .slice (some ad249) l0_1.length c0_1] 56 (0, 0)) att8_0_2 hg (Kd.S_ne HO_246001.out BK237.out (by decide)))
        have n2_ := Aside0.mk (blk_grown (g := gb238) (o := .cells #[.slice none 0 0, .slice none 0 0] 56 (0, 0)) att8_0_3 hg (Kd.S_ne HO_246001.out BK238.out (by decide)))
        have n3_ := Aside0.mk (blk_grown (g := gb245) (o := .cells #[.slice Ao10 y242.length co10, u246001] 56 (0, 0)) att8_0_6 hg (Kd.S_ne HO_246001.out BK245.out (by decide)))
        have n4_ := Aside0.mk (hb)
        have n5_ := Aside0.mk (ho)
        clear HO_246000
        clear BK237
        clear BK238
        clear BK245
        clear HB
        clear HO_246001
        clear HO252
        have HO_246000 := n0_
        have BK237 := n1_
        have BK238 := n2_
        have BK245 := n3_
        have HB := n4_
        have HO255 := n5_
        clear n0_ n1_ n2_ n3_ n4_ n5_
        clear ho hb hg hat
        obtain ⟨Ao28, co28, eo28⟩ := Kd.S_slice HO255.out
        (first | subst eo28 | (injection eo28 with f1_ f2_ f3_; have f4_ := f1_.symm; have f5_ := f3_.symm; clear f1_ f2_ f3_; subst f4_; subst f5_))
        refine hK.out _ _ ⟨(blk_cell BK245.out 0).trans rfl, (blk_cell BK245.out 1).trans rfl, (blk_cell BK237.out 0).trans rfl, (blk_cell BK237.out 1).trans rfl, ((HB.out.cell (World.block_lt_of_cell? w _ hw249_0)).trans hw249_0)⟩ (fun hHeld => ?_)
        clear hK K
        refine normP_ (h := ?_)
        refine pureP_ (i := 11) (N := some 28) (tf_ 12 1) (any_of HT_.out (by kernel_rfl)) (h := ?_)
        refine last_ (i := 12) (N := none) (tf_ 13 0) rfl rfl (one_of HT_.out (by kernel_rfl)) (by decide) (fun K hK => ?_)
        have hs29 : w26.cell? ⟨gb245, 1, none⟩ = some (u246001) := (blk_cell BK245.out 1).trans rfl
        have hfs29 := blk_frozen BK245.out 1
        have hns29_0 := NB237_245.out
        have hns29_1 := NB238_245.out
        have hms29_0 := NB245_237.out
        have hms29_1 := NB245_238.out
        refine skip_ (w1 := ?_) (by rfl) rfl ?_ ?_
        rotate_left
        ·go_simp
         rfl
        refine hK.out _ _ ?_
        clear hK K
        refine done_ (done_of HT_.out (by kernel_rfl)) ?_
        try go_wp2
        go_roundg k1
        case measure => have := HK1.out; omega
        case rel => exact ⟨(wrap64 (x4_1 + 1)), (y253), (.slice Ao28 y253.length co28), (by first | rfl | (simp; done) | (simp [*]; done)), H', ⟨by have := HK1.out; omega⟩, ⟨by (with_reducible repeat (first | apply Kd.R_alloc | apply Kd.R_drewN | apply Kd.R_drew)); exact Kd.R_mono (Kd.R_far (p := ⟨gb245, 1, none⟩) (Kd.R_types HO_246000.out BK245.out (by decide)) (fun _ hk => hk.2) (.slice Ao28 y253.length co28)) (fun _ hk => trivial)⟩, ⟨by (with_reducible repeat (first | apply Kd.S_alloc | apply Kd.S_drewN | apply Kd.S_drew)); exact Kd.S_mono (Kd.S_far (p := ⟨gb245, 1, none⟩) (Kd.S_types HO255.out BK245.out (by decide)) (fun _ hk => hk.2) (.slice Ao28 y253.length co28)) (fun _ hk => trivial)⟩, ⟨by (with_reducible repeat (first | refine blk_drewN ?_ _ | refine blk_drew ?_ | refine blk_alloc ?_ _)); refine blk_far ?_ NB237_245.out _; (with_reducible repeat (first | refine blk_drewN ?_ _ | refine blk_drew ?_ | refine blk_alloc ?_ _)); exact BK237.out⟩, ⟨by (with_reducible repeat (first | refine blk_drewN ?_ _ | refine blk_drew ?_ | refine blk_alloc ?_ _)); refine blk_far ?_ NB238_245.out _; (with_reducible repeat (first | refine blk_drewN ?_ _ | refine blk_drew ?_ | refine blk_alloc ?_ _)); exact BK238.out⟩, ⟨by (with_reducible repeat (first | refine blk_drewN ?_ _ | refine blk_drew ?_ | refine blk_alloc ?_ _)); refine blk_put (cs := #[.slice Ao10 y242.length co10, u246001]) ?_ 1 _ rfl; (with_reducible repeat (first | refine blk_drewN ?_ _ | refine blk_drew ?_ | refine blk_alloc ?_ _)); exact BK245.out⟩, ⟨att8_0_0⟩⟩
       ·rw [if_neg c18] at H
        exact absurd H (by simp)
      ·rw [if_neg c17] at H
       exact absurd H (by simp)
     ·rw [if_neg c16] at H
      exact absurd H (by simp)
    ·rw [if_neg c15] at H
     have c15b0 : decide (x4_1 < (l0_1.length : Int)) = false := decide_eq_false c15
     clear c15
     simp only [Option.some.injEq, Prod.mk.injEq] at H
     obtain ⟨rfl, rfl⟩ := H
     have hnb30 := NB237_238.out
     have hnc30 := NB238_237.out
     have hnb31 := NB237_245.out
     have hnc31 := NB245_237.out
     have hcz32_0 : wr.cell? ⟨gb237, 0, none⟩ = some (.slice A0_0 l0_0.length c0_0) := (blk_cell BK237.out 0).trans rfl
     have hcz32_1 : wr.cell? ⟨gb237, 1, none⟩ = some (.slice A0_1 l0_1.length c0_1) := (blk_cell BK237.out 1).trans rfl
     have hfz32_0 := blk_frozen BK237.out 0
     have hfz32_1 := blk_frozen BK237.out 1
     have hnb33 := NB245_238.out
     have hnc33 := NB238_245.out
     have hcz34_0 : wr.cell? ⟨gb245, 0, none⟩ = some (.slice Ao10 y242.length co10) := (blk_cell BK245.out 0).trans rfl
     have hcz34_1 : wr.cell? ⟨gb245, 1, none⟩ = some (u246001) := (blk_cell BK245.out 1).trans rfl
     have hfz34_0 := blk_frozen BK245.out 0
     have hfz34_1 := blk_frozen BK245.out 1
     have hcz35_0 : wr.cell? ⟨gb238, 0, none⟩ = some (.slice none 0 0) := (blk_cell BK238.out 0).trans rfl
     have hcz35_1 : wr.cell? ⟨gb238, 1, none⟩ = some (.slice none 0 0) := (blk_cell BK238.out 1).trans rfl
     have hfz35_0 := blk_frozen BK238.out 0
     have hfz35_1 := blk_frozen BK238.out 1
     obtain ⟨Ao36, co36, eo36⟩ := Kd.S_slice HO_246001.out
     subst eo36
     go_wp2
     refine bodyPost_ret (results_cell_row rfl _ _ gb238 56 #[.slice Ao10 y242.length co10, .slice Ao36 x246001_1.length co36] (0, 0) _ rfl (by (with_reducible repeat (first | refine blk_drewN ?_ _ | refine blk_drew ?_ | refine blk_alloc ?_ _)); refine blk_put (cs := #[.slice Ao10 y242.length co10, .slice none 0 0]) ?_ 1 _ rfl; (with_reducible repeat (first | refine blk_drewN ?_ _ | refine blk_drew ?_ | refine blk_alloc ?_ _)); refine blk_put (cs := #[.slice none 0 0, .slice none 0 0]) ?_ 0 _ rfl; (with_reducible repeat (first | refine blk_drewN ?_ _ | refine blk_drew ?_ | refine blk_alloc ?_ _)); exact BK238.out) Try.underlying56 rfl (by kernel_rfl)) rfl ?_
     exact ⟨_, _, by first | rfl | (simp [errW_none, errW_some] <;> rfl) | (simp [*, errW_none, errW_some] <;> rfl), by (with_reducible repeat (first | apply Kd.R_alloc | apply Kd.R_drewN | apply Kd.R_drew)); exact Kd.R_mono (Kd.R_far (p := ⟨gb238, 1, none⟩) (Kd.R_far (p := ⟨gb238, 0, none⟩) (Kd.R_types HO_246000.out BK238.out (by decide)) (fun _ hk => hk.2) (.slice Ao10 y242.length co10)) (fun _ hk => hk.2) (.slice Ao36 x246001_1.length co36)) (fun _ hk => trivial), by (with_reducible repeat (first | apply Kd.S_alloc | apply Kd.S_drewN | apply Kd.S_drew)); exact Kd.S_mono (Kd.S_far (p := ⟨gb238, 1, none⟩) (Kd.S_far (p := ⟨gb238, 0, none⟩) (Kd.S_types HO_246001.out BK238.out (by decide)) (fun _ hk => hk.2) (.slice Ao10 y242.length co10)) (fun _ hk => hk.2) (.slice Ao36 x246001_1.length co36)) (fun _ hk => trivial), att8_0_0⟩
 ·rw [if_neg c2] at H
  exact absurd H (by simp)

end Go.Proofs.Ytocimkpafakiaaa.XFnExactPackProg
