/- Each Go function that the law reaches as a Lean function, and that Go comes to just its answer; written by this session's xprint.py over the kit's printer. -/
import Derived.Test.YtocimkpafakiaaaXFnExactFoldBodyx0
import Derived.Test.YtocimkpafakiaaaXFnExactFoldBodyx4
import Derived.Test.YtocimkpafakiaaaXFnExactFoldBodyx6
namespace Go.Proofs.Ytocimkpafakiaaa.XFnExactFoldBody
open Go.RowKit Go.Proofs.YtocimkpafakiaaaW.PrintWords Go.Proofs.YtocimkpafakiaaaW.PrintLast Go.Proofs.YtocimkpafakiaaaW.PrintMore
attribute [local go_sem] max2_int min2_int max_two min_two max_three min_three max_four min_four   -- for this text's walks alone
set_option linter.unusedVariables false
set_option linter.unusedSimpArgs false

theorem att11_0_0 {p : Prop} (h : p := by repeat (first | (with_reducible first | exact HB.out | apply below_alloc | apply pw_below_drewN | apply below_drew1 | refine below_set ?_ GE274.out | refine below_set ?_ GE275.out) | exact HB.out)) : p := h
theorem att11_0_1 {p : Prop} (h : p := by (with_reducible repeat (first | refine blk_drewN ?_ _ | refine blk_drew ?_ | refine blk_alloc ?_ _)); exact BK274.out) : p := h
theorem att11_0_2 {p : Prop} (h : p := by first | (with_reducible assumption) | assumption) : p := h
theorem att11_0_3 {p : Prop} (h : p := by (with_reducible repeat (first | refine blk_drewN ?_ _ | refine blk_drew ?_ | refine blk_alloc ?_ _)); refine blk_put (cs := #[.int .i64 11, .int .i64 0, .int .i64 0, .int .i64 0, .int .i64 x276004_33]) ?_ 4 _ rfl; (with_reducible repeat (first | refine blk_drewN ?_ _ | refine blk_drew ?_ | refine blk_alloc ?_ _)); refine blk_put (cs := #[.int .i64 11, .int .i64 0, .int .i64 0, .int .i64 x276003_33, .int .i64 x276004_33]) ?_ 3 _ rfl; (with_reducible repeat (first | refine blk_drewN ?_ _ | refine blk_drew ?_ | refine blk_alloc ?_ _)); refine blk_put (cs := #[.int .i64 11, .int .i64 0, .int .i64 x276002_33, .int .i64 x276003_33, .int .i64 x276004_33]) ?_ 2 _ rfl; (with_reducible repeat (first | refine blk_drewN ?_ _ | refine blk_drew ?_ | refine blk_alloc ?_ _)); refine blk_put (cs := #[.int .i64 11, .int .i64 x276001_33, .int .i64 x276002_33, .int .i64 x276003_33, .int .i64 x276004_33]) ?_ 1 _ rfl; (with_reducible repeat (first | refine blk_drewN ?_ _ | refine blk_drew ?_ | refine blk_alloc ?_ _)); refine blk_put (cs := #[.int .i64 x276000_33, .int .i64 x276001_33, .int .i64 x276002_33, .int .i64 x276003_33, .int .i64 x276004_33]) ?_ 0 _ rfl; (with_reducible repeat (first | refine blk_drewN ?_ _ | refine blk_drew ?_ | refine blk_alloc ?_ _)); exact BK275.out) : p := h
theorem att11_0_4 {p : Prop} (h : p := by (with_reducible repeat (first | refine blk_drewN ?_ _ | refine blk_drew ?_ | refine blk_alloc ?_ _)); exact BK275.out) : p := h
theorem att11_0_5 {p : Prop} (h : p := by repeat (first | (with_reducible first | exact HB.out | apply below_alloc | apply pw_below_drewN | apply below_drew1 | refine below_set ?_ GE274.out) | exact HB.out)) : p := h
theorem att11_0_6 {p : Prop} (h : p := by repeat (first | (with_reducible first | exact HB.out | apply below_alloc | apply pw_below_drewN | apply below_drew1) | exact HB.out)) : p := h
theorem att11_0_7 {p : Prop} (h : p := by first | rfl | (simp; done) | (simp [*]; done)) : p := h
theorem att11_0_8 {p : Prop} (h : p := by have := HJ3.out; first | omega | exact Nat.le_refl _) : p := h
theorem att11_0_9 {p : Prop} (h : p := by have := HJ3.out; have := HJ18.out; have := HJ33.out; first | omega | exact Nat.le_refl _) : p := h
theorem att11_0_10 {p : Prop} (h : p := by have := HJ3.out; have := HJ18.out; first | omega | exact Nat.le_refl _) : p := h
/-! ### spec_FoldOne: function 98 -/
mutual
def spec_FoldOne.j0 : Nat → List (S83) → Int → Bool → Int → Int → Int → Int → Int → Option (Int × Int × Int × Int × Int)
 | 0, _, _, _, _, _, _, _, _ => none
 | k + 1, x1, x2, x22, x275000, x275001, x275002, x275003, x275004 => if x22 = true then (some (x275000, x275001, x275002, x275003, x275004)) else ((spec_l19Three.f x275000).bind fun t278 => (if t278 = true then (if 0 ≤ x275002 then (if x275002 < (x1.length : Int) then (if (rd_T83 x1 x275002).f0 = true then (if 0 ≤ x275003 then (if x275003 < (x1.length : Int) then (spec_FoldOne.j1 k x1 x2 ((rd_T83 x1 x275003).f0) x275000 x275001 x275002 x275003 x275004) else (none)) else (none)) else (spec_FoldOne.j1 k x1 x2 false x275000 x275001 x275002 x275003 x275004)) else (none)) else (none)) else (spec_FoldOne.j1 k x1 x2 false x275000 x275001 x275002 x275003 x275004)))
def spec_FoldOne.j1 : Nat → List (S83) → Int → Bool → Int → Int → Int → Int → Int → Option (Int × Int × Int × Int × Int)
 | 0, _, _, _, _, _, _, _, _ => none
 | k + 1, x1, x2, x42, x275000, x275001, x275002, x275003, x275004 => if x42 = true then (if 0 ≤ x275002 then (if x275002 < (x1.length : Int) then (if 0 ≤ x275003 then (if x275003 < (x1.length : Int) then ((spec_l19Of.f x275000 ((rd_T83 x1 x275002).f1) ((rd_T83 x1 x275003).f1)).bind fun t283 => ((spec_l1In.f t283 (-1000000000) 1000000000).bind fun t284 => (if t284 = true then (some (1, x275001, 0, 0, t283)) else (spec_FoldOne.j2 k x1 x2 x275000 x275001 x275002 x275003 x275004)))) else (none)) else (none)) else (none)) else (none)) else (spec_FoldOne.j2 k x1 x2 x275000 x275001 x275002 x275003 x275004)
def spec_FoldOne.j2 : Nat → List (S83) → Int → Int → Int → Int → Int → Int → Option (Int × Int × Int × Int × Int)
 | 0, _, _, _, _, _, _, _ => none
 | k + 1, x1, x2, x275000, x275001, x275002, x275003, x275004 => if x275000 = 12 then (if 0 ≤ x275002 then (if x275002 < (x1.length : Int) then (spec_FoldOne.j3 k x1 x2 ((rd_T83 x1 x275002).f0) x275000 x275001 x275002 x275003 x275004) else (none)) else (none)) else (spec_FoldOne.j3 k x1 x2 false x275000 x275001 x275002 x275003 x275004)
def spec_FoldOne.j3 : Nat → List (S83) → Int → Bool → Int → Int → Int → Int → Int → Option (Int × Int × Int × Int × Int)
 | 0, _, _, _, _, _, _, _, _ => none
 | k + 1, x1, x2, x74, x275000, x275001, x275002, x275003, x275004 => if x74 = true then (if 0 ≤ x275002 then (if x275002 < (x1.length : Int) then (if ((rd_T83 x1 x275002).f1) = 0 then (some (11, 0, 0, 0, x275004)) else (some (11, 0, 0, 0, x2))) else (none)) else (none)) else (some (x275000, x275001, x275002, x275003, x275004))
end
def spec_FoldOne.f (k : Nat) (a0_0 : Int) (a0_1 : Int) (a0_2 : Int) (a0_3 : Int) (a0_4 : Int) (l1 : List (S83)) (a2 : Int) : Option (Int × Int × Int × Int × Int) := if (l1.length : Int) = 4 then ((spec_l1In.f a0_2 0 3).bind fun t276 => (if t276 = true then ((spec_l1In.f a0_3 0 3).bind fun t277 => (spec_FoldOne.j0 k l1 a2 (!t277) a0_0 a0_1 a0_2 a0_3 a0_4)) else (spec_FoldOne.j0 k l1 a2 true a0_0 a0_1 a0_2 a0_3 a0_4))) else (spec_FoldOne.j0 k l1 a2 true a0_0 a0_1 a0_2 a0_3 a0_4)
theorem spec_FoldOne.mono_l : ∀ k, (∀ y0 y1 y2 y3 y4 y5 y6 y7, LeO (spec_FoldOne.j0 k y0 y1 y2 y3 y4 y5 y6 y7) (spec_FoldOne.j0 (k + 1) y0 y1 y2 y3 y4 y5 y6 y7)) ∧ (∀ y0 y1 y2 y3 y4 y5 y6 y7, LeO (spec_FoldOne.j1 k y0 y1 y2 y3 y4 y5 y6 y7) (spec_FoldOne.j1 (k + 1) y0 y1 y2 y3 y4 y5 y6 y7)) ∧ (∀ y0 y1 y2 y3 y4 y5 y6, LeO (spec_FoldOne.j2 k y0 y1 y2 y3 y4 y5 y6) (spec_FoldOne.j2 (k + 1) y0 y1 y2 y3 y4 y5 y6)) ∧ (∀ y0 y1 y2 y3 y4 y5 y6 y7, LeO (spec_FoldOne.j3 k y0 y1 y2 y3 y4 y5 y6 y7) (spec_FoldOne.j3 (k + 1) y0 y1 y2 y3 y4 y5 y6 y7))
 | 0 => ⟨fun _ _ _ _ _ _ _ _ r h => by simp [spec_FoldOne.j0] at h, fun _ _ _ _ _ _ _ _ r h => by simp [spec_FoldOne.j1] at h, fun _ _ _ _ _ _ _ r h => by simp [spec_FoldOne.j2] at h, fun _ _ _ _ _ _ _ _ r h => by simp [spec_FoldOne.j3] at h⟩
 | k + 1 => by
  obtain ⟨ih0, ih1, ih2, ih3⟩ := spec_FoldOne.mono_l k
  refine ⟨?_, ?_, ?_, ?_⟩
  ·intro y0 y1 y2 y3 y4 y5 y6 y7
   unfold spec_FoldOne.j0
   repeat' first
   | (with_reducible exact ih0 _ _ _ _ _ _ _ _)
   | (with_reducible exact ih1 _ _ _ _ _ _ _ _)
   | (with_reducible exact ih2 _ _ _ _ _ _ _)
   | (with_reducible exact ih3 _ _ _ _ _ _ _ _)
   | (with_reducible exact LeO.refl _)
   | (with_reducible exact LeO.none _)
   | (with_reducible refine LeO.ite ?_ ?_)
   | (with_reducible refine LeO.bind ?_ (fun _ => ?_))
   | exact ih0 _ _ _ _ _ _ _ _
   | exact ih1 _ _ _ _ _ _ _ _
   | exact ih2 _ _ _ _ _ _ _
   | exact ih3 _ _ _ _ _ _ _ _
   | exact LeO.none _
   | refine LeO.ite ?_ ?_
   | refine LeO.bind ?_ (fun _ => ?_)
  ·intro y0 y1 y2 y3 y4 y5 y6 y7
   unfold spec_FoldOne.j1
   repeat' first
   | (with_reducible exact ih0 _ _ _ _ _ _ _ _)
   | (with_reducible exact ih1 _ _ _ _ _ _ _ _)
   | (with_reducible exact ih2 _ _ _ _ _ _ _)
   | (with_reducible exact ih3 _ _ _ _ _ _ _ _)
   | (with_reducible exact LeO.refl _)
   | (with_reducible exact LeO.none _)
   | (with_reducible refine LeO.ite ?_ ?_)
   | (with_reducible refine LeO.bind ?_ (fun _ => ?_))
   | exact ih0 _ _ _ _ _ _ _ _
   | exact ih1 _ _ _ _ _ _ _ _
   | exact ih2 _ _ _ _ _ _ _
   | exact ih3 _ _ _ _ _ _ _ _
   | exact LeO.none _
   | refine LeO.ite ?_ ?_
   | refine LeO.bind ?_ (fun _ => ?_)
  ·intro y0 y1 y2 y3 y4 y5 y6
   unfold spec_FoldOne.j2
   repeat' first
   | (with_reducible exact ih0 _ _ _ _ _ _ _ _)
   | (with_reducible exact ih1 _ _ _ _ _ _ _ _)
   | (with_reducible exact ih2 _ _ _ _ _ _ _)
   | (with_reducible exact ih3 _ _ _ _ _ _ _ _)
   | (with_reducible exact LeO.refl _)
   | (with_reducible exact LeO.none _)
   | (with_reducible refine LeO.ite ?_ ?_)
   | (with_reducible refine LeO.bind ?_ (fun _ => ?_))
   | exact ih0 _ _ _ _ _ _ _ _
   | exact ih1 _ _ _ _ _ _ _ _
   | exact ih2 _ _ _ _ _ _ _
   | exact ih3 _ _ _ _ _ _ _ _
   | exact LeO.none _
   | refine LeO.ite ?_ ?_
   | refine LeO.bind ?_ (fun _ => ?_)
  ·intro y0 y1 y2 y3 y4 y5 y6 y7
   unfold spec_FoldOne.j3
   repeat' first
   | (with_reducible exact ih0 _ _ _ _ _ _ _ _)
   | (with_reducible exact ih1 _ _ _ _ _ _ _ _)
   | (with_reducible exact ih2 _ _ _ _ _ _ _)
   | (with_reducible exact ih3 _ _ _ _ _ _ _ _)
   | (with_reducible exact LeO.refl _)
   | (with_reducible exact LeO.none _)
   | (with_reducible refine LeO.ite ?_ ?_)
   | (with_reducible refine LeO.bind ?_ (fun _ => ?_))
   | exact ih0 _ _ _ _ _ _ _ _
   | exact ih1 _ _ _ _ _ _ _ _
   | exact ih2 _ _ _ _ _ _ _
   | exact ih3 _ _ _ _ _ _ _ _
   | exact LeO.none _
   | refine LeO.ite ?_ ?_
   | refine LeO.bind ?_ (fun _ => ?_)
theorem spec_FoldOne.mono : ∀ a0 a1 a2 a3 a4 a5 a6 k, LeO (spec_FoldOne.f k a0 a1 a2 a3 a4 a5 a6) (spec_FoldOne.f (k + 1) a0 a1 a2 a3 a4 a5 a6) := by
 intro a0 a1 a2 a3 a4 a5 a6 k
 obtain ⟨ih0, ih1, ih2, ih3⟩ := spec_FoldOne.mono_l k
 unfold spec_FoldOne.f
 repeat' first
   | (with_reducible exact ih0 _ _ _ _ _ _ _ _)
   | (with_reducible exact ih1 _ _ _ _ _ _ _ _)
   | (with_reducible exact ih2 _ _ _ _ _ _ _)
   | (with_reducible exact ih3 _ _ _ _ _ _ _ _)
   | (with_reducible exact LeO.refl _)
   | (with_reducible exact LeO.none _)
   | (with_reducible refine LeO.ite ?_ ?_)
   | (with_reducible refine LeO.bind ?_ (fun _ => ?_))
   | exact ih0 _ _ _ _ _ _ _ _
   | exact ih1 _ _ _ _ _ _ _ _
   | exact ih2 _ _ _ _ _ _ _
   | exact ih3 _ _ _ _ _ _ _ _
   | exact LeO.none _
   | refine LeO.ite ?_ ?_
   | refine LeO.bind ?_ (fun _ => ?_)
set_option maxHeartbeats 80000000 in
set_option maxRecDepth 100000 in
theorem spec_FoldOne.calls (k : Nat) (a0_0 : Int) (a0_1 : Int) (a0_2 : Int) (a0_3 : Int) (a0_4 : Int) (A1 : Option Addr) (c1 : Nat) (l1 : List (S83)) (a2 : Int) (r1 : Int) (r2 : Int) (r3 : Int) (r4 : Int) (r5 : Int) (w : World) (hr1 : Kd.C k83 w A1 l1.length l1) (hc1 : l1.length ≤ c1) (h : spec_FoldOne.f k a0_0 a0_1 a0_2 a0_3 a0_4 l1 a2 = some (r1, r2, r3, r4, r5)) :
  Calls Try.prog 98 #[.agg #[.int .i64 a0_0, .int .i64 a0_1, .int .i64 a0_2, .int .i64 a0_3, .int .i64 a0_4], .slice A1 l1.length c1, .int .i64 a2] w fun e w' => e = .returned (.agg #[.int .i64 r1, .int .i64 r2, .int .i64 r3, .int .i64 r4, .int .i64 r5]) ∧ Below w.heap.size w w' := by
 have hu63 := Try.underlying63
 have HR1 := Aside0.mk hr1
 have HC1 := Aside0.mk hc1
 clear hr1 hc1
 have HB := Aside0.mk (Below.refl w.heap.size w)
 have H : (if (l1.length : Int) = 4 then ((spec_l1In.f a0_2 0 3).bind fun t276 => (if t276 = true then ((spec_l1In.f a0_3 0 3).bind fun t277 => (spec_FoldOne.j0 k l1 a2 (!t277) a0_0 a0_1 a0_2 a0_3 a0_4)) else (spec_FoldOne.j0 k l1 a2 true a0_0 a0_1 a0_2 a0_3 a0_4))) else (spec_FoldOne.j0 k l1 a2 true a0_0 a0_1 a0_2 a0_3 a0_4)) = some (r1, r2, r3, r4, r5) := h
 clear h
 have HC4 := Aside0.mk H
 clear H
 go_enter Try.func98, Try.ntmps98
 go_upto_region 1 with (first | ((with_reducible refine gate_dst (N := 3) rfl ?_); refine box_event ?hg (N := 3) ?hd (cs := #[.int .i64 a0_0, .int .i64 a0_1, .int .i64 a0_2, .int .i64 a0_3, .int .i64 a0_4]) (t := 63) ?hr ?_; (case hd => rfl); (case hg => rfl); (case hr => first | (go_simp; done) | (go_simp; rfl)); intro gb274 hg w5 hbox hb; have n0_ := Aside0.mk (below_step att11_0_6 hb); have n1_ := Aside0.mk (hbox); have n2_ := Aside0.mk ((by rw [hg]; exact (below_size att11_0_6) : w.heap.size ≤ gb274)); have n3_ := Aside0.mk ((by rw [hg]; exact (below_size att11_0_6) : w.heap.size ≤ gb274)); clear HB; have HB := n0_; have BK274 := n1_; have GW274 := n2_; have GE274 := n3_; clear n0_ n1_ n2_ n3_; clear hb hbox hg) | ((with_reducible refine gate_dst (N := 6) rfl ?_); refine box_event ?hg (N := 6) ?hd (cs := #[.int .i64 0, .int .i64 0, .int .i64 0, .int .i64 0, .int .i64 0]) (t := 63) ?hr ?_; (case hd => rfl); (case hg => rfl); (case hr => first | (go_simp; done) | (go_simp; rfl)); intro gb275 hg w6 hbox hb; have n0_ := Aside0.mk (blk_below (g := gb274) (o := .cells #[.int .i64 a0_0, .int .i64 a0_1, .int .i64 a0_2, .int .i64 a0_3, .int .i64 a0_4] 63 (0, 0)) att11_0_1 hb); have n1_ := Aside0.mk (below_step att11_0_5 hb); have n2_ := Aside0.mk (hbox); have n3_ := Aside0.mk ((by rw [hg]; exact (below_size att11_0_5) : w.heap.size ≤ gb275)); have n4_ := Aside0.mk ((by rw [hg]; exact (below_size att11_0_5) : w.heap.size ≤ gb275)); have n5_ := Aside0.mk ((by rw [hg]; exact Nat.ne_of_lt (blk_lt (g := gb274) (o := .cells #[.int .i64 a0_0, .int .i64 a0_1, .int .i64 a0_2, .int .i64 a0_3, .int .i64 a0_4] 63 (0, 0)) att11_0_1) : gb274 ≠ gb275)); have n6_ := Aside0.mk ((by rw [hg]; exact Nat.ne_of_gt (blk_lt (g := gb274) (o := .cells #[.int .i64 a0_0, .int .i64 a0_1, .int .i64 a0_2, .int .i64 a0_3, .int .i64 a0_4] 63 (0, 0)) att11_0_1) : gb275 ≠ gb274)); clear BK274; clear HB; have BK274 := n0_; have HB := n1_; have BK275 := n2_; have GW275 := n3_; have GE275 := n4_; have NB274_275 := n5_; have NB275_274 := n6_; clear n0_ n1_ n2_ n3_ n4_ n5_ n6_; clear hb hbox hg))
 repeat (go_quiet (fail); go_upto_region 1 with (first | ((with_reducible refine gate_dst (N := 3) rfl ?_); refine box_event ?hg (N := 3) ?hd (cs := #[.int .i64 a0_0, .int .i64 a0_1, .int .i64 a0_2, .int .i64 a0_3, .int .i64 a0_4]) (t := 63) ?hr ?_; (case hd => rfl); (case hg => rfl); (case hr => first | (go_simp; done) | (go_simp; rfl)); intro gb274 hg w5 hbox hb; have n0_ := Aside0.mk (below_step att11_0_6 hb); have n1_ := Aside0.mk (hbox); have n2_ := Aside0.mk ((by rw [hg]; exact (below_size att11_0_6) : w.heap.size ≤ gb274)); have n3_ := Aside0.mk ((by rw [hg]; exact (below_size att11_0_6) : w.heap.size ≤ gb274)); clear HB; have HB := n0_; have BK274 := n1_; have GW274 := n2_; have GE274 := n3_; clear n0_ n1_ n2_ n3_; clear hb hbox hg) | ((with_reducible refine gate_dst (N := 6) rfl ?_); refine box_event ?hg (N := 6) ?hd (cs := #[.int .i64 0, .int .i64 0, .int .i64 0, .int .i64 0, .int .i64 0]) (t := 63) ?hr ?_; (case hd => rfl); (case hg => rfl); (case hr => first | (go_simp; done) | (go_simp; rfl)); intro gb275 hg w6 hbox hb; have n0_ := Aside0.mk (blk_below (g := gb274) (o := .cells #[.int .i64 a0_0, .int .i64 a0_1, .int .i64 a0_2, .int .i64 a0_3, .int .i64 a0_4] 63 (0, 0)) att11_0_1 hb); have n1_ := Aside0.mk (below_step att11_0_5 hb); have n2_ := Aside0.mk (hbox); have n3_ := Aside0.mk ((by rw [hg]; exact (below_size att11_0_5) : w.heap.size ≤ gb275)); have n4_ := Aside0.mk ((by rw [hg]; exact (below_size att11_0_5) : w.heap.size ≤ gb275)); have n5_ := Aside0.mk ((by rw [hg]; exact Nat.ne_of_lt (blk_lt (g := gb274) (o := .cells #[.int .i64 a0_0, .int .i64 a0_1, .int .i64 a0_2, .int .i64 a0_3, .int .i64 a0_4] 63 (0, 0)) att11_0_1) : gb274 ≠ gb275)); have n6_ := Aside0.mk ((by rw [hg]; exact Nat.ne_of_gt (blk_lt (g := gb274) (o := .cells #[.int .i64 a0_0, .int .i64 a0_1, .int .i64 a0_2, .int .i64 a0_3, .int .i64 a0_4] 63 (0, 0)) att11_0_1) : gb275 ≠ gb274)); clear BK274; clear HB; have BK274 := n0_; have HB := n1_; have BK275 := n2_; have GW275 := n3_; have GE275 := n4_; have NB274_275 := n5_; have NB275_274 := n6_; clear n0_ n1_ n2_ n3_ n4_ n5_ n6_; clear hb hbox hg)))
 (try simp only [Act.put, List.setIfInBounds_toArray, List.set_cons_zero, List.set_cons_succ])
 go_cut [22] (fun v22 wc => ∃ (kq : Nat) (x22_3 : Bool), v22 = .bool x22_3 ∧ Aside0 (spec_FoldOne.j0 kq l1 a2 x22_3 a0_0 a0_1 a0_2 a0_3 a0_4 = some (r1, r2, r3, r4, r5)) ∧ Aside0 (kq ≤ k) ∧ Aside0 (wc.heap[gb274]? = some (.cells #[.int .i64 a0_0, .int .i64 a0_1, .int .i64 a0_2, .int .i64 a0_3, .int .i64 a0_4] 63 (0, 0))) ∧ Aside0 (wc.heap[gb275]? = some (.cells #[.int .i64 0, .int .i64 0, .int .i64 0, .int .i64 0, .int .i64 0] 63 (0, 0))) ∧ Aside0 (Below w.heap.size w wc))
 case first =>
  have H := HC4.out
  clear HC4
  by_cases c7 : (l1.length : Int) = 4
  ·rw [if_pos c7] at H
   have c7b0 : ((l1.length : Int) == 4) = true := beq_iff_eq.mpr c7
   have c7b1 : ((l1.length : Int) != 4) = false := bne_eq_false_iff_eq.mpr c7
   clear c7
   (first | rw [c7b0] | (simp only [i64_w, i32_w]; rw [c7b0]) | skip)
   replace H := Option.bind_eq_some_iff.mp H
   obtain ⟨t276, A80, H⟩ := H
   (try dsimp only at H)
   have A8 := Aside0.mk A80
   clear A80
   by_cases c9 : t276 = true
   ·subst c9
    rw [if_pos rfl] at H
    replace H := Option.bind_eq_some_iff.mp H
    obtain ⟨t277, A100, H⟩ := H
    (try dsimp only at H)
    have A10 := Aside0.mk A100
    clear A100
    have H' := Aside0.mk H
    clear H
    have hnb11 := NB274_275.out
    have hnc11 := NB275_274.out
    have hcz12_0 : w6.cell? ⟨gb274, 0, none⟩ = some (.int .i64 a0_0) := (blk_cell BK274.out 0).trans rfl
    have hcz12_1 : w6.cell? ⟨gb274, 1, none⟩ = some (.int .i64 a0_1) := (blk_cell BK274.out 1).trans rfl
    have hcz12_2 : w6.cell? ⟨gb274, 2, none⟩ = some (.int .i64 a0_2) := (blk_cell BK274.out 2).trans rfl
    have hcz12_3 : w6.cell? ⟨gb274, 3, none⟩ = some (.int .i64 a0_3) := (blk_cell BK274.out 3).trans rfl
    have hcz12_4 : w6.cell? ⟨gb274, 4, none⟩ = some (.int .i64 a0_4) := (blk_cell BK274.out 4).trans rfl
    have hfz12_0 := blk_frozen BK274.out 0
    have hfz12_1 := blk_frozen BK274.out 1
    have hfz12_2 := blk_frozen BK274.out 2
    have hfz12_3 := blk_frozen BK274.out 3
    have hfz12_4 := blk_frozen BK274.out 4
    go_wp2_with (first | (go_at_call 75; (with_reducible refine (spec_l1In.calls a0_2 0 3 true _ A8.out).mono ?_); rintro e w' ⟨rfl, ⟨nd, rfl⟩⟩; (try first | exact ⟨rfl, _, World.drewN_drewN _ _ _⟩ | exact ⟨rfl, _, Eq.trans (World.drewN_drewN _ _ _) (congrArg (World.drewN _) (Nat.add_assoc _ _ _))⟩)) | (go_at_call 75; (with_reducible refine (spec_l1In.calls a0_3 0 3 t277 _ A10.out).mono ?_); rintro e w' ⟨rfl, ⟨nd, rfl⟩⟩; (try first | exact ⟨rfl, _, World.drewN_drewN _ _ _⟩ | exact ⟨rfl, _, Eq.trans (World.drewN_drewN _ _ _) (congrArg (World.drewN _) (Nat.add_assoc _ _ _))⟩)))
    repeat (go_quiet (first | (go_at_call 75; (with_reducible refine (spec_l1In.calls a0_2 0 3 true _ A8.out).mono ?_); rintro e w' ⟨rfl, ⟨nd, rfl⟩⟩; (try first | exact ⟨rfl, _, World.drewN_drewN _ _ _⟩ | exact ⟨rfl, _, Eq.trans (World.drewN_drewN _ _ _) (congrArg (World.drewN _) (Nat.add_assoc _ _ _))⟩)) | (go_at_call 75; (with_reducible refine (spec_l1In.calls a0_3 0 3 t277 _ A10.out).mono ?_); rintro e w' ⟨rfl, ⟨nd, rfl⟩⟩; (try first | exact ⟨rfl, _, World.drewN_drewN _ _ _⟩ | exact ⟨rfl, _, Eq.trans (World.drewN_drewN _ _ _) (congrArg (World.drewN _) (Nat.add_assoc _ _ _))⟩))); try go_wp2_with (first | (go_at_call 75; (with_reducible refine (spec_l1In.calls a0_2 0 3 true _ A8.out).mono ?_); rintro e w' ⟨rfl, ⟨nd, rfl⟩⟩; (try first | exact ⟨rfl, _, World.drewN_drewN _ _ _⟩ | exact ⟨rfl, _, Eq.trans (World.drewN_drewN _ _ _) (congrArg (World.drewN _) (Nat.add_assoc _ _ _))⟩)) | (go_at_call 75; (with_reducible refine (spec_l1In.calls a0_3 0 3 t277 _ A10.out).mono ?_); rintro e w' ⟨rfl, ⟨nd, rfl⟩⟩; (try first | exact ⟨rfl, _, World.drewN_drewN _ _ _⟩ | exact ⟨rfl, _, Eq.trans (World.drewN_drewN _ _ _) (congrArg (World.drewN _) (Nat.add_assoc _ _ _))⟩))))
    go_meet
    case rel => exact ⟨_, (!t277), att11_0_7, H', ⟨by first | omega | exact Nat.le_refl _⟩, ⟨att11_0_1⟩, ⟨att11_0_4⟩, ⟨att11_0_0⟩⟩
   ·replace c9 := Bool.eq_false_iff.mpr c9
    subst c9
    rw [if_neg (show ¬ (false = true) by decide)] at H
    have H' := Aside0.mk H
    clear H
    have hnb13 := NB274_275.out
    have hnc13 := NB275_274.out
    have hcz14_0 : w6.cell? ⟨gb274, 0, none⟩ = some (.int .i64 a0_0) := (blk_cell BK274.out 0).trans rfl
    have hcz14_1 : w6.cell? ⟨gb274, 1, none⟩ = some (.int .i64 a0_1) := (blk_cell BK274.out 1).trans rfl
    have hcz14_2 : w6.cell? ⟨gb274, 2, none⟩ = some (.int .i64 a0_2) := (blk_cell BK274.out 2).trans rfl
    have hcz14_3 : w6.cell? ⟨gb274, 3, none⟩ = some (.int .i64 a0_3) := (blk_cell BK274.out 3).trans rfl
    have hcz14_4 : w6.cell? ⟨gb274, 4, none⟩ = some (.int .i64 a0_4) := (blk_cell BK274.out 4).trans rfl
    have hfz14_0 := blk_frozen BK274.out 0
    have hfz14_1 := blk_frozen BK274.out 1
    have hfz14_2 := blk_frozen BK274.out 2
    have hfz14_3 := blk_frozen BK274.out 3
    have hfz14_4 := blk_frozen BK274.out 4
    go_wp2_with (first | (go_at_call 75; (with_reducible refine (spec_l1In.calls a0_2 0 3 false _ A8.out).mono ?_); rintro e w' ⟨rfl, ⟨nd, rfl⟩⟩; (try first | exact ⟨rfl, _, World.drewN_drewN _ _ _⟩ | exact ⟨rfl, _, Eq.trans (World.drewN_drewN _ _ _) (congrArg (World.drewN _) (Nat.add_assoc _ _ _))⟩)))
    repeat (go_quiet (first | (go_at_call 75; (with_reducible refine (spec_l1In.calls a0_2 0 3 false _ A8.out).mono ?_); rintro e w' ⟨rfl, ⟨nd, rfl⟩⟩; (try first | exact ⟨rfl, _, World.drewN_drewN _ _ _⟩ | exact ⟨rfl, _, Eq.trans (World.drewN_drewN _ _ _) (congrArg (World.drewN _) (Nat.add_assoc _ _ _))⟩))); try go_wp2_with (first | (go_at_call 75; (with_reducible refine (spec_l1In.calls a0_2 0 3 false _ A8.out).mono ?_); rintro e w' ⟨rfl, ⟨nd, rfl⟩⟩; (try first | exact ⟨rfl, _, World.drewN_drewN _ _ _⟩ | exact ⟨rfl, _, Eq.trans (World.drewN_drewN _ _ _) (congrArg (World.drewN _) (Nat.add_assoc _ _ _))⟩))))
    go_meet
    case rel => exact ⟨_, (true), att11_0_7, H', ⟨by first | omega | exact Nat.le_refl _⟩, ⟨att11_0_1⟩, ⟨att11_0_4⟩, ⟨att11_0_0⟩⟩
  ·rw [if_neg c7] at H
   have c7b0 : ((l1.length : Int) == 4) = false := beq_eq_false_iff_ne.mpr c7
   have c7b1 : ((l1.length : Int) != 4) = true := bne_iff_ne.mpr c7
   (first | rw [c7b0] | (simp only [i64_w, i32_w]; rw [c7b0]) | skip)
   have H' := Aside0.mk H
   clear H
   go_wp2
   repeat (go_quiet (fail); try go_wp2)
   go_meet
   case rel => exact ⟨_, (true), att11_0_7, H', ⟨by first | omega | exact Nat.le_refl _⟩, ⟨att11_0_1⟩, ⟨att11_0_4⟩, ⟨att11_0_0⟩⟩
 case rest =>
  clear HC4
  try clear c1
  try clear p2
  try clear c7
  try clear c7b0
  try clear c7b1
  try clear c9
  try clear c11
  try clear c13
  try clear hcz12_0
  try clear hcz12_1
  try clear hcz12_2
  try clear hcz12_3
  try clear hcz12_4
  try clear hcz14_0
  try clear hcz14_1
  try clear hcz14_2
  try clear hcz14_3
  try clear hcz14_4
  try clear hfz12_0
  try clear hfz12_1
  try clear hfz12_2
  try clear hfz12_3
  try clear hfz12_4
  try clear hfz14_0
  try clear hfz14_1
  try clear hfz14_2
  try clear hfz14_3
  try clear hfz14_4
  obtain ⟨kq, x22_3, rfl, HA, HJ3, BK274, BK275, HB⟩ := hcut
  cases kq with
  | zero => exact absurd HA.out (by simp [spec_FoldOne.j0])
  | succ kj3 =>
   have H := HA.out
   clear HA
   simp only [spec_FoldOne.j0] at H
   by_cases c15 : x22_3 = true
   ·subst c15
    rw [if_pos rfl] at H
    simp only [Option.some.injEq, Prod.mk.injEq] at H
    obtain ⟨rfl, rfl, rfl, rfl, rfl⟩ := H
    have hnb16 := NB274_275.out
    have hnc16 := NB275_274.out
    have hcz17_0 : wc.cell? ⟨gb274, 0, none⟩ = some (.int .i64 a0_0) := (blk_cell BK274.out 0).trans rfl
    have hcz17_1 : wc.cell? ⟨gb274, 1, none⟩ = some (.int .i64 a0_1) := (blk_cell BK274.out 1).trans rfl
    have hcz17_2 : wc.cell? ⟨gb274, 2, none⟩ = some (.int .i64 a0_2) := (blk_cell BK274.out 2).trans rfl
    have hcz17_3 : wc.cell? ⟨gb274, 3, none⟩ = some (.int .i64 a0_3) := (blk_cell BK274.out 3).trans rfl
    have hcz17_4 : wc.cell? ⟨gb274, 4, none⟩ = some (.int .i64 a0_4) := (blk_cell BK274.out 4).trans rfl
    have hfz17_0 := blk_frozen BK274.out 0
    have hfz17_1 := blk_frozen BK274.out 1
    have hfz17_2 := blk_frozen BK274.out 2
    have hfz17_3 := blk_frozen BK274.out 3
    have hfz17_4 := blk_frozen BK274.out 4
    have hcz18_0 : wc.cell? ⟨gb275, 0, none⟩ = some (.int .i64 0) := (blk_cell BK275.out 0).trans rfl
    have hcz18_1 : wc.cell? ⟨gb275, 1, none⟩ = some (.int .i64 0) := (blk_cell BK275.out 1).trans rfl
    have hcz18_2 : wc.cell? ⟨gb275, 2, none⟩ = some (.int .i64 0) := (blk_cell BK275.out 2).trans rfl
    have hcz18_3 : wc.cell? ⟨gb275, 3, none⟩ = some (.int .i64 0) := (blk_cell BK275.out 3).trans rfl
    have hcz18_4 : wc.cell? ⟨gb275, 4, none⟩ = some (.int .i64 0) := (blk_cell BK275.out 4).trans rfl
    have hfz18_0 := blk_frozen BK275.out 0
    have hfz18_1 := blk_frozen BK275.out 1
    have hfz18_2 := blk_frozen BK275.out 2
    have hfz18_3 := blk_frozen BK275.out 3
    have hfz18_4 := blk_frozen BK275.out 4
    go_wp2
    repeat (go_quiet (fail); try go_wp2)
    refine bodyPost_ret (results_cell_row rfl _ _ gb275 63 #[.int .i64 a0_0, .int .i64 a0_1, .int .i64 a0_2, .int .i64 a0_3, .int .i64 a0_4] (0, 0) _ rfl (by (with_reducible repeat (first | refine blk_drewN ?_ _ | refine blk_drew ?_ | refine blk_alloc ?_ _)); refine blk_put (cs := #[.int .i64 a0_0, .int .i64 a0_1, .int .i64 a0_2, .int .i64 a0_3, .int .i64 0]) ?_ 4 _ rfl; (with_reducible repeat (first | refine blk_drewN ?_ _ | refine blk_drew ?_ | refine blk_alloc ?_ _)); refine blk_put (cs := #[.int .i64 a0_0, .int .i64 a0_1, .int .i64 a0_2, .int .i64 0, .int .i64 0]) ?_ 3 _ rfl; (with_reducible repeat (first | refine blk_drewN ?_ _ | refine blk_drew ?_ | refine blk_alloc ?_ _)); refine blk_put (cs := #[.int .i64 a0_0, .int .i64 a0_1, .int .i64 0, .int .i64 0, .int .i64 0]) ?_ 2 _ rfl; (with_reducible repeat (first | refine blk_drewN ?_ _ | refine blk_drew ?_ | refine blk_alloc ?_ _)); refine blk_put (cs := #[.int .i64 a0_0, .int .i64 0, .int .i64 0, .int .i64 0, .int .i64 0]) ?_ 1 _ rfl; (with_reducible repeat (first | refine blk_drewN ?_ _ | refine blk_drew ?_ | refine blk_alloc ?_ _)); refine blk_put (cs := #[.int .i64 0, .int .i64 0, .int .i64 0, .int .i64 0, .int .i64 0]) ?_ 0 _ rfl; (with_reducible repeat (first | refine blk_drewN ?_ _ | refine blk_drew ?_ | refine blk_alloc ?_ _)); exact BK275.out) Try.underlying63 rfl (by kernel_rfl)) rfl ?_
    exact ⟨by first | rfl | (simp [errW_none, errW_some] <;> rfl) | (simp [*, errW_none, errW_some] <;> rfl), att11_0_0⟩
   ·replace c15 := Bool.eq_false_iff.mpr c15
    subst c15
    rw [if_neg (show ¬ (false = true) by decide)] at H
    have HC19 := Aside0.mk H
    clear H
    go_upto_region 3 with (fail)
    repeat (go_quiet (fail); go_upto_region 3 with (fail))
    go_cut [42] (fun v42 wc => ∃ (kq : Nat) (x42_18 : Bool), v42 = .bool x42_18 ∧ Aside0 (spec_FoldOne.j1 kq l1 a2 x42_18 a0_0 a0_1 a0_2 a0_3 a0_4 = some (r1, r2, r3, r4, r5)) ∧ Aside0 (kq ≤ kj3) ∧ Aside0 (wc.heap[gb274]? = some (.cells #[.int .i64 a0_0, .int .i64 a0_1, .int .i64 a0_2, .int .i64 a0_3, .int .i64 a0_4] 63 (0, 0))) ∧ Aside0 (wc.heap[gb275]? = some (.cells #[.int .i64 0, .int .i64 0, .int .i64 0, .int .i64 0, .int .i64 0] 63 (0, 0))) ∧ Aside0 (Below w.heap.size w wc))
    case first =>
     have H := HC19.out
     clear HC19
     replace H := Option.bind_eq_some_iff.mp H
     obtain ⟨t278, A200, H⟩ := H
     (try dsimp only at H)
     have A20 := Aside0.mk A200
     clear A200
     by_cases c21 : t278 = true
     ·subst c21
      rw [if_pos rfl] at H
      by_cases c22 : 0 ≤ a0_2
      ·rw [if_pos c22] at H
       have c22b0 : decide (0 ≤ a0_2) = true := decide_eq_true c22
       clear c22
       (first | rw [c22b0] | (simp only [i64_w, i32_w]; rw [c22b0]) | skip)
       by_cases c23 : a0_2 < (l1.length : Int)
       ·rw [if_pos c23] at H
        have c23b0 : decide (a0_2 < (l1.length : Int)) = true := decide_eq_true c23
        clear c23
        obtain ⟨bq24, hbq24⟩ : ∃ b_ : Bool, b_ = ((rd_T83 l1 a0_2).f0) := ⟨_, rfl⟩
        replace H : (if bq24 = true then (if 0 ≤ a0_3 then (if a0_3 < (l1.length : Int) then (spec_FoldOne.j1 kj3 l1 a2 ((rd_T83 l1 a0_3).f0) a0_0 a0_1 a0_2 a0_3 a0_4) else (none)) else (none)) else (spec_FoldOne.j1 kj3 l1 a2 false a0_0 a0_1 a0_2 a0_3 a0_4)) = some (r1, r2, r3, r4, r5) := by rw [← hbq24] at H; exact H
        have Nbq24 := Aside0.mk hbq24
        clear hbq24
        by_cases c25 : bq24 = true
        ·subst c25
         rw [if_pos rfl] at H
         by_cases c26 : 0 ≤ a0_3
         ·rw [if_pos c26] at H
          have c26b0 : decide (0 ≤ a0_3) = true := decide_eq_true c26
          clear c26
          by_cases c27 : a0_3 < (l1.length : Int)
          ·rw [if_pos c27] at H
           have c27b0 : decide (a0_3 < (l1.length : Int)) = true := decide_eq_true c27
           clear c27
           have H' := Aside0.mk H
           clear H
           have hnb28 := NB274_275.out
           have hnc28 := NB275_274.out
           have hcz29_0 : wc.cell? ⟨gb274, 0, none⟩ = some (.int .i64 a0_0) := (blk_cell BK274.out 0).trans rfl
           have hcz29_1 : wc.cell? ⟨gb274, 1, none⟩ = some (.int .i64 a0_1) := (blk_cell BK274.out 1).trans rfl
           have hcz29_2 : wc.cell? ⟨gb274, 2, none⟩ = some (.int .i64 a0_2) := (blk_cell BK274.out 2).trans rfl
           have hcz29_3 : wc.cell? ⟨gb274, 3, none⟩ = some (.int .i64 a0_3) := (blk_cell BK274.out 3).trans rfl
           have hcz29_4 : wc.cell? ⟨gb274, 4, none⟩ = some (.int .i64 a0_4) := (blk_cell BK274.out 4).trans rfl
           have hfz29_0 := blk_frozen BK274.out 0
           have hfz29_1 := blk_frozen BK274.out 1
           have hfz29_2 := blk_frozen BK274.out 2
           have hfz29_3 := blk_frozen BK274.out 3
           have hfz29_4 := blk_frozen BK274.out 4
           go_wp2_with (first | (go_at_call 89; (with_reducible refine (spec_l19Three.calls a0_0 true _ A20.out).mono ?_); rintro e w' ⟨rfl, ⟨nd, rfl⟩⟩; (try first | exact ⟨rfl, _, World.drewN_drewN _ _ _⟩ | exact ⟨rfl, _, Eq.trans (World.drewN_drewN _ _ _) (congrArg (World.drewN _) (Nat.add_assoc _ _ _))⟩); have p279 : 0 ≤ (a0_2 : Int) := of_decide_eq_true att11_0_2; have q279 : a0_2 < (l1.length : Int) := of_decide_eq_true att11_0_2; obtain ⟨ad279, e279, hx279_0, hx279_1⟩ := at_T83 HR1.out a0_2 p279 q279; (try rw [← Nbq24.out] at hx279_0); cases e279; replace hx279_0 := (HB.out.cell (World.block_lt_of_cell? w _ hx279_0)).trans hx279_0; replace hx279_1 := (HB.out.cell (World.block_lt_of_cell? w _ hx279_1)).trans hx279_1; replace p279 := eq_true p279; replace q279 := eq_true q279; have p280 : 0 ≤ (a0_3 : Int) := of_decide_eq_true att11_0_2; have q280 : a0_3 < (l1.length : Int) := of_decide_eq_true att11_0_2; obtain ⟨ad280, e280, hx280_0, hx280_1⟩ := at_T83 HR1.out a0_3 p280 q280; (try rw [← Nbq24.out] at hx280_0); obtain rfl : ad279 = ad280 := (by injection e280); replace hx280_0 := (HB.out.cell (World.block_lt_of_cell? w _ hx280_0)).trans hx280_0; replace hx280_1 := (HB.out.cell (World.block_lt_of_cell? w _ hx280_1)).trans hx280_1; replace p280 := eq_true p280; replace q280 := eq_true q280))
           repeat (go_quiet (first | (go_at_call 89; (with_reducible refine (spec_l19Three.calls a0_0 true _ A20.out).mono ?_); rintro e w' ⟨rfl, ⟨nd, rfl⟩⟩; (try first | exact ⟨rfl, _, World.drewN_drewN _ _ _⟩ | exact ⟨rfl, _, Eq.trans (World.drewN_drewN _ _ _) (congrArg (World.drewN _) (Nat.add_assoc _ _ _))⟩); have p279 : 0 ≤ (a0_2 : Int) := of_decide_eq_true att11_0_2; have q279 : a0_2 < (l1.length : Int) := of_decide_eq_true att11_0_2; obtain ⟨ad279, e279, hx279_0, hx279_1⟩ := at_T83 HR1.out a0_2 p279 q279; (try rw [← Nbq24.out] at hx279_0); cases e279; replace hx279_0 := (HB.out.cell (World.block_lt_of_cell? w _ hx279_0)).trans hx279_0; replace hx279_1 := (HB.out.cell (World.block_lt_of_cell? w _ hx279_1)).trans hx279_1; replace p279 := eq_true p279; replace q279 := eq_true q279; have p280 : 0 ≤ (a0_3 : Int) := of_decide_eq_true att11_0_2; have q280 : a0_3 < (l1.length : Int) := of_decide_eq_true att11_0_2; obtain ⟨ad280, e280, hx280_0, hx280_1⟩ := at_T83 HR1.out a0_3 p280 q280; (try rw [← Nbq24.out] at hx280_0); obtain rfl : ad279 = ad280 := (by injection e280); replace hx280_0 := (HB.out.cell (World.block_lt_of_cell? w _ hx280_0)).trans hx280_0; replace hx280_1 := (HB.out.cell (World.block_lt_of_cell? w _ hx280_1)).trans hx280_1; replace p280 := eq_true p280; replace q280 := eq_true q280)); try go_wp2_with (first | (go_at_call 89; (with_reducible refine (spec_l19Three.calls a0_0 true _ A20.out).mono ?_); rintro e w' ⟨rfl, ⟨nd, rfl⟩⟩; (try first | exact ⟨rfl, _, World.drewN_drewN _ _ _⟩ | exact ⟨rfl, _, Eq.trans (World.drewN_drewN _ _ _) (congrArg (World.drewN _) (Nat.add_assoc _ _ _))⟩); have p279 : 0 ≤ (a0_2 : Int) := of_decide_eq_true att11_0_2; have q279 : a0_2 < (l1.length : Int) := of_decide_eq_true att11_0_2; obtain ⟨ad279, e279, hx279_0, hx279_1⟩ := at_T83 HR1.out a0_2 p279 q279; (try rw [← Nbq24.out] at hx279_0); cases e279; replace hx279_0 := (HB.out.cell (World.block_lt_of_cell? w _ hx279_0)).trans hx279_0; replace hx279_1 := (HB.out.cell (World.block_lt_of_cell? w _ hx279_1)).trans hx279_1; replace p279 := eq_true p279; replace q279 := eq_true q279; have p280 : 0 ≤ (a0_3 : Int) := of_decide_eq_true att11_0_2; have q280 : a0_3 < (l1.length : Int) := of_decide_eq_true att11_0_2; obtain ⟨ad280, e280, hx280_0, hx280_1⟩ := at_T83 HR1.out a0_3 p280 q280; (try rw [← Nbq24.out] at hx280_0); obtain rfl : ad279 = ad280 := (by injection e280); replace hx280_0 := (HB.out.cell (World.block_lt_of_cell? w _ hx280_0)).trans hx280_0; replace hx280_1 := (HB.out.cell (World.block_lt_of_cell? w _ hx280_1)).trans hx280_1; replace p280 := eq_true p280; replace q280 := eq_true q280)))
           go_meet
           case rel => exact ⟨_, ((rd_T83 l1 a0_3).f0), att11_0_7, H', ⟨att11_0_8⟩, ⟨att11_0_1⟩, ⟨att11_0_4⟩, ⟨att11_0_0⟩⟩
          ·rw [if_neg c27] at H
           exact absurd H (by simp)
         ·rw [if_neg c26] at H
          exact absurd H (by simp)
        ·replace c25 := Bool.eq_false_iff.mpr c25
         subst c25
         rw [if_neg (show ¬ (false = true) by decide)] at H
         have H' := Aside0.mk H
         clear H
         have hnb30 := NB274_275.out
         have hnc30 := NB275_274.out
         have hcz31_0 : wc.cell? ⟨gb274, 0, none⟩ = some (.int .i64 a0_0) := (blk_cell BK274.out 0).trans rfl
         have hcz31_1 : wc.cell? ⟨gb274, 1, none⟩ = some (.int .i64 a0_1) := (blk_cell BK274.out 1).trans rfl
         have hcz31_2 : wc.cell? ⟨gb274, 2, none⟩ = some (.int .i64 a0_2) := (blk_cell BK274.out 2).trans rfl
         have hcz31_3 : wc.cell? ⟨gb274, 3, none⟩ = some (.int .i64 a0_3) := (blk_cell BK274.out 3).trans rfl
         have hcz31_4 : wc.cell? ⟨gb274, 4, none⟩ = some (.int .i64 a0_4) := (blk_cell BK274.out 4).trans rfl
         have hfz31_0 := blk_frozen BK274.out 0
         have hfz31_1 := blk_frozen BK274.out 1
         have hfz31_2 := blk_frozen BK274.out 2
         have hfz31_3 := blk_frozen BK274.out 3
         have hfz31_4 := blk_frozen BK274.out 4
         go_wp2_with (first | (go_at_call 89; (with_reducible refine (spec_l19Three.calls a0_0 true _ A20.out).mono ?_); rintro e w' ⟨rfl, ⟨nd, rfl⟩⟩; (try first | exact ⟨rfl, _, World.drewN_drewN _ _ _⟩ | exact ⟨rfl, _, Eq.trans (World.drewN_drewN _ _ _) (congrArg (World.drewN _) (Nat.add_assoc _ _ _))⟩); have p279 : 0 ≤ (a0_2 : Int) := of_decide_eq_true att11_0_2; have q279 : a0_2 < (l1.length : Int) := of_decide_eq_true att11_0_2; obtain ⟨ad279, e279, hx279_0, hx279_1⟩ := at_T83 HR1.out a0_2 p279 q279; (try rw [← Nbq24.out] at hx279_0); cases e279; replace hx279_0 := (HB.out.cell (World.block_lt_of_cell? w _ hx279_0)).trans hx279_0; replace hx279_1 := (HB.out.cell (World.block_lt_of_cell? w _ hx279_1)).trans hx279_1; replace p279 := eq_true p279; replace q279 := eq_true q279))
         repeat (go_quiet (first | (go_at_call 89; (with_reducible refine (spec_l19Three.calls a0_0 true _ A20.out).mono ?_); rintro e w' ⟨rfl, ⟨nd, rfl⟩⟩; (try first | exact ⟨rfl, _, World.drewN_drewN _ _ _⟩ | exact ⟨rfl, _, Eq.trans (World.drewN_drewN _ _ _) (congrArg (World.drewN _) (Nat.add_assoc _ _ _))⟩); have p279 : 0 ≤ (a0_2 : Int) := of_decide_eq_true att11_0_2; have q279 : a0_2 < (l1.length : Int) := of_decide_eq_true att11_0_2; obtain ⟨ad279, e279, hx279_0, hx279_1⟩ := at_T83 HR1.out a0_2 p279 q279; (try rw [← Nbq24.out] at hx279_0); cases e279; replace hx279_0 := (HB.out.cell (World.block_lt_of_cell? w _ hx279_0)).trans hx279_0; replace hx279_1 := (HB.out.cell (World.block_lt_of_cell? w _ hx279_1)).trans hx279_1; replace p279 := eq_true p279; replace q279 := eq_true q279)); try go_wp2_with (first | (go_at_call 89; (with_reducible refine (spec_l19Three.calls a0_0 true _ A20.out).mono ?_); rintro e w' ⟨rfl, ⟨nd, rfl⟩⟩; (try first | exact ⟨rfl, _, World.drewN_drewN _ _ _⟩ | exact ⟨rfl, _, Eq.trans (World.drewN_drewN _ _ _) (congrArg (World.drewN _) (Nat.add_assoc _ _ _))⟩); have p279 : 0 ≤ (a0_2 : Int) := of_decide_eq_true att11_0_2; have q279 : a0_2 < (l1.length : Int) := of_decide_eq_true att11_0_2; obtain ⟨ad279, e279, hx279_0, hx279_1⟩ := at_T83 HR1.out a0_2 p279 q279; (try rw [← Nbq24.out] at hx279_0); cases e279; replace hx279_0 := (HB.out.cell (World.block_lt_of_cell? w _ hx279_0)).trans hx279_0; replace hx279_1 := (HB.out.cell (World.block_lt_of_cell? w _ hx279_1)).trans hx279_1; replace p279 := eq_true p279; replace q279 := eq_true q279)))
         go_meet
         case rel => exact ⟨_, (false), att11_0_7, H', ⟨att11_0_8⟩, ⟨att11_0_1⟩, ⟨att11_0_4⟩, ⟨att11_0_0⟩⟩
       ·rw [if_neg c23] at H
        exact absurd H (by simp)
      ·rw [if_neg c22] at H
       exact absurd H (by simp)
     ·replace c21 := Bool.eq_false_iff.mpr c21
      subst c21
      rw [if_neg (show ¬ (false = true) by decide)] at H
      have H' := Aside0.mk H
      clear H
      have hnb32 := NB274_275.out
      have hnc32 := NB275_274.out
      have hcz33_0 : wc.cell? ⟨gb274, 0, none⟩ = some (.int .i64 a0_0) := (blk_cell BK274.out 0).trans rfl
      have hcz33_1 : wc.cell? ⟨gb274, 1, none⟩ = some (.int .i64 a0_1) := (blk_cell BK274.out 1).trans rfl
      have hcz33_2 : wc.cell? ⟨gb274, 2, none⟩ = some (.int .i64 a0_2) := (blk_cell BK274.out 2).trans rfl
      have hcz33_3 : wc.cell? ⟨gb274, 3, none⟩ = some (.int .i64 a0_3) := (blk_cell BK274.out 3).trans rfl
      have hcz33_4 : wc.cell? ⟨gb274, 4, none⟩ = some (.int .i64 a0_4) := (blk_cell BK274.out 4).trans rfl
      have hfz33_0 := blk_frozen BK274.out 0
      have hfz33_1 := blk_frozen BK274.out 1
      have hfz33_2 := blk_frozen BK274.out 2
      have hfz33_3 := blk_frozen BK274.out 3
      have hfz33_4 := blk_frozen BK274.out 4
      go_wp2_with (first | (go_at_call 89; (with_reducible refine (spec_l19Three.calls a0_0 false _ A20.out).mono ?_); rintro e w' ⟨rfl, ⟨nd, rfl⟩⟩; (try first | exact ⟨rfl, _, World.drewN_drewN _ _ _⟩ | exact ⟨rfl, _, Eq.trans (World.drewN_drewN _ _ _) (congrArg (World.drewN _) (Nat.add_assoc _ _ _))⟩)))
      repeat (go_quiet (first | (go_at_call 89; (with_reducible refine (spec_l19Three.calls a0_0 false _ A20.out).mono ?_); rintro e w' ⟨rfl, ⟨nd, rfl⟩⟩; (try first | exact ⟨rfl, _, World.drewN_drewN _ _ _⟩ | exact ⟨rfl, _, Eq.trans (World.drewN_drewN _ _ _) (congrArg (World.drewN _) (Nat.add_assoc _ _ _))⟩))); try go_wp2_with (first | (go_at_call 89; (with_reducible refine (spec_l19Three.calls a0_0 false _ A20.out).mono ?_); rintro e w' ⟨rfl, ⟨nd, rfl⟩⟩; (try first | exact ⟨rfl, _, World.drewN_drewN _ _ _⟩ | exact ⟨rfl, _, Eq.trans (World.drewN_drewN _ _ _) (congrArg (World.drewN _) (Nat.add_assoc _ _ _))⟩))))
      go_meet
      case rel => exact ⟨_, (false), att11_0_7, H', ⟨att11_0_8⟩, ⟨att11_0_1⟩, ⟨att11_0_4⟩, ⟨att11_0_0⟩⟩
    case rest =>
     clear HC19
     try clear c1
     try clear c2
     try clear p2
     try clear q2
     try clear hx2
     try clear c3
     try clear c7
     try clear c7b0
     try clear c7b1
     try clear c9
     try clear c11
     try clear c13
     try clear c15
     try clear c16
     try clear c21
     try clear c22
     try clear c22b0
     try clear c23
     try clear c23b0
     try clear q24
     try clear c25
     try clear c26
     try clear c26b0
     try clear c27
     try clear c27b0
     try clear p27
     try clear q27
     try clear hx27
     try clear c28
     try clear p28
     try clear q28
     try clear hx28
     try clear c30
     try clear c32
     try clear hcz12_0
     try clear hcz12_1
     try clear hcz12_2
     try clear hcz12_3
     try clear hcz12_4
     try clear hcz14_0
     try clear hcz14_1
     try clear hcz14_2
     try clear hcz14_3
     try clear hcz14_4
     try clear hcz17_0
     try clear hcz17_1
     try clear hcz17_2
     try clear hcz17_3
     try clear hcz17_4
     try clear hcz18_0
     try clear hcz18_1
     try clear hcz18_2
     try clear hcz18_3
     try clear hcz18_4
     try clear hcz29_0
     try clear hcz29_1
     try clear hcz29_2
     try clear hcz29_3
     try clear hcz29_4
     try clear hcz31_0
     try clear hcz31_1
     try clear hcz31_2
     try clear hcz31_3
     try clear hcz31_4
     try clear hcz33_0
     try clear hcz33_1
     try clear hcz33_2
     try clear hcz33_3
     try clear hcz33_4
     try clear hfz12_0
     try clear hfz12_1
     try clear hfz12_2
     try clear hfz12_3
     try clear hfz12_4
     try clear hfz14_0
     try clear hfz14_1
     try clear hfz14_2
     try clear hfz14_3
     try clear hfz14_4
     try clear hfz17_0
     try clear hfz17_1
     try clear hfz17_2
     try clear hfz17_3
     try clear hfz17_4
     try clear hfz18_0
     try clear hfz18_1
     try clear hfz18_2
     try clear hfz18_3
     try clear hfz18_4
     try clear hfz29_0
     try clear hfz29_1
     try clear hfz29_2
     try clear hfz29_3
     try clear hfz29_4
     try clear hfz31_0
     try clear hfz31_1
     try clear hfz31_2
     try clear hfz31_3
     try clear hfz31_4
     try clear hfz33_0
     try clear hfz33_1
     try clear hfz33_2
     try clear hfz33_3
     try clear hfz33_4
     try clear hx279_0
     try clear hx279_1
     try clear hx280_0
     try clear hx280_1
     try clear p2
     try clear p279
     try clear p280
     try clear q279
     try clear q280
     obtain ⟨kq, x42_18, rfl, HA, HJ18, BK274, BK275, HB⟩ := hcut
     cases kq with
     | zero => exact absurd HA.out (by simp [spec_FoldOne.j1])
     | succ kj18 =>
      have H := HA.out
      clear HA
      simp only [spec_FoldOne.j1] at H
      have HC34 := Aside0.mk H
      clear H
      go_upto_if 42 with (fail)
      repeat (go_quiet (fail); go_upto_if 42 with (fail))
      go_cut [] (fun wc => ∃ (kq : Nat) (x276000_33 : Int) (x276001_33 : Int) (x276002_33 : Int) (x276003_33 : Int) (x276004_33 : Int), Aside0 (spec_FoldOne.j2 kq l1 a2 a0_0 a0_1 a0_2 a0_3 a0_4 = some (r1, r2, r3, r4, r5)) ∧ Aside0 (kq ≤ kj18) ∧ Aside0 (wc.heap[gb274]? = some (.cells #[.int .i64 a0_0, .int .i64 a0_1, .int .i64 a0_2, .int .i64 a0_3, .int .i64 a0_4] 63 (0, 0))) ∧ Aside0 (wc.heap[gb275]? = some (.cells #[.int .i64 x276000_33, .int .i64 x276001_33, .int .i64 x276002_33, .int .i64 x276003_33, .int .i64 x276004_33] 63 (0, 0))) ∧ Aside0 (Below w.heap.size w wc))
      case first =>
       have H := HC34.out
       clear HC34
       by_cases c35 : x42_18 = true
       ·subst c35
        rw [if_pos rfl] at H
        by_cases c36 : 0 ≤ a0_2
        ·rw [if_pos c36] at H
         have c36b0 : decide (0 ≤ a0_2) = true := decide_eq_true c36
         clear c36
         (first | rw [c36b0] | (simp only [i64_w, i32_w]; rw [c36b0]) | skip)
         by_cases c37 : a0_2 < (l1.length : Int)
         ·rw [if_pos c37] at H
          have c37b0 : decide (a0_2 < (l1.length : Int)) = true := decide_eq_true c37
          clear c37
          by_cases c38 : 0 ≤ a0_3
          ·rw [if_pos c38] at H
           have c38b0 : decide (0 ≤ a0_3) = true := decide_eq_true c38
           clear c38
           by_cases c39 : a0_3 < (l1.length : Int)
           ·rw [if_pos c39] at H
            have c39b0 : decide (a0_3 < (l1.length : Int)) = true := decide_eq_true c39
            clear c39
            replace H := Option.bind_eq_some_iff.mp H
            obtain ⟨t283, A400, H⟩ := H
            (try dsimp only at H)
            have A40 := Aside0.mk A400
            clear A400
            replace H := Option.bind_eq_some_iff.mp H
            obtain ⟨t284, A410, H⟩ := H
            (try dsimp only at H)
            have A41 := Aside0.mk A410
            clear A410
            by_cases c42 : t284 = true
            ·subst c42
             rw [if_pos rfl] at H
             simp only [Option.some.injEq, Prod.mk.injEq] at H
             obtain ⟨rfl, rfl, rfl, rfl, rfl⟩ := H
             have hnb43 := NB274_275.out
             have hnc43 := NB275_274.out
             have hcz44_0 : wc.cell? ⟨gb274, 0, none⟩ = some (.int .i64 a0_0) := (blk_cell BK274.out 0).trans rfl
             have hcz44_1 : wc.cell? ⟨gb274, 1, none⟩ = some (.int .i64 a0_1) := (blk_cell BK274.out 1).trans rfl
             have hcz44_2 : wc.cell? ⟨gb274, 2, none⟩ = some (.int .i64 a0_2) := (blk_cell BK274.out 2).trans rfl
             have hcz44_3 : wc.cell? ⟨gb274, 3, none⟩ = some (.int .i64 a0_3) := (blk_cell BK274.out 3).trans rfl
             have hcz44_4 : wc.cell? ⟨gb274, 4, none⟩ = some (.int .i64 a0_4) := (blk_cell BK274.out 4).trans rfl
             have hfz44_0 := blk_frozen BK274.out 0
             have hfz44_1 := blk_frozen BK274.out 1
             have hfz44_2 := blk_frozen BK274.out 2
             have hfz44_3 := blk_frozen BK274.out 3
             have hfz44_4 := blk_frozen BK274.out 4
             have p281 : 0 ≤ (a0_2 : Int) := of_decide_eq_true att11_0_2
             have q281 : a0_2 < (l1.length : Int) := of_decide_eq_true att11_0_2
             obtain ⟨ad281, e281, hx281_0, hx281_1⟩ := at_T83 HR1.out a0_2 p281 q281
             cases e281
             replace hx281_0 := (HB.out.cell (World.block_lt_of_cell? w _ hx281_0)).trans hx281_0
             replace hx281_1 := (HB.out.cell (World.block_lt_of_cell? w _ hx281_1)).trans hx281_1
             replace p281 := eq_true p281
             replace q281 := eq_true q281
             have p282 : 0 ≤ (a0_3 : Int) := of_decide_eq_true att11_0_2
             have q282 : a0_3 < (l1.length : Int) := of_decide_eq_true att11_0_2
             obtain ⟨ad282, e282, hx282_0, hx282_1⟩ := at_T83 HR1.out a0_3 p282 q282
             obtain rfl : ad281 = ad282 := (by injection e282)
             replace hx282_0 := (HB.out.cell (World.block_lt_of_cell? w _ hx282_0)).trans hx282_0
             replace hx282_1 := (HB.out.cell (World.block_lt_of_cell? w _ hx282_1)).trans hx282_1
             replace p282 := eq_true p282
             replace q282 := eq_true q282
             go_wp2_with (first | (go_at_call 122; (with_reducible refine (spec_l19Of.calls a0_0 ((rd_T83 l1 a0_2).f1) ((rd_T83 l1 a0_3).f1) t283 _ A40.out).mono ?_); rintro e w' ⟨rfl, ⟨nd, rfl⟩⟩; (try first | exact ⟨rfl, _, World.drewN_drewN _ _ _⟩ | exact ⟨rfl, _, Eq.trans (World.drewN_drewN _ _ _) (congrArg (World.drewN _) (Nat.add_assoc _ _ _))⟩)) | (go_at_call 75; (with_reducible refine (spec_l1In.calls t283 (-1000000000) 1000000000 true _ A41.out).mono ?_); rintro e w' ⟨rfl, ⟨nd, rfl⟩⟩; (try first | exact ⟨rfl, _, World.drewN_drewN _ _ _⟩ | exact ⟨rfl, _, Eq.trans (World.drewN_drewN _ _ _) (congrArg (World.drewN _) (Nat.add_assoc _ _ _))⟩); have hcz45_0 : wc.cell? ⟨gb275, 0, none⟩ = some (.int .i64 0) := (blk_cell BK275.out 0).trans rfl; have hcz45_1 : wc.cell? ⟨gb275, 1, none⟩ = some (.int .i64 0) := (blk_cell BK275.out 1).trans rfl; have hcz45_2 : wc.cell? ⟨gb275, 2, none⟩ = some (.int .i64 0) := (blk_cell BK275.out 2).trans rfl; have hcz45_3 : wc.cell? ⟨gb275, 3, none⟩ = some (.int .i64 0) := (blk_cell BK275.out 3).trans rfl; have hcz45_4 : wc.cell? ⟨gb275, 4, none⟩ = some (.int .i64 0) := (blk_cell BK275.out 4).trans rfl; have hfz45_0 := blk_frozen BK275.out 0; have hfz45_1 := blk_frozen BK275.out 1; have hfz45_2 := blk_frozen BK275.out 2; have hfz45_3 := blk_frozen BK275.out 3; have hfz45_4 := blk_frozen BK275.out 4))
             repeat (go_quiet (first | (go_at_call 122; (with_reducible refine (spec_l19Of.calls a0_0 ((rd_T83 l1 a0_2).f1) ((rd_T83 l1 a0_3).f1) t283 _ A40.out).mono ?_); rintro e w' ⟨rfl, ⟨nd, rfl⟩⟩; (try first | exact ⟨rfl, _, World.drewN_drewN _ _ _⟩ | exact ⟨rfl, _, Eq.trans (World.drewN_drewN _ _ _) (congrArg (World.drewN _) (Nat.add_assoc _ _ _))⟩)) | (go_at_call 75; (with_reducible refine (spec_l1In.calls t283 (-1000000000) 1000000000 true _ A41.out).mono ?_); rintro e w' ⟨rfl, ⟨nd, rfl⟩⟩; (try first | exact ⟨rfl, _, World.drewN_drewN _ _ _⟩ | exact ⟨rfl, _, Eq.trans (World.drewN_drewN _ _ _) (congrArg (World.drewN _) (Nat.add_assoc _ _ _))⟩); have hcz45_0 : wc.cell? ⟨gb275, 0, none⟩ = some (.int .i64 0) := (blk_cell BK275.out 0).trans rfl; have hcz45_1 : wc.cell? ⟨gb275, 1, none⟩ = some (.int .i64 0) := (blk_cell BK275.out 1).trans rfl; have hcz45_2 : wc.cell? ⟨gb275, 2, none⟩ = some (.int .i64 0) := (blk_cell BK275.out 2).trans rfl; have hcz45_3 : wc.cell? ⟨gb275, 3, none⟩ = some (.int .i64 0) := (blk_cell BK275.out 3).trans rfl; have hcz45_4 : wc.cell? ⟨gb275, 4, none⟩ = some (.int .i64 0) := (blk_cell BK275.out 4).trans rfl; have hfz45_0 := blk_frozen BK275.out 0; have hfz45_1 := blk_frozen BK275.out 1; have hfz45_2 := blk_frozen BK275.out 2; have hfz45_3 := blk_frozen BK275.out 3; have hfz45_4 := blk_frozen BK275.out 4)); try go_wp2_with (first | (go_at_call 122; (with_reducible refine (spec_l19Of.calls a0_0 ((rd_T83 l1 a0_2).f1) ((rd_T83 l1 a0_3).f1) t283 _ A40.out).mono ?_); rintro e w' ⟨rfl, ⟨nd, rfl⟩⟩; (try first | exact ⟨rfl, _, World.drewN_drewN _ _ _⟩ | exact ⟨rfl, _, Eq.trans (World.drewN_drewN _ _ _) (congrArg (World.drewN _) (Nat.add_assoc _ _ _))⟩)) | (go_at_call 75; (with_reducible refine (spec_l1In.calls t283 (-1000000000) 1000000000 true _ A41.out).mono ?_); rintro e w' ⟨rfl, ⟨nd, rfl⟩⟩; (try first | exact ⟨rfl, _, World.drewN_drewN _ _ _⟩ | exact ⟨rfl, _, Eq.trans (World.drewN_drewN _ _ _) (congrArg (World.drewN _) (Nat.add_assoc _ _ _))⟩); have hcz45_0 : wc.cell? ⟨gb275, 0, none⟩ = some (.int .i64 0) := (blk_cell BK275.out 0).trans rfl; have hcz45_1 : wc.cell? ⟨gb275, 1, none⟩ = some (.int .i64 0) := (blk_cell BK275.out 1).trans rfl; have hcz45_2 : wc.cell? ⟨gb275, 2, none⟩ = some (.int .i64 0) := (blk_cell BK275.out 2).trans rfl; have hcz45_3 : wc.cell? ⟨gb275, 3, none⟩ = some (.int .i64 0) := (blk_cell BK275.out 3).trans rfl; have hcz45_4 : wc.cell? ⟨gb275, 4, none⟩ = some (.int .i64 0) := (blk_cell BK275.out 4).trans rfl; have hfz45_0 := blk_frozen BK275.out 0; have hfz45_1 := blk_frozen BK275.out 1; have hfz45_2 := blk_frozen BK275.out 2; have hfz45_3 := blk_frozen BK275.out 3; have hfz45_4 := blk_frozen BK275.out 4)))
             refine bodyPost_ret (results_cell_row rfl _ _ gb275 63 #[.int .i64 1, .int .i64 a0_1, .int .i64 0, .int .i64 0, .int .i64 t283] (0, 0) _ rfl (by (with_reducible repeat (first | refine blk_drewN ?_ _ | refine blk_drew ?_ | refine blk_alloc ?_ _)); refine blk_put (cs := #[.int .i64 1, .int .i64 a0_1, .int .i64 0, .int .i64 0, .int .i64 0]) ?_ 4 _ rfl; (with_reducible repeat (first | refine blk_drewN ?_ _ | refine blk_drew ?_ | refine blk_alloc ?_ _)); refine blk_put (cs := #[.int .i64 1, .int .i64 a0_1, .int .i64 0, .int .i64 0, .int .i64 0]) ?_ 3 _ rfl; (with_reducible repeat (first | refine blk_drewN ?_ _ | refine blk_drew ?_ | refine blk_alloc ?_ _)); refine blk_put (cs := #[.int .i64 1, .int .i64 a0_1, .int .i64 0, .int .i64 0, .int .i64 0]) ?_ 2 _ rfl; (with_reducible repeat (first | refine blk_drewN ?_ _ | refine blk_drew ?_ | refine blk_alloc ?_ _)); refine blk_put (cs := #[.int .i64 1, .int .i64 0, .int .i64 0, .int .i64 0, .int .i64 0]) ?_ 1 _ rfl; (with_reducible repeat (first | refine blk_drewN ?_ _ | refine blk_drew ?_ | refine blk_alloc ?_ _)); refine blk_put (cs := #[.int .i64 0, .int .i64 0, .int .i64 0, .int .i64 0, .int .i64 0]) ?_ 0 _ rfl; (with_reducible repeat (first | refine blk_drewN ?_ _ | refine blk_drew ?_ | refine blk_alloc ?_ _)); exact BK275.out) Try.underlying63 rfl (by kernel_rfl)) rfl ?_
             exact ⟨by first | rfl | (simp [errW_none, errW_some] <;> rfl) | (simp [*, errW_none, errW_some] <;> rfl), att11_0_0⟩
            ·replace c42 := Bool.eq_false_iff.mpr c42
             subst c42
             rw [if_neg (show ¬ (false = true) by decide)] at H
             have H' := Aside0.mk H
             clear H
             have hnb46 := NB274_275.out
             have hnc46 := NB275_274.out
             have hcz47_0 : wc.cell? ⟨gb274, 0, none⟩ = some (.int .i64 a0_0) := (blk_cell BK274.out 0).trans rfl
             have hcz47_1 : wc.cell? ⟨gb274, 1, none⟩ = some (.int .i64 a0_1) := (blk_cell BK274.out 1).trans rfl
             have hcz47_2 : wc.cell? ⟨gb274, 2, none⟩ = some (.int .i64 a0_2) := (blk_cell BK274.out 2).trans rfl
             have hcz47_3 : wc.cell? ⟨gb274, 3, none⟩ = some (.int .i64 a0_3) := (blk_cell BK274.out 3).trans rfl
             have hcz47_4 : wc.cell? ⟨gb274, 4, none⟩ = some (.int .i64 a0_4) := (blk_cell BK274.out 4).trans rfl
             have hfz47_0 := blk_frozen BK274.out 0
             have hfz47_1 := blk_frozen BK274.out 1
             have hfz47_2 := blk_frozen BK274.out 2
             have hfz47_3 := blk_frozen BK274.out 3
             have hfz47_4 := blk_frozen BK274.out 4
             have p281 : 0 ≤ (a0_2 : Int) := of_decide_eq_true att11_0_2
             have q281 : a0_2 < (l1.length : Int) := of_decide_eq_true att11_0_2
             obtain ⟨ad281, e281, hx281_0, hx281_1⟩ := at_T83 HR1.out a0_2 p281 q281
             cases e281
             replace hx281_0 := (HB.out.cell (World.block_lt_of_cell? w _ hx281_0)).trans hx281_0
             replace hx281_1 := (HB.out.cell (World.block_lt_of_cell? w _ hx281_1)).trans hx281_1
             replace p281 := eq_true p281
             replace q281 := eq_true q281
             have p282 : 0 ≤ (a0_3 : Int) := of_decide_eq_true att11_0_2
             have q282 : a0_3 < (l1.length : Int) := of_decide_eq_true att11_0_2
             obtain ⟨ad282, e282, hx282_0, hx282_1⟩ := at_T83 HR1.out a0_3 p282 q282
             obtain rfl : ad281 = ad282 := (by injection e282)
             replace hx282_0 := (HB.out.cell (World.block_lt_of_cell? w _ hx282_0)).trans hx282_0
             replace hx282_1 := (HB.out.cell (World.block_lt_of_cell? w _ hx282_1)).trans hx282_1
             replace p282 := eq_true p282
             replace q282 := eq_true q282
             go_wp2_with (first | (go_at_call 122; (with_reducible refine (spec_l19Of.calls a0_0 ((rd_T83 l1 a0_2).f1) ((rd_T83 l1 a0_3).f1) t283 _ A40.out).mono ?_); rintro e w' ⟨rfl, ⟨nd, rfl⟩⟩; (try first | exact ⟨rfl, _, World.drewN_drewN _ _ _⟩ | exact ⟨rfl, _, Eq.trans (World.drewN_drewN _ _ _) (congrArg (World.drewN _) (Nat.add_assoc _ _ _))⟩)) | (go_at_call 75; (with_reducible refine (spec_l1In.calls t283 (-1000000000) 1000000000 false _ A41.out).mono ?_); rintro e w' ⟨rfl, ⟨nd, rfl⟩⟩; (try first | exact ⟨rfl, _, World.drewN_drewN _ _ _⟩ | exact ⟨rfl, _, Eq.trans (World.drewN_drewN _ _ _) (congrArg (World.drewN _) (Nat.add_assoc _ _ _))⟩)))
             repeat (go_quiet (first | (go_at_call 122; (with_reducible refine (spec_l19Of.calls a0_0 ((rd_T83 l1 a0_2).f1) ((rd_T83 l1 a0_3).f1) t283 _ A40.out).mono ?_); rintro e w' ⟨rfl, ⟨nd, rfl⟩⟩; (try first | exact ⟨rfl, _, World.drewN_drewN _ _ _⟩ | exact ⟨rfl, _, Eq.trans (World.drewN_drewN _ _ _) (congrArg (World.drewN _) (Nat.add_assoc _ _ _))⟩)) | (go_at_call 75; (with_reducible refine (spec_l1In.calls t283 (-1000000000) 1000000000 false _ A41.out).mono ?_); rintro e w' ⟨rfl, ⟨nd, rfl⟩⟩; (try first | exact ⟨rfl, _, World.drewN_drewN _ _ _⟩ | exact ⟨rfl, _, Eq.trans (World.drewN_drewN _ _ _) (congrArg (World.drewN _) (Nat.add_assoc _ _ _))⟩))); try go_wp2_with (first | (go_at_call 122; (with_reducible refine (spec_l19Of.calls a0_0 ((rd_T83 l1 a0_2).f1) ((rd_T83 l1 a0_3).f1) t283 _ A40.out).mono ?_); rintro e w' ⟨rfl, ⟨nd, rfl⟩⟩; (try first | exact ⟨rfl, _, World.drewN_drewN _ _ _⟩ | exact ⟨rfl, _, Eq.trans (World.drewN_drewN _ _ _) (congrArg (World.drewN _) (Nat.add_assoc _ _ _))⟩)) | (go_at_call 75; (with_reducible refine (spec_l1In.calls t283 (-1000000000) 1000000000 false _ A41.out).mono ?_); rintro e w' ⟨rfl, ⟨nd, rfl⟩⟩; (try first | exact ⟨rfl, _, World.drewN_drewN _ _ _⟩ | exact ⟨rfl, _, Eq.trans (World.drewN_drewN _ _ _) (congrArg (World.drewN _) (Nat.add_assoc _ _ _))⟩))))
             go_meet
             case rel => exact ⟨_, (0), (0), (0), (0), (0), H', ⟨att11_0_10⟩, ⟨att11_0_1⟩, ⟨att11_0_4⟩, ⟨att11_0_0⟩⟩
           ·rw [if_neg c39] at H
            exact absurd H (by simp)
          ·rw [if_neg c38] at H
           exact absurd H (by simp)
         ·rw [if_neg c37] at H
          exact absurd H (by simp)
        ·rw [if_neg c36] at H
         exact absurd H (by simp)
       ·replace c35 := Bool.eq_false_iff.mpr c35
        subst c35
        rw [if_neg (show ¬ (false = true) by decide)] at H
        have H' := Aside0.mk H
        clear H
        go_wp2
        repeat (go_quiet (fail); try go_wp2)
        go_meet
        case rel => exact ⟨_, (0), (0), (0), (0), (0), H', ⟨att11_0_10⟩, ⟨att11_0_1⟩, ⟨att11_0_4⟩, ⟨att11_0_0⟩⟩
      case rest =>
       clear HC34
       try clear c1
       try clear c2
       try clear p2
       try clear q2
       try clear hx2
       try clear c3
       try clear c4
       try clear c7
       try clear c7b0
       try clear c7b1
       try clear c9
       try clear c11
       try clear c13
       try clear c15
       try clear c16
       try clear c21
       try clear c22
       try clear c22b0
       try clear c23
       try clear c23b0
       try clear q24
       try clear c25
       try clear c26
       try clear c26b0
       try clear c27
       try clear c27b0
       try clear p27
       try clear q27
       try clear hx27
       try clear c28
       try clear p28
       try clear q28
       try clear hx28
       try clear c30
       try clear c32
       try clear c35
       try clear c36
       try clear c36b0
       try clear c37
       try clear c37b0
       try clear c38
       try clear c38b0
       try clear c39
       try clear c39b0
       try clear c42
       try clear c43
       try clear c46
       try clear hcz12_0
       try clear hcz12_1
       try clear hcz12_2
       try clear hcz12_3
       try clear hcz12_4
       try clear hcz14_0
       try clear hcz14_1
       try clear hcz14_2
       try clear hcz14_3
       try clear hcz14_4
       try clear hcz17_0
       try clear hcz17_1
       try clear hcz17_2
       try clear hcz17_3
       try clear hcz17_4
       try clear hcz18_0
       try clear hcz18_1
       try clear hcz18_2
       try clear hcz18_3
       try clear hcz18_4
       try clear hcz29_0
       try clear hcz29_1
       try clear hcz29_2
       try clear hcz29_3
       try clear hcz29_4
       try clear hcz31_0
       try clear hcz31_1
       try clear hcz31_2
       try clear hcz31_3
       try clear hcz31_4
       try clear hcz33_0
       try clear hcz33_1
       try clear hcz33_2
       try clear hcz33_3
       try clear hcz33_4
       try clear hcz44_0
       try clear hcz44_1
       try clear hcz44_2
       try clear hcz44_3
       try clear hcz44_4
       try clear hcz45_0
       try clear hcz45_1
       try clear hcz45_2
       try clear hcz45_3
       try clear hcz45_4
       try clear hcz47_0
       try clear hcz47_1
       try clear hcz47_2
       try clear hcz47_3
       try clear hcz47_4
       try clear hfz12_0
       try clear hfz12_1
       try clear hfz12_2
       try clear hfz12_3
       try clear hfz12_4
       try clear hfz14_0
       try clear hfz14_1
       try clear hfz14_2
       try clear hfz14_3
       try clear hfz14_4
       try clear hfz17_0
       try clear hfz17_1
       try clear hfz17_2
       try clear hfz17_3
       try clear hfz17_4
       try clear hfz18_0
       try clear hfz18_1
       try clear hfz18_2
       try clear hfz18_3
       try clear hfz18_4
       try clear hfz29_0
       try clear hfz29_1
       try clear hfz29_2
       try clear hfz29_3
       try clear hfz29_4
       try clear hfz31_0
       try clear hfz31_1
       try clear hfz31_2
       try clear hfz31_3
       try clear hfz31_4
       try clear hfz33_0
       try clear hfz33_1
       try clear hfz33_2
       try clear hfz33_3
       try clear hfz33_4
       try clear hfz44_0
       try clear hfz44_1
       try clear hfz44_2
       try clear hfz44_3
       try clear hfz44_4
       try clear hfz45_0
       try clear hfz45_1
       try clear hfz45_2
       try clear hfz45_3
       try clear hfz45_4
       try clear hfz47_0
       try clear hfz47_1
       try clear hfz47_2
       try clear hfz47_3
       try clear hfz47_4
       try clear hx279_0
       try clear hx279_1
       try clear hx280_0
       try clear hx280_1
       try clear hx281_0
       try clear hx281_1
       try clear hx282_0
       try clear hx282_1
       try clear p2
       try clear p27
       try clear p279
       try clear p28
       try clear p280
       try clear p281
       try clear p282
       try clear q2
       try clear q24
       try clear q27
       try clear q279
       try clear q28
       try clear q280
       try clear q281
       try clear q282
       obtain ⟨kq, x276000_33, x276001_33, x276002_33, x276003_33, x276004_33, HA, HJ33, BK274, BK275, HB⟩ := hcut
       cases kq with
       | zero => exact absurd HA.out (by simp [spec_FoldOne.j2])
       | succ kj33 =>
        have H := HA.out
        clear HA
        simp only [spec_FoldOne.j2] at H
        have HC48 := Aside0.mk H
        clear H
        go_upto_region 7 with (fail)
        repeat (go_quiet (fail); go_upto_region 7 with (fail))
        go_cut [74] (fun v74 wc => ∃ (kq : Nat) (x74_47 : Bool), v74 = .bool x74_47 ∧ Aside0 (spec_FoldOne.j3 kq l1 a2 x74_47 a0_0 a0_1 a0_2 a0_3 a0_4 = some (r1, r2, r3, r4, r5)) ∧ Aside0 (kq ≤ kj33) ∧ Aside0 (wc.heap[gb274]? = some (.cells #[.int .i64 a0_0, .int .i64 a0_1, .int .i64 a0_2, .int .i64 a0_3, .int .i64 a0_4] 63 (0, 0))) ∧ Aside0 (wc.heap[gb275]? = some (.cells #[.int .i64 x276000_33, .int .i64 x276001_33, .int .i64 x276002_33, .int .i64 x276003_33, .int .i64 x276004_33] 63 (0, 0))) ∧ Aside0 (Below w.heap.size w wc))
        case first =>
         have H := HC48.out
         clear HC48
         by_cases c49 : a0_0 = 12
         ·rw [if_pos c49] at H
          have c49b0 : (a0_0 == 12) = true := beq_iff_eq.mpr c49
          have c49b1 : (a0_0 != 12) = false := bne_eq_false_iff_eq.mpr c49
          clear c49
          (first | rw [c49b0] | (simp only [i64_w, i32_w]; rw [c49b0]) | skip)
          by_cases c50 : 0 ≤ a0_2
          ·rw [if_pos c50] at H
           have c50b0 : decide (0 ≤ a0_2) = true := decide_eq_true c50
           clear c50
           by_cases c51 : a0_2 < (l1.length : Int)
           ·rw [if_pos c51] at H
            have c51b0 : decide (a0_2 < (l1.length : Int)) = true := decide_eq_true c51
            clear c51
            have H' := Aside0.mk H
            clear H
            have hnb52 := NB274_275.out
            have hnc52 := NB275_274.out
            have hcz53_0 : wc.cell? ⟨gb274, 0, none⟩ = some (.int .i64 a0_0) := (blk_cell BK274.out 0).trans rfl
            have hcz53_1 : wc.cell? ⟨gb274, 1, none⟩ = some (.int .i64 a0_1) := (blk_cell BK274.out 1).trans rfl
            have hcz53_2 : wc.cell? ⟨gb274, 2, none⟩ = some (.int .i64 a0_2) := (blk_cell BK274.out 2).trans rfl
            have hcz53_3 : wc.cell? ⟨gb274, 3, none⟩ = some (.int .i64 a0_3) := (blk_cell BK274.out 3).trans rfl
            have hcz53_4 : wc.cell? ⟨gb274, 4, none⟩ = some (.int .i64 a0_4) := (blk_cell BK274.out 4).trans rfl
            have hfz53_0 := blk_frozen BK274.out 0
            have hfz53_1 := blk_frozen BK274.out 1
            have hfz53_2 := blk_frozen BK274.out 2
            have hfz53_3 := blk_frozen BK274.out 3
            have hfz53_4 := blk_frozen BK274.out 4
            have p285 : 0 ≤ (a0_2 : Int) := of_decide_eq_true att11_0_2
            have q285 : a0_2 < (l1.length : Int) := of_decide_eq_true att11_0_2
            obtain ⟨ad285, e285, hx285_0, hx285_1⟩ := at_T83 HR1.out a0_2 p285 q285
            cases e285
            replace hx285_0 := (HB.out.cell (World.block_lt_of_cell? w _ hx285_0)).trans hx285_0
            replace hx285_1 := (HB.out.cell (World.block_lt_of_cell? w _ hx285_1)).trans hx285_1
            replace p285 := eq_true p285
            replace q285 := eq_true q285
            go_wp2
            repeat (go_quiet (fail); try go_wp2)
            go_meet
            case rel => exact ⟨_, ((rd_T83 l1 a0_2).f0), att11_0_7, H', ⟨att11_0_9⟩, ⟨att11_0_1⟩, ⟨att11_0_4⟩, ⟨att11_0_0⟩⟩
           ·rw [if_neg c51] at H
            exact absurd H (by simp)
          ·rw [if_neg c50] at H
           exact absurd H (by simp)
         ·rw [if_neg c49] at H
          have c49b0 : (a0_0 == 12) = false := beq_eq_false_iff_ne.mpr c49
          have c49b1 : (a0_0 != 12) = true := bne_iff_ne.mpr c49
          (first | rw [c49b0] | (simp only [i64_w, i32_w]; rw [c49b0]) | skip)
          have H' := Aside0.mk H
          clear H
          have hnb54 := NB274_275.out
          have hnc54 := NB275_274.out
          have hcz55_0 : wc.cell? ⟨gb274, 0, none⟩ = some (.int .i64 a0_0) := (blk_cell BK274.out 0).trans rfl
          have hcz55_1 : wc.cell? ⟨gb274, 1, none⟩ = some (.int .i64 a0_1) := (blk_cell BK274.out 1).trans rfl
          have hcz55_2 : wc.cell? ⟨gb274, 2, none⟩ = some (.int .i64 a0_2) := (blk_cell BK274.out 2).trans rfl
          have hcz55_3 : wc.cell? ⟨gb274, 3, none⟩ = some (.int .i64 a0_3) := (blk_cell BK274.out 3).trans rfl
          have hcz55_4 : wc.cell? ⟨gb274, 4, none⟩ = some (.int .i64 a0_4) := (blk_cell BK274.out 4).trans rfl
          have hfz55_0 := blk_frozen BK274.out 0
          have hfz55_1 := blk_frozen BK274.out 1
          have hfz55_2 := blk_frozen BK274.out 2
          have hfz55_3 := blk_frozen BK274.out 3
          have hfz55_4 := blk_frozen BK274.out 4
          go_wp2
          repeat (go_quiet (fail); try go_wp2)
          go_meet
          case rel => exact ⟨_, (false), att11_0_7, H', ⟨att11_0_9⟩, ⟨att11_0_1⟩, ⟨att11_0_4⟩, ⟨att11_0_0⟩⟩
        case rest =>
         clear HC48
         try clear c1
         try clear c2
         try clear p2
         try clear q2
         try clear hx2
         try clear c3
         try clear c4
         try clear c5
         try clear c7
         try clear c7b0
         try clear c7b1
         try clear c9
         try clear c11
         try clear c13
         try clear c15
         try clear c16
         try clear c21
         try clear c22
         try clear c22b0
         try clear c23
         try clear c23b0
         try clear q24
         try clear c25
         try clear c26
         try clear c26b0
         try clear c27
         try clear c27b0
         try clear p27
         try clear q27
         try clear hx27
         try clear c28
         try clear p28
         try clear q28
         try clear hx28
         try clear c30
         try clear c32
         try clear c35
         try clear c36
         try clear c36b0
         try clear c37
         try clear c37b0
         try clear c38
         try clear c38b0
         try clear c39
         try clear c39b0
         try clear c42
         try clear c43
         try clear c46
         try clear c49
         try clear c49b0
         try clear c49b1
         try clear c50
         try clear c50b0
         try clear c51
         try clear c51b0
         try clear c52
         try clear c54
         try clear hcz12_0
         try clear hcz12_1
         try clear hcz12_2
         try clear hcz12_3
         try clear hcz12_4
         try clear hcz14_0
         try clear hcz14_1
         try clear hcz14_2
         try clear hcz14_3
         try clear hcz14_4
         try clear hcz17_0
         try clear hcz17_1
         try clear hcz17_2
         try clear hcz17_3
         try clear hcz17_4
         try clear hcz18_0
         try clear hcz18_1
         try clear hcz18_2
         try clear hcz18_3
         try clear hcz18_4
         try clear hcz29_0
         try clear hcz29_1
         try clear hcz29_2
         try clear hcz29_3
         try clear hcz29_4
         try clear hcz31_0
         try clear hcz31_1
         try clear hcz31_2
         try clear hcz31_3
         try clear hcz31_4
         try clear hcz33_0
         try clear hcz33_1
         try clear hcz33_2
         try clear hcz33_3
         try clear hcz33_4
         try clear hcz44_0
         try clear hcz44_1
         try clear hcz44_2
         try clear hcz44_3
         try clear hcz44_4
         try clear hcz45_0
         try clear hcz45_1
         try clear hcz45_2
         try clear hcz45_3
         try clear hcz45_4
         try clear hcz47_0
         try clear hcz47_1
         try clear hcz47_2
         try clear hcz47_3
         try clear hcz47_4
         try clear hcz53_0
         try clear hcz53_1
         try clear hcz53_2
         try clear hcz53_3
         try clear hcz53_4
         try clear hcz55_0
         try clear hcz55_1
         try clear hcz55_2
         try clear hcz55_3
         try clear hcz55_4
         try clear hfz12_0
         try clear hfz12_1
         try clear hfz12_2
         try clear hfz12_3
         try clear hfz12_4
         try clear hfz14_0
         try clear hfz14_1
         try clear hfz14_2
         try clear hfz14_3
         try clear hfz14_4
         try clear hfz17_0
         try clear hfz17_1
         try clear hfz17_2
         try clear hfz17_3
         try clear hfz17_4
         try clear hfz18_0
         try clear hfz18_1
         try clear hfz18_2
         try clear hfz18_3
         try clear hfz18_4
         try clear hfz29_0
         try clear hfz29_1
         try clear hfz29_2
         try clear hfz29_3
         try clear hfz29_4
         try clear hfz31_0
         try clear hfz31_1
         try clear hfz31_2
         try clear hfz31_3
         try clear hfz31_4
         try clear hfz33_0
         try clear hfz33_1
         try clear hfz33_2
         try clear hfz33_3
         try clear hfz33_4
         try clear hfz44_0
         try clear hfz44_1
         try clear hfz44_2
         try clear hfz44_3
         try clear hfz44_4
         try clear hfz45_0
         try clear hfz45_1
         try clear hfz45_2
         try clear hfz45_3
         try clear hfz45_4
         try clear hfz47_0
         try clear hfz47_1
         try clear hfz47_2
         try clear hfz47_3
         try clear hfz47_4
         try clear hfz53_0
         try clear hfz53_1
         try clear hfz53_2
         try clear hfz53_3
         try clear hfz53_4
         try clear hfz55_0
         try clear hfz55_1
         try clear hfz55_2
         try clear hfz55_3
         try clear hfz55_4
         try clear hx279_0
         try clear hx279_1
         try clear hx280_0
         try clear hx280_1
         try clear hx281_0
         try clear hx281_1
         try clear hx282_0
         try clear hx282_1
         try clear hx285_0
         try clear hx285_1
         try clear p2
         try clear p27
         try clear p279
         try clear p28
         try clear p280
         try clear p281
         try clear p282
         try clear p285
         try clear q2
         try clear q24
         try clear q27
         try clear q279
         try clear q28
         try clear q280
         try clear q281
         try clear q282
         try clear q285
         obtain ⟨kq, x74_47, rfl, HA, HJ47, BK274, BK275, HB⟩ := hcut
         cases kq with
         | zero => exact absurd HA.out (by simp [spec_FoldOne.j3])
         | succ kj47 =>
          have H := HA.out
          clear HA
          simp only [spec_FoldOne.j3] at H
          by_cases c56 : x74_47 = true
          ·subst c56
           rw [if_pos rfl] at H
           by_cases c57 : 0 ≤ a0_2
           ·rw [if_pos c57] at H
            have c57b0 : decide (0 ≤ a0_2) = true := decide_eq_true c57
            clear c57
            by_cases c58 : a0_2 < (l1.length : Int)
            ·rw [if_pos c58] at H
             have c58b0 : decide (a0_2 < (l1.length : Int)) = true := decide_eq_true c58
             clear c58
             by_cases c59 : ((rd_T83 l1 a0_2).f1) = 0
             ·rw [if_pos c59] at H
              have c59b0 : (((rd_T83 l1 a0_2).f1) == 0) = true := beq_iff_eq.mpr c59
              have c59b1 : (((rd_T83 l1 a0_2).f1) != 0) = false := bne_eq_false_iff_eq.mpr c59
              clear c59
              simp only [Option.some.injEq, Prod.mk.injEq] at H
              obtain ⟨rfl, rfl, rfl, rfl, rfl⟩ := H
              have hnb60 := NB274_275.out
              have hnc60 := NB275_274.out
              have hcz61_0 : wc.cell? ⟨gb274, 0, none⟩ = some (.int .i64 a0_0) := (blk_cell BK274.out 0).trans rfl
              have hcz61_1 : wc.cell? ⟨gb274, 1, none⟩ = some (.int .i64 a0_1) := (blk_cell BK274.out 1).trans rfl
              have hcz61_2 : wc.cell? ⟨gb274, 2, none⟩ = some (.int .i64 a0_2) := (blk_cell BK274.out 2).trans rfl
              have hcz61_3 : wc.cell? ⟨gb274, 3, none⟩ = some (.int .i64 a0_3) := (blk_cell BK274.out 3).trans rfl
              have hcz61_4 : wc.cell? ⟨gb274, 4, none⟩ = some (.int .i64 a0_4) := (blk_cell BK274.out 4).trans rfl
              have hfz61_0 := blk_frozen BK274.out 0
              have hfz61_1 := blk_frozen BK274.out 1
              have hfz61_2 := blk_frozen BK274.out 2
              have hfz61_3 := blk_frozen BK274.out 3
              have hfz61_4 := blk_frozen BK274.out 4
              have p286 : 0 ≤ (a0_2 : Int) := of_decide_eq_true att11_0_2
              have q286 : a0_2 < (l1.length : Int) := of_decide_eq_true att11_0_2
              obtain ⟨ad286, e286, hx286_0, hx286_1⟩ := at_T83 HR1.out a0_2 p286 q286
              cases e286
              replace hx286_0 := (HB.out.cell (World.block_lt_of_cell? w _ hx286_0)).trans hx286_0
              replace hx286_1 := (HB.out.cell (World.block_lt_of_cell? w _ hx286_1)).trans hx286_1
              replace p286 := eq_true p286
              replace q286 := eq_true q286
              have hcz62_0 : wc.cell? ⟨gb275, 0, none⟩ = some (.int .i64 x276000_33) := (blk_cell BK275.out 0).trans rfl
              have hcz62_1 : wc.cell? ⟨gb275, 1, none⟩ = some (.int .i64 x276001_33) := (blk_cell BK275.out 1).trans rfl
              have hcz62_2 : wc.cell? ⟨gb275, 2, none⟩ = some (.int .i64 x276002_33) := (blk_cell BK275.out 2).trans rfl
              have hcz62_3 : wc.cell? ⟨gb275, 3, none⟩ = some (.int .i64 x276003_33) := (blk_cell BK275.out 3).trans rfl
              have hcz62_4 : wc.cell? ⟨gb275, 4, none⟩ = some (.int .i64 x276004_33) := (blk_cell BK275.out 4).trans rfl
              have hfz62_0 := blk_frozen BK275.out 0
              have hfz62_1 := blk_frozen BK275.out 1
              have hfz62_2 := blk_frozen BK275.out 2
              have hfz62_3 := blk_frozen BK275.out 3
              have hfz62_4 := blk_frozen BK275.out 4
              go_wp2
              repeat (go_quiet (fail); try go_wp2)
              refine bodyPost_ret (results_cell_row rfl _ _ gb275 63 #[.int .i64 11, .int .i64 0, .int .i64 0, .int .i64 0, .int .i64 a0_4] (0, 0) _ rfl att11_0_3 Try.underlying63 rfl (by kernel_rfl)) rfl ?_
              exact ⟨by first | rfl | (simp [errW_none, errW_some] <;> rfl) | (simp [*, errW_none, errW_some] <;> rfl), att11_0_0⟩
             ·rw [if_neg c59] at H
              have c59b0 : (((rd_T83 l1 a0_2).f1) == 0) = false := beq_eq_false_iff_ne.mpr c59
              have c59b1 : (((rd_T83 l1 a0_2).f1) != 0) = true := bne_iff_ne.mpr c59
              simp only [Option.some.injEq, Prod.mk.injEq] at H
              obtain ⟨rfl, rfl, rfl, rfl, rfl⟩ := H
              have hnb63 := NB274_275.out
              have hnc63 := NB275_274.out
              have hcz64_0 : wc.cell? ⟨gb274, 0, none⟩ = some (.int .i64 a0_0) := (blk_cell BK274.out 0).trans rfl
              have hcz64_1 : wc.cell? ⟨gb274, 1, none⟩ = some (.int .i64 a0_1) := (blk_cell BK274.out 1).trans rfl
              have hcz64_2 : wc.cell? ⟨gb274, 2, none⟩ = some (.int .i64 a0_2) := (blk_cell BK274.out 2).trans rfl
              have hcz64_3 : wc.cell? ⟨gb274, 3, none⟩ = some (.int .i64 a0_3) := (blk_cell BK274.out 3).trans rfl
              have hcz64_4 : wc.cell? ⟨gb274, 4, none⟩ = some (.int .i64 a0_4) := (blk_cell BK274.out 4).trans rfl
              have hfz64_0 := blk_frozen BK274.out 0
              have hfz64_1 := blk_frozen BK274.out 1
              have hfz64_2 := blk_frozen BK274.out 2
              have hfz64_3 := blk_frozen BK274.out 3
              have hfz64_4 := blk_frozen BK274.out 4
              have p286 : 0 ≤ (a0_2 : Int) := of_decide_eq_true att11_0_2
              have q286 : a0_2 < (l1.length : Int) := of_decide_eq_true att11_0_2
              obtain ⟨ad286, e286, hx286_0, hx286_1⟩ := at_T83 HR1.out a0_2 p286 q286
              cases e286
              replace hx286_0 := (HB.out.cell (World.block_lt_of_cell? w _ hx286_0)).trans hx286_0
              replace hx286_1 := (HB.out.cell (World.block_lt_of_cell? w _ hx286_1)).trans hx286_1
              replace p286 := eq_true p286
              replace q286 := eq_true q286
              have hcz65_0 : wc.cell? ⟨gb275, 0, none⟩ = some (.int .i64 x276000_33) := (blk_cell BK275.out 0).trans rfl
              have hcz65_1 : wc.cell? ⟨gb275, 1, none⟩ = some (.int .i64 x276001_33) := (blk_cell BK275.out 1).trans rfl
              have hcz65_2 : wc.cell? ⟨gb275, 2, none⟩ = some (.int .i64 x276002_33) := (blk_cell BK275.out 2).trans rfl
              have hcz65_3 : wc.cell? ⟨gb275, 3, none⟩ = some (.int .i64 x276003_33) := (blk_cell BK275.out 3).trans rfl
              have hcz65_4 : wc.cell? ⟨gb275, 4, none⟩ = some (.int .i64 x276004_33) := (blk_cell BK275.out 4).trans rfl
              have hfz65_0 := blk_frozen BK275.out 0
              have hfz65_1 := blk_frozen BK275.out 1
              have hfz65_2 := blk_frozen BK275.out 2
              have hfz65_3 := blk_frozen BK275.out 3
              have hfz65_4 := blk_frozen BK275.out 4
              go_wp2
              repeat (go_quiet (fail); try go_wp2)
              refine bodyPost_ret (results_cell_row rfl _ _ gb275 63 #[.int .i64 11, .int .i64 0, .int .i64 0, .int .i64 0, .int .i64 a2] (0, 0) _ rfl att11_0_3 Try.underlying63 rfl (by kernel_rfl)) rfl ?_
              exact ⟨by first | rfl | (simp [errW_none, errW_some] <;> rfl) | (simp [*, errW_none, errW_some] <;> rfl), att11_0_0⟩
            ·rw [if_neg c58] at H
             exact absurd H (by simp)
           ·rw [if_neg c57] at H
            exact absurd H (by simp)
          ·replace c56 := Bool.eq_false_iff.mpr c56
           subst c56
           rw [if_neg (show ¬ (false = true) by decide)] at H
           simp only [Option.some.injEq, Prod.mk.injEq] at H
           obtain ⟨rfl, rfl, rfl, rfl, rfl⟩ := H
           have hnb66 := NB274_275.out
           have hnc66 := NB275_274.out
           have hcz67_0 : wc.cell? ⟨gb274, 0, none⟩ = some (.int .i64 a0_0) := (blk_cell BK274.out 0).trans rfl
           have hcz67_1 : wc.cell? ⟨gb274, 1, none⟩ = some (.int .i64 a0_1) := (blk_cell BK274.out 1).trans rfl
           have hcz67_2 : wc.cell? ⟨gb274, 2, none⟩ = some (.int .i64 a0_2) := (blk_cell BK274.out 2).trans rfl
           have hcz67_3 : wc.cell? ⟨gb274, 3, none⟩ = some (.int .i64 a0_3) := (blk_cell BK274.out 3).trans rfl
           have hcz67_4 : wc.cell? ⟨gb274, 4, none⟩ = some (.int .i64 a0_4) := (blk_cell BK274.out 4).trans rfl
           have hfz67_0 := blk_frozen BK274.out 0
           have hfz67_1 := blk_frozen BK274.out 1
           have hfz67_2 := blk_frozen BK274.out 2
           have hfz67_3 := blk_frozen BK274.out 3
           have hfz67_4 := blk_frozen BK274.out 4
           have hcz68_0 : wc.cell? ⟨gb275, 0, none⟩ = some (.int .i64 x276000_33) := (blk_cell BK275.out 0).trans rfl
           have hcz68_1 : wc.cell? ⟨gb275, 1, none⟩ = some (.int .i64 x276001_33) := (blk_cell BK275.out 1).trans rfl
           have hcz68_2 : wc.cell? ⟨gb275, 2, none⟩ = some (.int .i64 x276002_33) := (blk_cell BK275.out 2).trans rfl
           have hcz68_3 : wc.cell? ⟨gb275, 3, none⟩ = some (.int .i64 x276003_33) := (blk_cell BK275.out 3).trans rfl
           have hcz68_4 : wc.cell? ⟨gb275, 4, none⟩ = some (.int .i64 x276004_33) := (blk_cell BK275.out 4).trans rfl
           have hfz68_0 := blk_frozen BK275.out 0
           have hfz68_1 := blk_frozen BK275.out 1
           have hfz68_2 := blk_frozen BK275.out 2
           have hfz68_3 := blk_frozen BK275.out 3
           have hfz68_4 := blk_frozen BK275.out 4
           go_wp2
           repeat (go_quiet (fail); try go_wp2)
           refine bodyPost_ret (results_cell_row rfl _ _ gb275 63 #[.int .i64 a0_0, .int .i64 a0_1, .int .i64 a0_2, .int .i64 a0_3, .int .i64 a0_4] (0, 0) _ rfl (by (with_reducible repeat (first | refine blk_drewN ?_ _ | refine blk_drew ?_ | refine blk_alloc ?_ _)); refine blk_put (cs := #[.int .i64 a0_0, .int .i64 a0_1, .int .i64 a0_2, .int .i64 a0_3, .int .i64 x276004_33]) ?_ 4 _ rfl; (with_reducible repeat (first | refine blk_drewN ?_ _ | refine blk_drew ?_ | refine blk_alloc ?_ _)); refine blk_put (cs := #[.int .i64 a0_0, .int .i64 a0_1, .int .i64 a0_2, .int .i64 x276003_33, .int .i64 x276004_33]) ?_ 3 _ rfl; (with_reducible repeat (first | refine blk_drewN ?_ _ | refine blk_drew ?_ | refine blk_alloc ?_ _)); refine blk_put (cs := #[.int .i64 a0_0, .int .i64 a0_1, .int .i64 x276002_33, .int .i64 x276003_33, .int .i64 x276004_33]) ?_ 2 _ rfl; (with_reducible repeat (first | refine blk_drewN ?_ _ | refine blk_drew ?_ | refine blk_alloc ?_ _)); refine blk_put (cs := #[.int .i64 a0_0, .int .i64 x276001_33, .int .i64 x276002_33, .int .i64 x276003_33, .int .i64 x276004_33]) ?_ 1 _ rfl; (with_reducible repeat (first | refine blk_drewN ?_ _ | refine blk_drew ?_ | refine blk_alloc ?_ _)); refine blk_put (cs := #[.int .i64 x276000_33, .int .i64 x276001_33, .int .i64 x276002_33, .int .i64 x276003_33, .int .i64 x276004_33]) ?_ 0 _ rfl; (with_reducible repeat (first | refine blk_drewN ?_ _ | refine blk_drew ?_ | refine blk_alloc ?_ _)); exact BK275.out) Try.underlying63 rfl (by kernel_rfl)) rfl ?_
           exact ⟨by first | rfl | (simp [errW_none, errW_some] <;> rfl) | (simp [*, errW_none, errW_some] <;> rfl), att11_0_0⟩

end Go.Proofs.Ytocimkpafakiaaa.XFnExactFoldBody
