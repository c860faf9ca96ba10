/- Each Go function that the law reaches as a Lean function, and that Go comes to just its answer; written by this session's xprint.py over the kit's printer. -/
import Derived.Test.YtocimkpafakiaaaXFnExactTrimProgx0
namespace Go.Proofs.Ytocimkpafakiaaa.XFnExactTrimProg
open Go.RowKit Go.Proofs.YtocimkpafakiaaaW.PrintWords Go.Proofs.YtocimkpafakiaaaW.PrintLast Go.Proofs.YtocimkpafakiaaaW.PrintMore
attribute [local go_sem] max2_int min2_int max_two min_two max_three min_three max_four min_four   -- for this text's walks alone
set_option linter.unusedVariables false
set_option linter.unusedSimpArgs false

theorem att13_0_0 {p : Prop} (h : p := by repeat (first | (with_reducible first | exact HB.out | apply below_alloc | apply pw_below_drewN | apply below_drew1 | refine below_set ?_ GE387.out | refine below_set ?_ GE388.out | refine below_set ?_ GE395.out) | exact HB.out)) : p := h
theorem att13_0_1 {p : Prop} (h : p := by repeat (first | (with_reducible first | exact HB.out | apply below_alloc | apply pw_below_drewN | apply below_drew1 | refine below_set ?_ GE387.out | refine below_set ?_ GE388.out) | exact HB.out)) : p := h
theorem att13_0_2 {p : Prop} (h : p := by (with_reducible repeat (first | refine blk_drewN ?_ _ | refine blk_drew ?_ | refine blk_alloc ?_ _)); exact BK387.out) : p := h
theorem att13_0_3 {p : Prop} (h : p := by (with_reducible repeat (first | refine blk_drewN ?_ _ | refine blk_drew ?_ | refine blk_alloc ?_ _)); exact BK388.out) : p := h
theorem att13_0_4 {p : Prop} (h : p := by repeat (first | (with_reducible first | exact HB.out | apply below_alloc | apply pw_below_drewN | apply below_drew1 | refine below_set ?_ GE387.out) | exact HB.out)) : p := h
theorem att13_0_6 {p : Prop} (h : p := by (with_reducible repeat (first | refine blk_drewN ?_ _ | refine blk_drew ?_ | refine blk_alloc ?_ _)); exact BK395.out) : p := h
theorem att13_0_7 {p : Prop} (h : p := by exact toS_ (HO_396001.out)) : p := h
theorem att13_0_8 {p : Prop} (h : p := by exact toR_ (HO_396000.out)) : p := h
theorem att13_0_9 {p : Prop} (h : p := by rintro w' ⟨s0, s1, s2, s3, s4⟩; go_simp; with_reducible rfl) : p := h
theorem att13_0_10 {p : Prop} (h : p := by exact toR_ (HO398.out)) : p := h
/-! ### spec_l17Prog: function 102 -/
def spec_l17Prog.l0 : Nat → Int → List Int → List (List (S63)) → List Int → List (List (S63)) → Option (List Int × (List (List (S63))))
 | 0, _, _, _, _, _ => none
 | k + 1, x4, x388000, x388001, x396000, x396001 => if x4 < (x388001.length : Int) then ((some (([] : List (S63)) : List (S63))).bind fun y396 => (if 0 ≤ x4 then (if y396.length + (rd_L4 x388001 x4).length < 3518437208883 then (if x396001.length < 5864062014805 then (spec_l17Prog.l0 k (wrap64 (x4 + 1)) x388000 x388001 x396000 (x396001 ++ [(y396 ++ (rd_L4 x388001 x4))])) else (none)) else (none)) else (none))) else (some (x396000, x396001))
def spec_l17Prog.f (k : Nat) (l0_0 : List Int) (l0_1 : List (List (S63))) : Option (List Int × (List (List (S63)))) := (some (([] : List Int) : List Int)).bind fun y389 => (if y389.length + l0_0.length < 17592186044416 then (spec_l17Prog.l0 k 0 l0_0 l0_1 (y389 ++ l0_0) ([] : List (List (S63)))) else (none))
theorem spec_l17Prog.mono_l : ∀ k, (∀ y0 y1 y2 y3 y4, LeO (spec_l17Prog.l0 k y0 y1 y2 y3 y4) (spec_l17Prog.l0 (k + 1) y0 y1 y2 y3 y4))
 | 0 => fun _ _ _ _ _ r h => by simp [spec_l17Prog.l0] at h
 | k + 1 => by
  have ih0 := spec_l17Prog.mono_l k
  ·intro y0 y1 y2 y3 y4
   unfold spec_l17Prog.l0
   repeat' (with_reducible first | exact ih0 .. | exact LeO.refl _ | exact LeO.none _ | refine LeO.ite ?_ ?_ | refine LeO.bind ?_ (fun _ => ?_))
theorem spec_l17Prog.mono : ∀ a0 a1 k, LeO (spec_l17Prog.f k a0 a1) (spec_l17Prog.f (k + 1) a0 a1) := by
 intro a0 a1 k
 have ih0 := spec_l17Prog.mono_l k
 unfold spec_l17Prog.f
 repeat' (with_reducible first | exact ih0 .. | exact LeO.refl _ | exact LeO.none _ | refine LeO.ite ?_ ?_ | refine LeO.bind ?_ (fun _ => ?_))
def spec_l17Prog.T5 : Bool × List (List Nat × List Nat) := (true, [([], []), ([0], [0]), ([], []), ([], []), ([3], [3]), ([], []), ([4, 5], [4, 5]), ([6], [6]), ([2, 7], [2, 7]), ([8], [8]), ([1, 9, 8], [1, 9]), ([0, 1, 2, 3, 4, 5, 6, 7, 8, 9, 10], []), ([11, 10, 10, 0, 1, 2, 3, 4, 5, 6, 7, 8, 9, 10], [10, 11])])
def spec_l17Prog.B5 : List Nat := [0, 1, 0, 0, 8, 0, 56, 120, 252, 508, 1023, 2047, 4095]
theorem spec_l17Prog.tab5 : rtab .any (opsOf Try.f102 5) = spec_l17Prog.T5 := by kernel_rfl
theorem spec_l17Prog.bits5 : waitsOk spec_l17Prog.T5.2 spec_l17Prog.B5 = true := by kernel_rfl
set_option maxHeartbeats 80000000 in
set_option maxRecDepth 100000 in
theorem spec_l17Prog.calls (k : Nat) (A0_0 : Option Addr) (c0_0 : Nat) (l0_0 : List Int) (A0_1 : Option Addr) (c0_1 : Nat) (l0_1 : List (List (S63))) (r1 : List Int) (r2 : List (List (S63))) (w : World) (hr0_0 : Kd.C (Kd.int .i64) w A0_0 l0_0.length l0_0) (hc0_0 : l0_0.length ≤ c0_0) (hr0_1 : Kd.C (Kd.slice 63 k63) w A0_1 l0_1.length l0_1) (hc0_1 : l0_1.length ≤ c0_1) (h : spec_l17Prog.f k l0_0 l0_1 = some (r1, r2)) :
  Calls Try.prog 102 #[.agg #[.slice A0_0 l0_0.length c0_0, .slice A0_1 l0_1.length c0_1]] w fun e w' => ∃ v0_ v1_ : Value, e = .returned (.agg #[v0_, v1_]) ∧ Kd.R (Kd.int .i64) 3 w' w.heap.size (fun _ => True) v0_ r1 ∧ Kd.S (Kd.slice 63 k63) 24 w' w.heap.size (fun _ => True) v1_ r2 ∧ Below w.heap.size w w' := by
 have hu56 := Try.underlying56
 have HR0_0 := Aside0.mk hr0_0
 have HC0_0 := Aside0.mk hc0_0
 clear hr0_0 hc0_0
 have HR0_1 := Aside0.mk hr0_1
 have HC0_1 := Aside0.mk hc0_1
 clear hr0_1 hc0_1
 have HB := Aside0.mk (Below.refl w.heap.size w)
 have H : ((some (([] : List Int) : List Int)).bind fun y389 => (if y389.length + l0_0.length < 17592186044416 then (spec_l17Prog.l0 k 0 l0_0 l0_1 (y389 ++ l0_0) ([] : List (List (S63)))) else (none))) = some (r1, r2) := h
 clear h
 obtain ⟨y389, hy389⟩ : ∃ y_ : List Int, y_ = (([] : List Int)) := ⟨_, rfl⟩
 replace H := yy_ H hy389
 have Ny389 := Aside0.mk hy389
 clear hy389
 by_cases c2 : y389.length + l0_0.length < 17592186044416
 ·rw [if_pos c2] at H
  have LMc2 := Aside0.mk c2
  clear c2
  obtain ⟨y392, hy392⟩ : ∃ y_ : List Int, y_ = (y389 ++ l0_0) := ⟨_, rfl⟩
  replace H : (spec_l17Prog.l0 k 0 l0_0 l0_1 y392 ([] : List (List (S63)))) = some (r1, r2) := by rw [hy392]; exact H
  have Ny392 := Aside0.mk hy392
  clear hy392
  have H' := Aside0.mk H
  clear H
  go_enter Try.func102, Try.ntmps102
  go_wp2_with (first | ((with_reducible refine gate_dst (N := 1) rfl ?_); refine box_event ?hg (N := 1) ?hd (cs := #[.slice A0_0 l0_0.length c0_0, .slice A0_1 l0_1.length c0_1]) (t := 56) ?hr ?_; (case hd => rfl); (case hg => rfl); (case hr => first | (go_simp; done) | (go_simp; rfl)); intro gb387 hg w3 hbox hb; refine swap4_ (below_step atgB_ hb) (hbox) ((by rw [hg]; exact (below_size atgB_) : w.heap.size ≤ gb387)) ((by rw [hg]; exact (below_size atgB_) : w.heap.size ≤ gb387)) ?_; clear HB; intro HB BK387 GW387 GE387; clear hb hbox hg) | ((with_reducible refine gate_dst (N := 2) rfl ?_); refine box_event ?hg (N := 2) ?hd (cs := #[.slice none 0 0, .slice none 0 0]) (t := 56) ?hr ?_; (case hd => rfl); (case hg => rfl); (case hr => first | (go_simp; done) | (go_simp; rfl)); intro gb388 hg w4 hbox hb; refine swap7_ (blk_below (g := gb387) (o := .cells #[.slice A0_0 l0_0.length c0_0, .slice A0_1 l0_1.length c0_1] 56 (0, 0)) att13_0_2 hb) (below_step att13_0_4 hb) (hbox) ((by rw [hg]; exact (below_size att13_0_4) : w.heap.size ≤ gb388)) ((by rw [hg]; exact (below_size att13_0_4) : w.heap.size ≤ gb388)) ((by rw [hg]; exact Nat.ne_of_lt (blk_lt (g := gb387) (o := .cells #[.slice A0_0 l0_0.length c0_0, .slice A0_1 l0_1.length c0_1] 56 (0, 0)) att13_0_2) : gb387 ≠ gb388)) ((by rw [hg]; exact Nat.ne_of_gt (blk_lt (g := gb387) (o := .cells #[.slice A0_0 l0_0.length c0_0, .slice A0_1 l0_1.length c0_1] 56 (0, 0)) att13_0_2) : gb388 ≠ gb387)) ?_; clear BK387 HB; intro BK387 HB BK388 GW388 GE388 NB387_388 NB388_387; clear hb hbox hg) | ((with_reducible refine gate_dst (N := 5) rfl ?_); refine Kd.R_lit (Kd.int .i64) _ 3 ?hg (N := 5) ?hd (xs := ([] : List Int)) (inner := []) (ok := fun _ => True) (okp := fun _ => True) ?hr ?hp (fun _ hk => hk) trivial (Below.refl _ _) (Nat.le_refl _) (by simp) ?_; (case hd => rfl); (case hg => rfl); (case hr => first | (go_simp; done) | (go_simp; rfl)); (case hp => exact (Reps.none _ _)); intro v390 w5 ho6 hb hg_ hnew_; clear hg_ hnew_; (first | rw [← Ny389.out] at ho6 | (simp only [Int.reduceToNat] at ho6; rw [← Ny389.out] at ho6)); refine swap4_ (Kd.R_lower ho6 (below_size att13_0_1)) (blk_below (g := gb387) (o := .cells #[.slice A0_0 l0_0.length c0_0, .slice A0_1 l0_1.length c0_1] 56 (0, 0)) att13_0_2 hb) (blk_below (g := gb388) (o := .cells #[.slice none 0 0, .slice none 0 0] 56 (0, 0)) att13_0_3 hb) (below_step att13_0_1 hb) ?_; clear BK387 BK388 HB; intro HO391 BK387 BK388 HB; clear hb ho6; have hnb7 := NB387_388.out; have hnc7 := NB388_387.out; obtain ⟨hcz8_0, hcz8_1, hfz8_0, hfz8_1⟩ := blkB2_ BK387) | ((with_reducible refine gate_builtin (b := .append) (xs := #[.tmp 5, .tmp 7]) rfl ?_); at_builtin; refine Kd.R_append_rows (Kd.int .i64) (w0 := w) w.heap.size rfl (.tmp 5) (.tmp 7) 34 3 (.int .i64 0) 8 rfl Try.underlying34 info3 rfl (by decide) (by omega) v390 y389 l0_0 _ _ _ (fun _ => True) (fun _ => False) rfl rfl ?aO ?aR (fun _ _ h => h) (fun _ h => h.elim) ?aF ?aB ?aS ?aL ?_; (case aR => repeat (first | exact (Kd.C_below HR0_0.out HB.out) | (with_reducible refine Kd.C_alloc ?_ _) | (with_reducible refine Kd.C_drewN ?_ _) | (with_reducible refine Kd.C_drew ?_))); (case aB => exact att13_0_1); (case aF => exact (fun _ _ => trivial)); (case aO => exact (by exact toR_ (HO391.out))); (case aS => exact (below_size att13_0_1)); (case aL => have := LMc2.out; omega); intro v393 w9 ho hb hg hat; rw [← Ny392.out] at ho; refine swap4_ (blk_grown (g := gb387) (o := .cells #[.slice A0_0 l0_0.length c0_0, .slice A0_1 l0_1.length c0_1] 56 (0, 0)) att13_0_2 hg (Kd.R_ne HO391.out BK387.out (by decide))) (blk_grown (g := gb388) (o := .cells #[.slice none 0 0, .slice none 0 0] 56 (0, 0)) att13_0_3 hg (Kd.R_ne HO391.out BK388.out (by decide))) (hb) (ho) ?_; clear BK387 BK388 HB HO391; intro BK387 BK388 HB HO394; clear ho hb hg hat; obtain ⟨Ao10, co10, eo10⟩ := Kd.R_slice HO394.out; subst eo10) | ((with_reducible refine gate_dst (N := 3) rfl ?_); refine box_event ?hg (N := 3) ?hd (cs := #[.slice none 0 0, .slice none 0 0]) (t := 56) ?hr ?_; (case hd => rfl); (case hg => rfl); (case hr => first | (go_simp; done) | (go_simp; rfl)); intro gb395 hg w11 hbox hb; have n0_ := Aside0.mk (Kd.R_below (by exact toR_ (HO394.out)) hb); have n1_ := Aside0.mk (blk_below (g := gb387) (o := .cells #[.slice A0_0 l0_0.length c0_0, .slice A0_1 l0_1.length c0_1] 56 (0, 0)) att13_0_2 hb); have n2_ := Aside0.mk (blk_below (g := gb388) (o := .cells #[.slice none 0 0, .slice none 0 0] 56 (0, 0)) att13_0_3 hb); have n3_ := Aside0.mk (below_step att13_0_1 hb); have n4_ := Aside0.mk (hbox); have n5_ := Aside0.mk ((by rw [hg]; exact (below_size att13_0_1) : w.heap.size ≤ gb395)); have n6_ := Aside0.mk ((by rw [hg]; exact (below_size att13_0_1) : w.heap.size ≤ gb395)); have n7_ := Aside0.mk ((by rw [hg]; exact Nat.ne_of_lt (blk_lt (g := gb387) (o := .cells #[.slice A0_0 l0_0.length c0_0, .slice A0_1 l0_1.length c0_1] 56 (0, 0)) att13_0_2) : gb387 ≠ gb395)); have n8_ := Aside0.mk ((by rw [hg]; exact Nat.ne_of_gt (blk_lt (g := gb387) (o := .cells #[.slice A0_0 l0_0.length c0_0, .slice A0_1 l0_1.length c0_1] 56 (0, 0)) att13_0_2) : gb395 ≠ gb387)); have n9_ := Aside0.mk ((by rw [hg]; exact Nat.ne_of_lt (blk_lt (g := gb388) (o := .cells #[.slice none 0 0, .slice none 0 0] 56 (0, 0)) att13_0_3) : gb388 ≠ gb395)); have n10_ := Aside0.mk ((by rw [hg]; exact Nat.ne_of_gt (blk_lt (g := gb388) (o := .cells #[.slice none 0 0, .slice none 0 0] 56 (0, 0)) att13_0_3) : gb395 ≠ gb388)); clear HO394; clear BK387; clear BK388; clear HB; have HO394 := n0_; have BK387 := n1_; have BK388 := n2_; have HB := n3_; have BK395 := n4_; have GW395 := n5_; have GE395 := n6_; have NB387_395 := n7_; have NB395_387 := n8_; have NB388_395 := n9_; have NB395_388 := n10_; clear n0_ n1_ n2_ n3_ n4_ n5_ n6_ n7_ n8_ n9_ n10_; clear hb hbox hg; have hnb12 := NB395_387.out; have hnc12 := NB387_395.out; have hnb13 := NB395_388.out; have hnc13 := NB388_395.out; obtain ⟨hcz14_0, hcz14_1, hfz14_0, hfz14_1⟩ := blkB2_ BK395))
  go_loopg [4] k (fun kq v4 w' => ∃ (x4_1 : Int) (x396001_1 : List (List (S63))) (u396001 : Value), v4 = .int .i64 x4_1 ∧ Aside0 (spec_l17Prog.l0 kq x4_1 l0_0 l0_1 y392 x396001_1 = some (r1, r2)) ∧ Aside0 (kq ≤ k) ∧ Aside0 (Kd.R (Kd.int .i64) 3 w' w.heap.size (fun _ => True) (.slice Ao10 y392.length co10) y392) ∧ Aside0 (Kd.S (Kd.slice 63 k63) 24 w' w.heap.size (fun _ => True) u396001 x396001_1) ∧ Aside0 (w'.heap[gb387]? = some (.cells #[(.slice A0_0 l0_0.length c0_0), (.slice A0_1 l0_1.length c0_1)] 56 (0, 0))) ∧ Aside0 (w'.heap[gb388]? = some (.cells #[(.slice none 0 0), (.slice none 0 0)] 56 (0, 0))) ∧ Aside0 (w'.heap[gb395]? = some (.cells #[(.slice Ao10 y392.length co10), u396001] 56 (0, 0))) ∧ Aside0 (Below w.heap.size w w'))
  case atStart => exact ⟨(0), (([] : List (List (S63)))), (.slice none 0 0), (by first | rfl | (simp; done) | (simp [*]; done)), H', ⟨Nat.le_refl _⟩, ⟨by exact toR_ (Kd.R_mono (farR2_ (Kd.R_types HO394.out BK395.out (by decide))) (fun _ hk => trivial))⟩, ⟨by first | exact Kd.S_nil _ _ _ _ _ | exact Kd.N_nil _ _ _ _ _ | exact Kd.V_nil _ _ _ _ _ | exact Kd.Q_nil _ _ _ _ _ | exact Kd.R_nil _ _ _ _ _⟩, ⟨by (with_reducible repeat (first | refine blk_drewN ?_ _ | refine blk_drew ?_ | refine blk_alloc ?_ _)); refine blk_far ?_ NB387_395.out _; (with_reducible repeat (first | refine blk_drewN ?_ _ | refine blk_drew ?_ | refine blk_alloc ?_ _)); refine blk_far ?_ NB387_395.out _; (with_reducible repeat (first | refine blk_drewN ?_ _ | refine blk_drew ?_ | refine blk_alloc ?_ _)); exact BK387.out⟩, ⟨by (with_reducible repeat (first | refine blk_drewN ?_ _ | refine blk_drew ?_ | refine blk_alloc ?_ _)); refine blk_far ?_ NB388_395.out _; (with_reducible repeat (first | refine blk_drewN ?_ _ | refine blk_drew ?_ | refine blk_alloc ?_ _)); refine blk_far ?_ NB388_395.out _; (with_reducible repeat (first | refine blk_drewN ?_ _ | refine blk_drew ?_ | refine blk_alloc ?_ _)); exact BK388.out⟩, ⟨by (with_reducible repeat (first | refine blk_drewN ?_ _ | refine blk_drew ?_ | refine blk_alloc ?_ _)); refine blk_put (cs := #[.slice Ao10 y392.length co10, .slice none 0 0]) ?_ 1 _ rfl; (with_reducible repeat (first | refine blk_drewN ?_ _ | refine blk_drew ?_ | refine blk_alloc ?_ _)); refine blk_put (cs := #[.slice none 0 0, .slice none 0 0]) ?_ 0 _ rfl; (with_reducible repeat (first | refine blk_drewN ?_ _ | refine blk_drew ?_ | refine blk_alloc ?_ _)); exact BK395.out⟩, ⟨att13_0_0⟩⟩
  case round =>
   clear H'
   try clear c1
   try clear c2
   try clear p2
   try clear c7
   try clear c10
   try clear c12
   try clear c13
   try clear hcz14_0 hcz14_1
   try clear hcz8_0 hcz8_1
   try clear hfz14_0 hfz14_1
   try clear hfz8_0 hfz8_1
   obtain ⟨x4_1, x396001_1, u396001, rfl, HA, HK1, HO_396000, HO_396001, BK387, BK388, BK395, HB⟩ := hrel
   cases gk with
   | zero => exact absurd HA.out (by simp [spec_l17Prog.l0])
   | succ k1 =>
    have H := HA.out
    clear HA
    simp only [spec_l17Prog.l0] at H
    by_cases c15 : x4_1 < (l0_1.length : Int)
    ·rw [if_pos c15] at H
     have c15b0 := decide_eq_true c15
     clear c15
     obtain ⟨y396, hy396⟩ : ∃ y_ : List (S63), y_ = (([] : List (S63))) := ⟨_, rfl⟩
     replace H := yy_ H hy396
     have Ny396 := Aside0.mk hy396
     clear hy396
     by_cases c16 : 0 ≤ x4_1
     ·rw [if_pos c16] at H
      have c16b0 := decide_eq_true c16
      clear c16
      by_cases c17 : y396.length + (rd_L4 l0_1 x4_1).length < 3518437208883
      ·rw [if_pos c17] at H
       have LMc17 := Aside0.mk c17
       clear c17
       obtain ⟨y400, hy400⟩ : ∃ y_ : List (S63), y_ = (y396 ++ (rd_L4 l0_1 x4_1)) := ⟨_, rfl⟩
       replace H : (if x396001_1.length < 5864062014805 then (spec_l17Prog.l0 k1 (wrap64 (x4_1 + 1)) l0_0 l0_1 y392 (x396001_1 ++ [y400])) else (none)) = some (r1, r2) := by rw [hy400]; exact H
       have Ny400 := Aside0.mk hy400
       clear hy400
       by_cases c18 : x396001_1.length < 5864062014805
       ·rw [if_pos c18] at H
        have LMc18 := Aside0.mk c18
        clear c18
        obtain ⟨y403, hy403⟩ : ∃ y_ : List (List (S63)), y_ = (x396001_1 ++ [y400]) := ⟨_, rfl⟩
        replace H : (spec_l17Prog.l0 k1 (wrap64 (x4_1 + 1)) l0_0 l0_1 y392 y403) = some (r1, r2) := by rw [hy403]; exact H
        have Ny403 := Aside0.mk hy403
        clear hy403
        have H' := Aside0.mk H
        clear H
        have hnb19 := NB387_388.out
        have hnc19 := NB388_387.out
        have hnb20 := NB387_395.out
        have hnc20 := NB395_387.out
        obtain ⟨hcz21_0, hcz21_1, hfz21_0, hfz21_1⟩ := blkB2_ BK387
        try go_wp2
        have n0_ := Aside0.mk (Kd.R_drew HO_396000.out)
        have n1_ := Aside0.mk (Kd.S_drew HO_396001.out)
        have n2_ := Aside0.mk (blk_drew BK387.out)
        have n3_ := Aside0.mk (blk_drew BK388.out)
        have n4_ := Aside0.mk (blk_drew BK395.out)
        have n5_ := Aside0.mk (below_drew1 HB.out)
        clear HO_396000
        clear HO_396001
        clear BK387
        clear BK388
        clear BK395
        clear HB
        have HO_396000 := n0_
        have HO_396001 := n1_
        have BK387 := n2_
        have BK388 := n3_
        have BK395 := n4_
        have HB := n5_
        clear n0_ n1_ n2_ n3_ n4_ n5_
        have p399 : 0 ≤ (x4_1 : Int) := of_decide_eq_true (by first | (with_reducible assumption) | assumption)
        have q399 : x4_1 < (l0_1.length : Int) := of_decide_eq_true (by first | (with_reducible assumption) | assumption)
        obtain ⟨ad399, A399_0, c399_0, e399, hx399_0, hl399_0, hi399_0⟩ := at_L4 HR0_1.out x4_1 p399 q399
        have hw399_0 := hx399_0
        cases e399
        replace hx399_0 := blc_ HB hx399_0
        have HR399_0 := Aside0.mk hi399_0
        have HC399_0 := Aside0.mk hl399_0
        clear hi399_0 hl399_0
        replace p399 := eq_true p399
        replace q399 := eq_true q399
        refine start_ (n := 13) (S := fun w' => w'.cell? ⟨gb395, 0, none⟩ = some (.slice Ao10 y392.length co10) ∧ w'.cell? ⟨gb395, 1, none⟩ = some (u396001) ∧ w'.cell? ⟨gb387, 0, none⟩ = some (.slice A0_0 l0_0.length c0_0) ∧ w'.cell? ⟨gb387, 1, none⟩ = some (.slice (some ad399) l0_1.length c0_1) ∧ w'.cell? (ad399.add (x4_1).toNat) = some (.slice A399_0 (rd_L4 l0_1 x4_1).length c399_0)) (ds := [12]) (tf_ 0 13) (by kernel_rfl) rfl rfl ⟨(blk_cell BK395.out 0).trans rfl, (blk_cell BK395.out 1).trans rfl, (blk_cell BK387.out 0).trans rfl, (blk_cell BK387.out 1).trans rfl, ((HB.out.cell (World.block_lt_of_cell? w _ hw399_0)).trans hw399_0)⟩ (fun hHeld => ?_); refine with_tabW spec_l17Prog.tab5 spec_l17Prog.bits5 (fun HT_ HW_ => ?_)
        generalize wr.drew = w22 at HO_396000 HO_396001 BK387 BK388 BK395 HB HR399_0 hx399_0 hHeld ⊢
        refine pureQ_ (i := 0) (N := some 17) (tf_ 1 12) (h := ?_)
        refine pureQ_ (i := 3) (N := some 20) #[true, false, false, true, false, false, false, false, false, false, false, false, false] (h := ?_)
        refine pureQ_ (i := 5) (N := some 22) #[true, false, false, true, false, true, false, false, false, false, false, false, false] (h := ?_)
        refine takeQ_ (i := 1) (N := some 18) #[true, true, false, true, false, true, false, false, false, false, false, false, false] hHeld (hy := Or.inl ⟨by rfl, att13_0_9⟩) (h := ?_)
        refine takeQ_ (i := 4) (N := some 21) #[true, true, false, true, true, true, false, false, false, false, false, false, false] hHeld (hy := Or.inl ⟨by rfl, att13_0_9⟩) (h := ?_)
        refine pureQ_ (i := 6) (N := some 23) #[true, true, false, true, true, true, true, false, false, false, false, false, false] (h := ?_)
        refine takeQ_ (i := 7) (N := some 24) #[true, true, false, true, true, true, true, true, false, false, false, false, false] hHeld (hy := Or.inl ⟨by rfl, att13_0_9⟩) (h := ?_)
        refine one_ (i := 2) (N := some 19) (tf_ 8 5) rfl rfl (one_of HT_.out (by kernel_rfl)) (by decide) (fun K hK => ?_)
        refine Kd.R_lit_step k63 _ 63 ?hg (N := 19) ?hd (xs := ([] : List (S63))) (inner := []) (ok := fun _ => True) (okp := fun _ => True) ?hr ?hp (fun _ hk => hk) trivial (Below.refl _ _) (Nat.le_refl _) (by simp) ?_; (case hd => rfl); (case hg => rfl); (case hr => first | (go_simp; done) | (go_simp; rfl)); (case hp => exact (Reps.none _ _))
        intro v397 w23 ho24 hb hg_ hnew_
        clear hg_ hnew_
        (first | rw [← Ny396.out] at ho24 | (simp only [Int.reduceToNat] at ho24; rw [← Ny396.out] at ho24))
        have n0_ := Aside0.mk (Kd.R_below att13_0_8 hb)
        have n1_ := Aside0.mk (Kd.S_elder' att13_0_7 (Kd.R_base ho24) hb)
        have n2_ := Aside0.mk (Kd.R_lower ho24 (below_size att13_0_0))
        have n3_ := Aside0.mk (blk_below (g := gb387) (o := .cells #[.slice A0_0 l0_0.length c0_0, .slice (some ad399) l0_1.length c0_1] 56 (0, 0)) att13_0_2 hb)
        have n4_ := Aside0.mk (blk_below (g := gb388) (o := .cells #[.slice none 0 0, .slice none 0 0] 56 (0, 0)) att13_0_3 hb)
        have n5_ := Aside0.mk (blk_below (g := gb395) (o := .cells #[.slice Ao10 y392.length co10, u396001] 56 (0, 0)) att13_0_6 hb)
        have n6_ := Aside0.mk (below_step att13_0_0 hb)
        clear HO_396000
        clear HO_396001
        clear BK387
        clear BK388
        clear BK395
        clear HB
        have HO_396000 := n0_
        have HO_396001 := n1_
        have HO398 := n2_
        have BK387 := n3_
        have BK388 := n4_
        have BK395 := n5_
        have HB := n6_
        clear n0_ n1_ n2_ n3_ n4_ n5_ n6_
        clear hb ho24
        refine hK.out _ _ ⟨(blk_cell BK395.out 0).trans rfl, (blk_cell BK395.out 1).trans rfl, (blk_cell BK387.out 0).trans rfl, (blk_cell BK387.out 1).trans rfl, ((HB.out.cell (World.block_lt_of_cell? w _ hw399_0)).trans hw399_0)⟩ (fun hHeld => ?_)
        clear hK K
        refine normP_ (h := ?_)
        refine one_ (i := 8) (N := some 25) (tf_ 9 4) rfl rfl (one_of HT_.out (by kernel_rfl)) (by decide) (fun K hK => ?_)
        refine Kd.R_append_rows_step k63 (w0 := w) w.heap.size (by rfl) (.tmp 19) (.tmp 24) 24 63 (.agg #[(.int .i64 0), (.int .i64 0), (.int .i64 0), (.int .i64 0), (.int .i64 0)]) 40 rfl Try.underlying24 info63 rfl (by decide) (by omega) v397 y396 (rd_L4 l0_1 x4_1) _ _ _ (fun _ => True) (fun _ => False) rfl rfl ?aO ?aR (fun _ _ h => h) (fun _ h => h.elim) ?aF ?aB ?aS ?aL ?_
        (case aR => repeat (first | exact (Kd.C_below HR399_0.out HB.out) | (with_reducible refine Kd.C_alloc ?_ _) | (with_reducible refine Kd.C_drewN ?_ _) | (with_reducible refine Kd.C_drew ?_)))
        (case aB => exact att13_0_0)
        (case aF => exact (fun _ _ => trivial))
        (case aO => exact att13_0_10)
        (case aS => exact (below_size att13_0_0))
        (case aL => have := LMc17.out; omega)
        intro v401 w25 ho hb hg hat
        rw [← Ny400.out] at ho
        have n0_ := Aside0.mk (Kd.R_over' att13_0_8 (Kd.R_typed att13_0_10) (by decide) hg)
        have n1_ := Aside0.mk (Kd.S_after (ok := (fun _ => True)) att13_0_7 hg hat)
        have n2_ := Aside0.mk (blk_grown (g := gb387) (o := .cells #[.slice A0_0 l0_0.length c0_0, .slice (some ad399) l0_1.length c0_1] 56 (0, 0)) att13_0_2 hg (Kd.R_ne HO398.out BK387.out (by decide)))
        have n3_ := Aside0.mk (blk_grown (g := gb388) (o := .cells #[.slice none 0 0, .slice none 0 0] 56 (0, 0)) att13_0_3 hg (Kd.R_ne HO398.out BK388.out (by decide)))
        have n4_ := Aside0.mk (blk_grown (g := gb395) (o := .cells #[.slice Ao10 y392.length co10, u396001] 56 (0, 0)) att13_0_6 hg (Kd.R_ne HO398.out BK395.out (by decide)))
        have n5_ := Aside0.mk (hb)
        have n6_ := Aside0.mk (ho)
        clear HO_396000
        clear HO_396001
        clear BK387
        clear BK388
        clear BK395
        clear HB
        clear HO398
        have HO_396000 := n0_
        have HO_396001 := n1_
        have BK387 := n2_
        have BK388 := n3_
        have BK395 := n4_
        have HB := n5_
        have HO402 := n6_
        clear n0_ n1_ n2_ n3_ n4_ n5_ n6_
        clear ho hb hg hat
        obtain ⟨Ao27, co27, eo27⟩ := Kd.R_slice HO402.out
        (first | subst eo27 | (injection eo27 with f1_ f2_ f3_; have f4_ := f1_.symm; have f5_ := f3_.symm; clear f1_ f2_ f3_; subst f4_; subst f5_))
        refine hK.out _ _ ⟨(blk_cell BK395.out 0).trans rfl, (blk_cell BK395.out 1).trans rfl, (blk_cell BK387.out 0).trans rfl, (blk_cell BK387.out 1).trans rfl, ((HB.out.cell (World.block_lt_of_cell? w _ hw399_0)).trans hw399_0)⟩ (fun hHeld => ?_)
        clear hK K
        refine normP_ (h := ?_)
        refine one_ (i := 9) (N := some 26) (tf_ 10 3) rfl rfl (one_of HT_.out (by kernel_rfl)) (by decide) (fun K hK => ?_)
        refine value_ (w1 := ?_) (v := ?_) (by rfl) rfl ?_ ?_
        rotate_left 2
        ·go_simp
         constructor
         ·rfl
         ·rfl
        refine hK.out _ _ ⟨(blk_cell (blk_alloc BK395.out _) 0).trans rfl, (blk_cell (blk_alloc BK395.out _) 1).trans rfl, (blk_cell (blk_alloc BK387.out _) 0).trans rfl, (blk_cell (blk_alloc BK387.out _) 1).trans rfl, (World.cell?_alloc_lt _ _ _ (World.block_lt_of_cell? _ _ (((HB.out.cell (World.block_lt_of_cell? w _ hw399_0)).trans hw399_0)))).trans (((HB.out.cell (World.block_lt_of_cell? w _ hw399_0)).trans hw399_0))⟩ (fun hHeld => ?_)
        clear hK K
        refine normP_ (h := ?_)
        refine one_ (i := 10) (N := some 27) (tf_ 11 2) rfl rfl (one_of HT_.out (by kernel_rfl)) (by decide) (fun K hK => ?_)
        refine Kd.S_append_step (Kd.slice 63 k63) (w0 := w) w.heap.size (by rfl) (.tmp 18) (.tmp 26) 54 24 (.slice none 0 0) 24 rfl Try.underlying54 info24 rfl (by decide) (by omega) u396001 x396001_1 y400 [.slice Ao27 y400.length co27] (fun _ => True) (fun k_ => some k_ = (.slice Ao27 y400.length co27 : Value).ownBlock) rfl rfl ?aP (fun k_ hk_ => ((Kd.R_mono (ok' := fun k_ => ((fun _ => True)) k_ ∧ some k_ ≠ (u396001 : Value).ownBlock) (Kd.R_apart' (HO402.out) (Kd.S_typed HO_396001.out) (by decide)) (fun k_ hk => ⟨trivial, hk.2⟩))).1 k_ hk_.symm) ?aF ?aO ?aB ?aS ?aL ?_
        (case aP => exact Kd.M_row (Kd.R_mono (Kd.R_tight rfl (Kd.R_mono (ok' := fun k_ => ((fun _ => True)) k_ ∧ some k_ ≠ (u396001 : Value).ownBlock) (Kd.R_apart' (HO402.out) (Kd.S_typed HO_396001.out) (by decide)) (fun k_ hk => ⟨trivial, hk.2⟩))) (fun _ h_ => h_)))
        (case aB => exact att13_0_0)
        (case aF => exact (fun _ _ => trivial))
        (case aO => exact (by exact toS_ (Kd.S_mono HO_396001.out (fun k_ hk => ⟨trivial, fun e_ => hk.2 e_⟩))))
        (case aS => exact (below_size att13_0_0))
        (case aL => have := LMc18.out; omega)
        intro v404 w26 ho hb hg hat
        rw [← Ny403.out] at ho
        have n0_ := Aside0.mk (Kd.R_over' att13_0_8 (Kd.S_typed att13_0_7) (by decide) hg)
        have n1_ := Aside0.mk (blk_grown (g := gb387) (o := .cells #[.slice A0_0 l0_0.length c0_0, .slice (some ad399) l0_1.length c0_1] 56 (0, 0)) att13_0_2 hg (Kd.S_ne HO_396001.out BK387.out (by decide)))
        have n2_ := Aside0.mk (blk_grown (g := gb388) (o := .cells #[.slice none 0 0, .slice none 0 0] 56 (0, 0)) att13_0_3 hg (Kd.S_ne HO_396001.out BK388.out (by decide)))
        have n3_ := Aside0.mk (blk_grown (g := gb395) (o := .cells #[.slice Ao10 y392.length co10, u396001] 56 (0, 0)) att13_0_6 hg (Kd.S_ne HO_396001.out BK395.out (by decide)))
        have n4_ := Aside0.mk (hb)
        have n5_ := Aside0.mk (ho)
        clear HO_396000
        clear BK387
        clear BK388
        clear BK395
        clear HB
        clear HO_396001
        clear HO402
        have HO_396000 := n0_
        have BK387 := n1_
        have BK388 := n2_
        have BK395 := n3_
        have HB := n4_
        have HO405 := n5_
        clear n0_ n1_ n2_ n3_ n4_ n5_
        clear ho hb hg hat
        obtain ⟨Ao28, co28, eo28⟩ := Kd.S_slice HO405.out
        (first | subst eo28 | (injection eo28 with f1_ f2_ f3_; have f4_ := f1_.symm; have f5_ := f3_.symm; clear f1_ f2_ f3_; subst f4_; subst f5_))
        refine hK.out _ _ ⟨(blk_cell BK395.out 0).trans rfl, (blk_cell BK395.out 1).trans rfl, (blk_cell BK387.out 0).trans rfl, (blk_cell BK387.out 1).trans rfl, ((HB.out.cell (World.block_lt_of_cell? w _ hw399_0)).trans hw399_0)⟩ (fun hHeld => ?_)
        clear hK K
        refine normP_ (h := ?_)
        refine pureQ_ (i := 11) (N := some 28) (tf_ 12 1) (h := ?_)
        refine last_ (i := 12) (N := none) (tf_ 13 0) rfl rfl (one_of HT_.out (by kernel_rfl)) (by decide) (fun K hK => ?_)
        have hs29 : w26.cell? ⟨gb395, 1, none⟩ = some (u396001) := (blk_cell BK395.out 1).trans rfl
        have hfs29 := blk_frozen BK395.out 1
        have hns29_0 := NB387_395.out
        have hns29_1 := NB388_395.out
        have hms29_0 := NB395_387.out
        have hms29_1 := NB395_388.out
        refine skip_ (w1 := ?_) (by rfl) rfl ?_ ?_
        rotate_left
        ·go_simp
         rfl
        refine hK.out _ _ ?_
        clear hK K
        refine done_ (done_of HT_.out (by kernel_rfl)) ?_
        try go_wp2
        go_roundg k1
        case measure => have := HK1.out; omega
        case rel => exact ⟨(wrap64 (x4_1 + 1)), (y403), (.slice Ao28 y403.length co28), (by first | rfl | (simp; done) | (simp [*]; done)), H', ⟨by have := HK1.out; omega⟩, ⟨by exact toR_ (Kd.R_mono (Kd.R_far (p := ⟨gb395, 1, none⟩) (Kd.R_types HO_396000.out BK395.out (by decide)) (fun _ hk => hk.2) (.slice Ao28 y403.length co28)) (fun _ hk => trivial))⟩, ⟨by exact toS_ (Kd.S_mono (Kd.S_far (p := ⟨gb395, 1, none⟩) (Kd.S_types HO405.out BK395.out (by decide)) (fun _ hk => hk.2) (.slice Ao28 y403.length co28)) (fun _ hk => trivial))⟩, ⟨by (with_reducible repeat (first | refine blk_drewN ?_ _ | refine blk_drew ?_ | refine blk_alloc ?_ _)); refine blk_far ?_ NB387_395.out _; (with_reducible repeat (first | refine blk_drewN ?_ _ | refine blk_drew ?_ | refine blk_alloc ?_ _)); exact BK387.out⟩, ⟨by (with_reducible repeat (first | refine blk_drewN ?_ _ | refine blk_drew ?_ | refine blk_alloc ?_ _)); refine blk_far ?_ NB388_395.out _; (with_reducible repeat (first | refine blk_drewN ?_ _ | refine blk_drew ?_ | refine blk_alloc ?_ _)); exact BK388.out⟩, ⟨by (with_reducible repeat (first | refine blk_drewN ?_ _ | refine blk_drew ?_ | refine blk_alloc ?_ _)); refine blk_put (cs := #[.slice Ao10 y392.length co10, u396001]) ?_ 1 _ rfl; (with_reducible repeat (first | refine blk_drewN ?_ _ | refine blk_drew ?_ | refine blk_alloc ?_ _)); exact BK395.out⟩, ⟨att13_0_0⟩⟩
       ·rw [if_neg c18] at H
        exact absurd H (by simp)
      ·rw [if_neg c17] at H
       exact absurd H (by simp)
     ·rw [if_neg c16] at H
      exact absurd H (by simp)
    ·rw [if_neg c15] at H
     have c15b0 := decide_eq_false c15
     clear c15
     simp only [Option.some.injEq, Prod.mk.injEq] at H
     obtain ⟨rfl, rfl⟩ := H
     have hnb30 := NB387_388.out
     have hnc30 := NB388_387.out
     have hnb31 := NB387_395.out
     have hnc31 := NB395_387.out
     obtain ⟨hcz32_0, hcz32_1, hfz32_0, hfz32_1⟩ := blkB2_ BK387
     have hnb33 := NB395_388.out
     have hnc33 := NB388_395.out
     obtain ⟨hcz34_0, hcz34_1, hfz34_0, hfz34_1⟩ := blkB2_ BK395
     obtain ⟨hcz35_0, hcz35_1, hfz35_0, hfz35_1⟩ := blkB2_ BK388
     obtain ⟨Ao36, co36, eo36⟩ := Kd.S_slice HO_396001.out
     subst eo36
     go_wp2
     refine bodyPost_ret (results_cell_row rfl _ _ gb388 56 #[.slice Ao10 y392.length co10, .slice Ao36 x396001_1.length co36] (0, 0) _ rfl (by (with_reducible repeat (first | refine blk_drewN ?_ _ | refine blk_drew ?_ | refine blk_alloc ?_ _)); refine blk_put (cs := #[.slice Ao10 y392.length co10, .slice none 0 0]) ?_ 1 _ rfl; (with_reducible repeat (first | refine blk_drewN ?_ _ | refine blk_drew ?_ | refine blk_alloc ?_ _)); refine blk_put (cs := #[.slice none 0 0, .slice none 0 0]) ?_ 0 _ rfl; (with_reducible repeat (first | refine blk_drewN ?_ _ | refine blk_drew ?_ | refine blk_alloc ?_ _)); exact BK388.out) Try.underlying56 rfl (by kernel_rfl)) rfl ?_
     exact ⟨_, _, retT_, by exact toR_ (Kd.R_mono (farR2_ (Kd.R_types HO_396000.out BK388.out (by decide))) (fun _ hk => trivial)), by exact toS_ (Kd.S_mono (farS2_ (Kd.S_types HO_396001.out BK388.out (by decide))) (fun _ hk => trivial)), att13_0_0⟩
 ·rw [if_neg c2] at H
  exact absurd H (by simp)

end Go.Proofs.Ytocimkpafakiaaa.XFnExactTrimProg
