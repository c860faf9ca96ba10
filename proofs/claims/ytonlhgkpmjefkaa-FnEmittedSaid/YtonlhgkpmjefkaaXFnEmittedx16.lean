/- Each Go function that the law reaches as a Lean function, and that Go comes to just its answer; written by this session's xprint.py over the kit's printer. -/
import Derived.Test.YtonlhgkpmjefkaaXFnEmittedx0
namespace Go.Proofs.Ytonlhgkpmjefkaa.XFnEmitted
open Go.RowKit Go.Proofs.YtonlhgkpmjefkaaW.PrintWords Go.Proofs.YtonlhgkpmjefkaaW.PrintLast Go.Proofs.YtonlhgkpmjefkaaW.PrintMore
attribute [local go_sem] max2_int min2_int max_two min_two max_three min_three max_four min_four   -- for this text's walks alone
set_option linter.unusedVariables false
set_option linter.unusedSimpArgs false

theorem att17_0_0 {p : Prop} (h : p := by (with_reducible repeat (first | refine blk_drewN ?_ _ | refine blk_drew ?_ | refine blk_alloc ?_ _)); refine blk_put (cs := #[.int .i64 a0_0, .int .i64 0, .int .i64 0, .int .i64 0, .int .i64 0]) ?_ 4 _ rfl; (with_reducible repeat (first | refine blk_drewN ?_ _ | refine blk_drew ?_ | refine blk_alloc ?_ _)); refine blk_put (cs := #[.int .i64 a0_0, .int .i64 0, .int .i64 0, .int .i64 0, .int .i64 0]) ?_ 3 _ rfl; (with_reducible repeat (first | refine blk_drewN ?_ _ | refine blk_drew ?_ | refine blk_alloc ?_ _)); refine blk_put (cs := #[.int .i64 a0_0, .int .i64 0, .int .i64 0, .int .i64 0, .int .i64 0]) ?_ 2 _ rfl; (with_reducible repeat (first | refine blk_drewN ?_ _ | refine blk_drew ?_ | refine blk_alloc ?_ _)); refine blk_put (cs := #[.int .i64 a0_0, .int .i64 0, .int .i64 0, .int .i64 0, .int .i64 0]) ?_ 1 _ rfl; (with_reducible repeat (first | refine blk_drewN ?_ _ | refine blk_drew ?_ | refine blk_alloc ?_ _)); refine blk_put (cs := #[.int .i64 0, .int .i64 0, .int .i64 0, .int .i64 0, .int .i64 0]) ?_ 0 _ rfl; (with_reducible repeat (first | refine blk_drewN ?_ _ | refine blk_drew ?_ | refine blk_alloc ?_ _)); exact BK487.out) : p := h
theorem att17_0_1 {p : Prop} (h : p := by repeat (first | (with_reducible first | exact HB.out | apply below_alloc | apply pw_below_drewN | apply below_drew1 | refine below_set ?_ GE485.out | refine below_set ?_ GE486.out | refine below_set ?_ GE487.out) | exact HB.out)) : p := h
theorem att17_0_2 {p : Prop} (h : p := by (with_reducible repeat (first | refine blk_drewN ?_ _ | refine blk_drew ?_ | refine blk_alloc ?_ _)); refine blk_far ?_ NB486_487.out _; (with_reducible repeat (first | refine blk_drewN ?_ _ | refine blk_drew ?_ | refine blk_alloc ?_ _)); refine blk_far ?_ NB486_487.out _; (with_reducible repeat (first | refine blk_drewN ?_ _ | refine blk_drew ?_ | refine blk_alloc ?_ _)); refine blk_far ?_ NB486_487.out _; (with_reducible repeat (first | refine blk_drewN ?_ _ | refine blk_drew ?_ | refine blk_alloc ?_ _)); refine blk_far ?_ NB486_487.out _; (with_reducible repeat (first | refine blk_drewN ?_ _ | refine blk_drew ?_ | refine blk_alloc ?_ _)); refine blk_far ?_ NB486_487.out _; (with_reducible repeat (first | refine blk_drewN ?_ _ | refine blk_drew ?_ | refine blk_alloc ?_ _)); exact BK486.out) : p := h
theorem att17_0_3 {p : Prop} (h : p := by (with_reducible repeat (first | refine blk_drewN ?_ _ | refine blk_drew ?_ | refine blk_alloc ?_ _)); refine blk_far ?_ NB485_487.out _; (with_reducible repeat (first | refine blk_drewN ?_ _ | refine blk_drew ?_ | refine blk_alloc ?_ _)); refine blk_far ?_ NB485_487.out _; (with_reducible repeat (first | refine blk_drewN ?_ _ | refine blk_drew ?_ | refine blk_alloc ?_ _)); refine blk_far ?_ NB485_487.out _; (with_reducible repeat (first | refine blk_drewN ?_ _ | refine blk_drew ?_ | refine blk_alloc ?_ _)); refine blk_far ?_ NB485_487.out _; (with_reducible repeat (first | refine blk_drewN ?_ _ | refine blk_drew ?_ | refine blk_alloc ?_ _)); refine blk_far ?_ NB485_487.out _; (with_reducible repeat (first | refine blk_drewN ?_ _ | refine blk_drew ?_ | refine blk_alloc ?_ _)); exact BK485.out) : p := h
theorem att17_0_4 {p : Prop} (h : p := by (with_reducible repeat (first | refine blk_drewN ?_ _ | refine blk_drew ?_ | refine blk_alloc ?_ _)); exact BK485.out) : p := h
theorem att17_0_5 {p : Prop} (h : p := by repeat (first | (with_reducible first | exact HB.out | apply below_alloc | apply pw_below_drewN | apply below_drew1 | refine below_set ?_ GE485.out | refine below_set ?_ GE486.out) | exact HB.out)) : p := h
theorem att17_0_6 {p : Prop} (h : p := by rintro w' ⟨s0, s1, s2, s3, s4⟩; go_simp; with_reducible rfl) : p := h
theorem att17_0_7 {p : Prop} (h : p := by repeat (first | (with_reducible first | exact HB.out | apply below_alloc | apply pw_below_drewN | apply below_drew1 | refine below_set ?_ GE485.out) | exact HB.out)) : p := h
theorem att17_0_8 {p : Prop} (h : p := by (with_reducible repeat (first | refine blk_drewN ?_ _ | refine blk_drew ?_ | refine blk_alloc ?_ _)); exact BK486.out) : p := h
theorem att17_0_11 {p : Prop} (h : p := by (with_reducible repeat (first | refine blk_drewN ?_ _ | refine blk_drew ?_ | refine blk_alloc ?_ _)); exact BK487.out) : p := h
/-! ### impl_stepNamed: function 119 -/
mutual
def impl_stepNamed.j0 : Nat → Int → Bool → Int → Int → Int → Int → Int → Int → Int → Int → Int → Int → Option (Int × Int × Int × Int × Int)
 | 0, _, _, _, _, _, _, _, _, _, _, _, _ => none
 | k + 1, x8, x17, x486000, x486001, x486002, x486003, x486004, x488000, x488001, x488002, x488003, x488004 => if x17 = true then (some (x488000, x486001, x486002, x486003, x488004)) else (if x8 = 5 then (some (x488000, x486001, x486002, x488003, x486004)) else (if x8 = 6 then (impl_stepNamed.j1 k x8 (x8 == 6) x486000 x486001 x486002 x486003 x486004 x488000 x488001 x488002 x488003 x488004) else (impl_stepNamed.j1 k x8 (x8 == 7) x486000 x486001 x486002 x486003 x486004 x488000 x488001 x488002 x488003 x488004)))
def impl_stepNamed.j1 : Nat → Int → Bool → Int → Int → Int → Int → Int → Int → Int → Int → Int → Int → Option (Int × Int × Int × Int × Int)
 | 0, _, _, _, _, _, _, _, _, _, _, _, _ => none
 | k + 1, x8, x41, x486000, x486001, x486002, x486003, x486004, x488000, x488001, x488002, x488003, x488004 => if x41 = true then (some (x488000, x488001, x486002, x486003, x486004)) else (if x8 = 8 then (some (x488000, x486001, x488002, x486003, x486004)) else (if x8 = 9 then (some (x488000, x488001, x486002, x488003, x488004)) else (if x8 = 10 then (some (x488000, x488001, x488002, x488003, x486004)) else (if x8 = 11 then (some (x488000, x488001, x486002, x488003, x486004)) else (some (x488000, x488001, x488002, x488003, x488004))))))
end
def impl_stepNamed.f (k : Nat) (a0_0 : Int) (a0_1 : Int) (a0_2 : Int) (a0_3 : Int) (a0_4 : Int) : Option (Int × Int × Int × Int × Int) := if a0_0 = 1 then (some (a0_0, a0_1, 0, 0, a0_4)) else (if a0_0 = 2 then (impl_stepNamed.j0 k a0_0 (a0_0 == 2) a0_0 a0_1 a0_2 a0_3 a0_4 a0_0 0 0 0 0) else (if a0_0 = 3 then (impl_stepNamed.j0 k a0_0 (a0_0 == 3) a0_0 a0_1 a0_2 a0_3 a0_4 a0_0 0 0 0 0) else (impl_stepNamed.j0 k a0_0 (a0_0 == 4) a0_0 a0_1 a0_2 a0_3 a0_4 a0_0 0 0 0 0)))
theorem impl_stepNamed.mono_l : ∀ k, (∀ y0 y1 y2 y3 y4 y5 y6 y7 y8 y9 y10 y11, LeO (impl_stepNamed.j0 k y0 y1 y2 y3 y4 y5 y6 y7 y8 y9 y10 y11) (impl_stepNamed.j0 (k + 1) y0 y1 y2 y3 y4 y5 y6 y7 y8 y9 y10 y11)) ∧ (∀ y0 y1 y2 y3 y4 y5 y6 y7 y8 y9 y10 y11, LeO (impl_stepNamed.j1 k y0 y1 y2 y3 y4 y5 y6 y7 y8 y9 y10 y11) (impl_stepNamed.j1 (k + 1) y0 y1 y2 y3 y4 y5 y6 y7 y8 y9 y10 y11))
 | 0 => ⟨fun _ _ _ _ _ _ _ _ _ _ _ _ r h => by simp [impl_stepNamed.j0] at h, fun _ _ _ _ _ _ _ _ _ _ _ _ r h => by simp [impl_stepNamed.j1] at h⟩
 | k + 1 => by
  obtain ⟨ih0, ih1⟩ := impl_stepNamed.mono_l k
  refine ⟨?_, ?_⟩
  all_goals intros
  all_goals first | unfold impl_stepNamed.j0 | unfold impl_stepNamed.j1
  all_goals repeat' (with_reducible first | exact ih0 .. | exact ih1 .. | exact LeO.refl _ | exact LeO.none _ | refine LeO.ite ?_ ?_ | refine LeO.bind ?_ (fun _ => ?_))
theorem impl_stepNamed.mono : ∀ a0 a1 a2 a3 a4 k, LeO (impl_stepNamed.f k a0 a1 a2 a3 a4) (impl_stepNamed.f (k + 1) a0 a1 a2 a3 a4) := by
 intro a0 a1 a2 a3 a4 k
 obtain ⟨ih0, ih1⟩ := impl_stepNamed.mono_l k
 unfold impl_stepNamed.f
 repeat' (with_reducible first | exact ih0 .. | exact ih1 .. | exact LeO.refl _ | exact LeO.none _ | refine LeO.ite ?_ ?_ | refine LeO.bind ?_ (fun _ => ?_))
def impl_stepNamed.T4 : Bool × List (List Nat × List Nat) := (true, [([], []), ([0], [0]), ([], []), ([2], [2]), ([0, 1], []), ([4, 1, 0, 1], [1, 4]), ([0, 1, 2, 3, 4, 5], []), ([6, 3, 5, 0, 1, 2, 3, 4, 5], [3, 6])])
def impl_stepNamed.B4 : List Nat := [0, 1, 0, 4, 3, 19, 63, 127]
theorem impl_stepNamed.tab4 : rtab .any (opsOf Try.f119 4) = impl_stepNamed.T4 := by kernel_rfl
theorem impl_stepNamed.bits4 : waitsOk impl_stepNamed.T4.2 impl_stepNamed.B4 = true := by kernel_rfl
def impl_stepNamed.T8 : Bool × List (List Nat × List Nat) := (true, [([], []), ([0], [0]), ([], []), ([2], [2]), ([], []), ([4], [4]), ([0, 1], []), ([6, 1, 0, 1], [1, 6]), ([0, 1, 2, 3, 6, 7], []), ([8, 3, 7, 0, 1, 2, 3, 6, 7], [3, 8]), ([0, 1, 2, 3, 4, 5, 6, 7, 8, 9], []), ([10, 5, 9, 0, 1, 2, 3, 4, 5, 6, 7, 8, 9], [5, 10])])
def impl_stepNamed.B8 : List Nat := [0, 1, 0, 4, 0, 16, 3, 67, 207, 463, 1023, 2047]
theorem impl_stepNamed.tab8 : rtab .any (opsOf Try.f119 8) = impl_stepNamed.T8 := by kernel_rfl
theorem impl_stepNamed.bits8 : waitsOk impl_stepNamed.T8.2 impl_stepNamed.B8 = true := by kernel_rfl
def impl_stepNamed.T10 : Bool × List (List Nat × List Nat) := (true, [([], []), ([0], [0]), ([], []), ([2], [2]), ([], []), ([4], [4]), ([0, 1], []), ([6, 1, 0, 1], [1, 6]), ([0, 1, 2, 3, 6, 7], []), ([8, 3, 7, 0, 1, 2, 3, 6, 7], [3, 8]), ([0, 1, 2, 3, 4, 5, 6, 7, 8, 9], []), ([10, 5, 9, 0, 1, 2, 3, 4, 5, 6, 7, 8, 9], [5, 10])])
def impl_stepNamed.B10 : List Nat := [0, 1, 0, 4, 0, 16, 3, 67, 207, 463, 1023, 2047]
theorem impl_stepNamed.tab10 : rtab .any (opsOf Try.f119 10) = impl_stepNamed.T10 := by kernel_rfl
theorem impl_stepNamed.bits10 : waitsOk impl_stepNamed.T10.2 impl_stepNamed.B10 = true := by kernel_rfl
def impl_stepNamed.T13 : Bool × List (List Nat × List Nat) := (true, [([], []), ([0], [0]), ([], []), ([2], [2]), ([], []), ([4], [4]), ([0, 1], []), ([6, 1, 0, 1], [1, 6]), ([0, 1, 2, 3, 6, 7], []), ([8, 3, 7, 0, 1, 2, 3, 6, 7], [3, 8]), ([0, 1, 2, 3, 4, 5, 6, 7, 8, 9], []), ([10, 5, 9, 0, 1, 2, 3, 4, 5, 6, 7, 8, 9], [5, 10])])
def impl_stepNamed.B13 : List Nat := [0, 1, 0, 4, 0, 16, 3, 67, 207, 463, 1023, 2047]
theorem impl_stepNamed.tab13 : rtab .any (opsOf Try.f119 13) = impl_stepNamed.T13 := by kernel_rfl
theorem impl_stepNamed.bits13 : waitsOk impl_stepNamed.T13.2 impl_stepNamed.B13 = true := by kernel_rfl
def impl_stepNamed.T15 : Bool × List (List Nat × List Nat) := (true, [([], []), ([0], [0]), ([], []), ([2], [2]), ([], []), ([4], [4]), ([0, 1], []), ([6, 1, 0, 1], [1, 6]), ([0, 1, 2, 3, 6, 7], []), ([8, 3, 7, 0, 1, 2, 3, 6, 7], [3, 8]), ([0, 1, 2, 3, 4, 5, 6, 7, 8, 9], []), ([10, 5, 9, 0, 1, 2, 3, 4, 5, 6, 7, 8, 9], [5, 10])])
def impl_stepNamed.B15 : List Nat := [0, 1, 0, 4, 0, 16, 3, 67, 207, 463, 1023, 2047]
theorem impl_stepNamed.tab15 : rtab .any (opsOf Try.f119 15) = impl_stepNamed.T15 := by kernel_rfl
theorem impl_stepNamed.bits15 : waitsOk impl_stepNamed.T15.2 impl_stepNamed.B15 = true := by kernel_rfl
def impl_stepNamed.T21 : Bool × List (List Nat × List Nat) := (true, [([], []), ([0], [0]), ([], []), ([2], [2]), ([0, 1], []), ([4, 1, 0, 1], [1, 4]), ([0, 1, 2, 3, 4, 5], []), ([6, 3, 5, 0, 1, 2, 3, 4, 5], [3, 6])])
def impl_stepNamed.B21 : List Nat := [0, 1, 0, 4, 3, 19, 63, 127]
theorem impl_stepNamed.tab21 : rtab .any (opsOf Try.f119 21) = impl_stepNamed.T21 := by kernel_rfl
theorem impl_stepNamed.bits21 : waitsOk impl_stepNamed.T21.2 impl_stepNamed.B21 = true := by kernel_rfl
set_option maxHeartbeats 80000000 in
set_option maxRecDepth 100000 in
theorem impl_stepNamed.calls (k : Nat) (a0_0 : Int) (a0_1 : Int) (a0_2 : Int) (a0_3 : Int) (a0_4 : Int) (r1 : Int) (r2 : Int) (r3 : Int) (r4 : Int) (r5 : Int) (w : World) (h : impl_stepNamed.f k a0_0 a0_1 a0_2 a0_3 a0_4 = some (r1, r2, r3, r4, r5)) :
  Calls Try.prog 119 #[.agg #[.int .i64 a0_0, .int .i64 a0_1, .int .i64 a0_2, .int .i64 a0_3, .int .i64 a0_4]] w fun e w' => e = .returned (.agg #[.int .i64 r1, .int .i64 r2, .int .i64 r3, .int .i64 r4, .int .i64 r5]) ∧ Below w.heap.size w w' := by
 have hu46 := Try.underlying46
 have HB := Aside0.mk (Below.refl w.heap.size w)
 have H : (if a0_0 = 1 then (some (a0_0, a0_1, 0, 0, a0_4)) else (if a0_0 = 2 then (impl_stepNamed.j0 k a0_0 (a0_0 == 2) a0_0 a0_1 a0_2 a0_3 a0_4 a0_0 0 0 0 0) else (if a0_0 = 3 then (impl_stepNamed.j0 k a0_0 (a0_0 == 3) a0_0 a0_1 a0_2 a0_3 a0_4 a0_0 0 0 0 0) else (impl_stepNamed.j0 k a0_0 (a0_0 == 4) a0_0 a0_1 a0_2 a0_3 a0_4 a0_0 0 0 0 0)))) = some (r1, r2, r3, r4, r5) := h
 clear h
 by_cases c2 : a0_0 = 1
 ·rw [if_pos c2] at H
  have c2b0 := beq_iff_eq.mpr c2
  have c2b1 := bne_eq_false_iff_eq.mpr c2
  clear c2
  simp only [Option.some.injEq, Prod.mk.injEq] at H
  obtain ⟨rfl, rfl, rfl, rfl, rfl⟩ := H
  go_enter Try.func119, Try.ntmps119
  try go_wp2_with (first | ((with_reducible refine gate_dst (N := 1) rfl ?_); refine box_event ?hg (N := 1) ?hd (cs := #[.int .i64 a0_0, .int .i64 a0_1, .int .i64 a0_2, .int .i64 a0_3, .int .i64 a0_4]) (t := 46) ?hr ?_; (case hd => rfl); (case hg => rfl); (case hr => first | (go_simp; done) | (go_simp; rfl)); intro gb485 hg w3 hbox hb; refine swap4_ (below_step atgB_ hb) (hbox) ((by rw [hg]; exact (below_size atgB_) : w.heap.size ≤ gb485)) ((by rw [hg]; exact (below_size atgB_) : w.heap.size ≤ gb485)) ?_; clear HB; intro HB BK485 GW485 GE485; clear hb hbox hg) | ((with_reducible refine gate_dst (N := 2) rfl ?_); refine box_event ?hg (N := 2) ?hd (cs := #[.int .i64 0, .int .i64 0, .int .i64 0, .int .i64 0, .int .i64 0]) (t := 46) ?hr ?_; (case hd => rfl); (case hg => rfl); (case hr => first | (go_simp; done) | (go_simp; rfl)); intro gb486 hg w4 hbox hb; refine swap7_ (blk_below (g := gb485) (o := .cells #[.int .i64 a0_0, .int .i64 a0_1, .int .i64 a0_2, .int .i64 a0_3, .int .i64 a0_4] 46 (0, 0)) att17_0_4 hb) (below_step att17_0_7 hb) (hbox) ((by rw [hg]; exact (below_size att17_0_7) : w.heap.size ≤ gb486)) ((by rw [hg]; exact (below_size att17_0_7) : w.heap.size ≤ gb486)) ((by rw [hg]; exact Nat.ne_of_lt (blk_lt (g := gb485) (o := .cells #[.int .i64 a0_0, .int .i64 a0_1, .int .i64 a0_2, .int .i64 a0_3, .int .i64 a0_4] 46 (0, 0)) att17_0_4) : gb485 ≠ gb486)) ((by rw [hg]; exact Nat.ne_of_gt (blk_lt (g := gb485) (o := .cells #[.int .i64 a0_0, .int .i64 a0_1, .int .i64 a0_2, .int .i64 a0_3, .int .i64 a0_4] 46 (0, 0)) att17_0_4) : gb486 ≠ gb485)) ?_; clear BK485 HB; intro BK485 HB BK486 GW486 GE486 NB485_486 NB486_485; clear hb hbox hg; have hnb5 := NB485_486.out; have hnc5 := NB486_485.out; obtain ⟨hcz6_0, hcz6_1, hcz6_2, hcz6_3, hcz6_4, hfz6_0, hfz6_1, hfz6_2, hfz6_3, hfz6_4⟩ := blkB5_ BK485) | ((with_reducible refine gate_dst (N := 3) rfl ?_); refine box_event ?hg (N := 3) ?hd (cs := #[.int .i64 0, .int .i64 0, .int .i64 0, .int .i64 0, .int .i64 0]) (t := 46) ?hr ?_; (case hd => rfl); (case hg => rfl); (case hr => first | (go_simp; done) | (go_simp; rfl)); intro gb487 hg w7 hbox hb; refine swap10_ (blk_below (g := gb485) (o := .cells #[.int .i64 a0_0, .int .i64 a0_1, .int .i64 a0_2, .int .i64 a0_3, .int .i64 a0_4] 46 (0, 0)) att17_0_4 hb) (blk_below (g := gb486) (o := .cells #[.int .i64 0, .int .i64 0, .int .i64 0, .int .i64 0, .int .i64 0] 46 (0, 0)) att17_0_8 hb) (below_step att17_0_5 hb) (hbox) ((by rw [hg]; exact (below_size att17_0_5) : w.heap.size ≤ gb487)) ((by rw [hg]; exact (below_size att17_0_5) : w.heap.size ≤ gb487)) ((by rw [hg]; exact Nat.ne_of_lt (blk_lt (g := gb485) (o := .cells #[.int .i64 a0_0, .int .i64 a0_1, .int .i64 a0_2, .int .i64 a0_3, .int .i64 a0_4] 46 (0, 0)) att17_0_4) : gb485 ≠ gb487)) ((by rw [hg]; exact Nat.ne_of_gt (blk_lt (g := gb485) (o := .cells #[.int .i64 a0_0, .int .i64 a0_1, .int .i64 a0_2, .int .i64 a0_3, .int .i64 a0_4] 46 (0, 0)) att17_0_4) : gb487 ≠ gb485)) ((by rw [hg]; exact Nat.ne_of_lt (blk_lt (g := gb486) (o := .cells #[.int .i64 0, .int .i64 0, .int .i64 0, .int .i64 0, .int .i64 0] 46 (0, 0)) att17_0_8) : gb486 ≠ gb487)) ((by rw [hg]; exact Nat.ne_of_gt (blk_lt (g := gb486) (o := .cells #[.int .i64 0, .int .i64 0, .int .i64 0, .int .i64 0, .int .i64 0] 46 (0, 0)) att17_0_8) : gb487 ≠ gb486)) ?_; clear BK485 BK486 HB; intro BK485 BK486 HB BK487 GW487 GE487 NB485_487 NB487_485 NB486_487 NB487_486; clear hb hbox hg; have hnb8 := NB487_485.out; have hnc8 := NB485_487.out; have hnb9 := NB487_486.out; have hnc9 := NB486_487.out; obtain ⟨hcz10_0, hcz10_1, hcz10_2, hcz10_3, hcz10_4, hfz10_0, hfz10_1, hfz10_2, hfz10_3, hfz10_4⟩ := blkB5_ BK487; obtain ⟨hcz11_0, hcz11_1, hcz11_2, hcz11_3, hcz11_4, hfz11_0, hfz11_1, hfz11_2, hfz11_3, hfz11_4⟩ := blkB5_ BK485))
  have n0_ : Aside0 ((((((w7.setCell ⟨gb487, 0, none⟩ (.int .i64 a0_0)).setCell ⟨gb487, 1, none⟩ (.int .i64 0)).setCell ⟨gb487, 2, none⟩ (.int .i64 0)).setCell ⟨gb487, 3, none⟩ (.int .i64 0)).setCell ⟨gb487, 4, none⟩ (.int .i64 0)).heap[gb485]? = some (.cells #[.int .i64 a0_0, .int .i64 a0_1, .int .i64 a0_2, .int .i64 a0_3, .int .i64 a0_4] 46 (0, 0))) := ⟨att17_0_3⟩
  have n1_ : Aside0 ((((((w7.setCell ⟨gb487, 0, none⟩ (.int .i64 a0_0)).setCell ⟨gb487, 1, none⟩ (.int .i64 0)).setCell ⟨gb487, 2, none⟩ (.int .i64 0)).setCell ⟨gb487, 3, none⟩ (.int .i64 0)).setCell ⟨gb487, 4, none⟩ (.int .i64 0)).heap[gb486]? = some (.cells #[.int .i64 0, .int .i64 0, .int .i64 0, .int .i64 0, .int .i64 0] 46 (0, 0))) := ⟨att17_0_2⟩
  have n2_ : Aside0 ((((((w7.setCell ⟨gb487, 0, none⟩ (.int .i64 a0_0)).setCell ⟨gb487, 1, none⟩ (.int .i64 0)).setCell ⟨gb487, 2, none⟩ (.int .i64 0)).setCell ⟨gb487, 3, none⟩ (.int .i64 0)).setCell ⟨gb487, 4, none⟩ (.int .i64 0)).heap[gb487]? = some (.cells #[.int .i64 a0_0, .int .i64 0, .int .i64 0, .int .i64 0, .int .i64 0] 46 (0, 0))) := ⟨att17_0_0⟩
  have n3_ : Aside0 (Below w.heap.size w (((((w7.setCell ⟨gb487, 0, none⟩ (.int .i64 a0_0)).setCell ⟨gb487, 1, none⟩ (.int .i64 0)).setCell ⟨gb487, 2, none⟩ (.int .i64 0)).setCell ⟨gb487, 3, none⟩ (.int .i64 0)).setCell ⟨gb487, 4, none⟩ (.int .i64 0))) := ⟨att17_0_1⟩
  (try clear BK485)
  (try clear BK486)
  (try clear BK487)
  (try clear HB)
  generalize (((((w7.setCell ⟨gb487, 0, none⟩ (.int .i64 a0_0)).setCell ⟨gb487, 1, none⟩ (.int .i64 0)).setCell ⟨gb487, 2, none⟩ (.int .i64 0)).setCell ⟨gb487, 3, none⟩ (.int .i64 0)).setCell ⟨gb487, 4, none⟩ (.int .i64 0)) = w12 at n0_ n1_ n2_ n3_ ⊢
  have BK485 := n0_
  have BK486 := n1_
  have BK487 := n2_
  have HB := n3_
  clear n0_ n1_ n2_ n3_
  refine swap4_ (blk_drew BK485.out) (blk_drew BK486.out) (blk_drew BK487.out) (below_drew1 HB.out) ?_
  clear BK485 BK486 BK487 HB
  intro BK485 BK486 BK487 HB
  refine start_ (n := 8) (S := fun w' => w'.cell? ⟨gb485, 0, none⟩ = some (.int .i64 a0_0) ∧ w'.cell? ⟨gb485, 1, none⟩ = some (.int .i64 a0_1) ∧ w'.cell? ⟨gb485, 2, none⟩ = some (.int .i64 a0_2) ∧ w'.cell? ⟨gb485, 3, none⟩ = some (.int .i64 a0_3) ∧ w'.cell? ⟨gb485, 4, none⟩ = some (.int .i64 a0_4)) (ds := []) (tf_ 0 8) (by kernel_rfl) rfl rfl ⟨(blk_cell BK485.out 0).trans rfl, (blk_cell BK485.out 1).trans rfl, (blk_cell BK485.out 2).trans rfl, (blk_cell BK485.out 3).trans rfl, (blk_cell BK485.out 4).trans rfl⟩ (fun hHeld => ?_); refine with_tabW impl_stepNamed.tab4 impl_stepNamed.bits4 (fun HT_ HW_ => ?_)
  generalize w12.drew = w13 at BK485 BK486 BK487 HB hHeld ⊢
  refine pureQ_ (i := 0) (N := some 11) (tf_ 1 7) (h := ?_)
  refine pureQ_ (i := 2) (N := some 13) #[true, false, true, false, false, false, false, false] (h := ?_)
  refine takeQ_ (i := 1) (N := some 12) (tf_ 3 5) hHeld (hy := Or.inl ⟨by rfl, att17_0_6⟩) (h := ?_)
  refine pureQ_ (i := 4) (N := some 15) #[true, true, true, false, true, false, false, false] (h := ?_)
  refine takeQ_ (i := 3) (N := some 14) (tf_ 5 3) hHeld (hy := Or.inl ⟨by rfl, att17_0_6⟩) (h := ?_)
  refine one_ (i := 5) (N := none) (tf_ 6 2) rfl rfl (one_of HT_.out (by kernel_rfl)) (by decide) (fun K hK => ?_)
  have hs14 : w13.cell? ⟨gb487, 1, none⟩ = some (.int .i64 0) := (blk_cell BK487.out 1).trans rfl
  have hfs14 := blk_frozen BK487.out 1
  have hns14_0 := NB485_487.out
  have hns14_1 := NB486_487.out
  have hms14_0 := NB487_485.out
  have hms14_1 := NB487_486.out
  refine skip_ (w1 := ?_) (by rfl) rfl ?_ ?_
  rotate_left
  ·go_simp
   rfl
  refine hK.out _ _ ⟨((cell_far (p := ⟨gb487, _, none⟩) NB485_487.out _).trans (hHeld.1)), ((cell_far (p := ⟨gb487, _, none⟩) NB485_487.out _).trans (hHeld.2.1)), ((cell_far (p := ⟨gb487, _, none⟩) NB485_487.out _).trans (hHeld.2.2.1)), ((cell_far (p := ⟨gb487, _, none⟩) NB485_487.out _).trans (hHeld.2.2.2.1)), ((cell_far (p := ⟨gb487, _, none⟩) NB485_487.out _).trans (hHeld.2.2.2.2))⟩ (fun hHeld => ?_)
  clear hK K
  refine pureQ_ (i := 6) (N := some 16) (tf_ 7 1) (h := ?_)
  refine one_ (i := 7) (N := none) (tf_ 8 0) rfl rfl (one_of HT_.out (by kernel_rfl)) (by decide) (fun K hK => ?_)
  have hs15 : w13.cell? ⟨gb487, 4, none⟩ = some (.int .i64 0) := (blk_cell BK487.out 4).trans rfl
  have hfs15 := blk_frozen BK487.out 4
  have hns15_0 := NB485_487.out
  have hns15_1 := NB486_487.out
  have hms15_0 := NB487_485.out
  have hms15_1 := NB487_486.out
  refine skip_ (w1 := ?_) (by rfl) rfl ?_ ?_
  rotate_left
  ·go_simp
   rfl
  refine hK.out _ _ ⟨((cell_far (p := ⟨gb487, _, none⟩) NB485_487.out _).trans (hHeld.1)), ((cell_far (p := ⟨gb487, _, none⟩) NB485_487.out _).trans (hHeld.2.1)), ((cell_far (p := ⟨gb487, _, none⟩) NB485_487.out _).trans (hHeld.2.2.1)), ((cell_far (p := ⟨gb487, _, none⟩) NB485_487.out _).trans (hHeld.2.2.2.1)), ((cell_far (p := ⟨gb487, _, none⟩) NB485_487.out _).trans (hHeld.2.2.2.2))⟩ (fun hHeld => ?_)
  clear hK K
  refine done_ (done_of HT_.out (by kernel_rfl)) ?_
  obtain ⟨hcz16_0, hcz16_1, hcz16_2, hcz16_3, hcz16_4, hfz16_0, hfz16_1, hfz16_2, hfz16_3, hfz16_4⟩ := blkB5_ BK487
  obtain ⟨hcz17_0, hcz17_1, hcz17_2, hcz17_3, hcz17_4, hfz17_0, hfz17_1, hfz17_2, hfz17_3, hfz17_4⟩ := blkB5_ BK486
  try go_wp2
  refine bodyPost_ret (results_cell_row rfl _ _ gb486 46 #[.int .i64 a0_0, .int .i64 a0_1, .int .i64 0, .int .i64 0, .int .i64 a0_4] (0, 0) _ rfl (by (with_reducible repeat (first | refine blk_drewN ?_ _ | refine blk_drew ?_ | refine blk_alloc ?_ _)); refine blk_put (cs := #[.int .i64 a0_0, .int .i64 a0_1, .int .i64 0, .int .i64 0, .int .i64 0]) ?_ 4 _ rfl; (with_reducible repeat (first | refine blk_drewN ?_ _ | refine blk_drew ?_ | refine blk_alloc ?_ _)); refine blk_put (cs := #[.int .i64 a0_0, .int .i64 a0_1, .int .i64 0, .int .i64 0, .int .i64 0]) ?_ 3 _ rfl; (with_reducible repeat (first | refine blk_drewN ?_ _ | refine blk_drew ?_ | refine blk_alloc ?_ _)); refine blk_put (cs := #[.int .i64 a0_0, .int .i64 a0_1, .int .i64 0, .int .i64 0, .int .i64 0]) ?_ 2 _ rfl; (with_reducible repeat (first | refine blk_drewN ?_ _ | refine blk_drew ?_ | refine blk_alloc ?_ _)); refine blk_put (cs := #[.int .i64 a0_0, .int .i64 0, .int .i64 0, .int .i64 0, .int .i64 0]) ?_ 1 _ rfl; (with_reducible repeat (first | refine blk_drewN ?_ _ | refine blk_drew ?_ | refine blk_alloc ?_ _)); refine blk_put (cs := #[.int .i64 0, .int .i64 0, .int .i64 0, .int .i64 0, .int .i64 0]) ?_ 0 _ rfl; (with_reducible repeat (first | refine blk_drewN ?_ _ | refine blk_drew ?_ | refine blk_alloc ?_ _)); refine blk_far ?_ NB486_487.out _; (with_reducible repeat (first | refine blk_drewN ?_ _ | refine blk_drew ?_ | refine blk_alloc ?_ _)); refine blk_far ?_ NB486_487.out _; (with_reducible repeat (first | refine blk_drewN ?_ _ | refine blk_drew ?_ | refine blk_alloc ?_ _)); exact BK486.out) Try.underlying46 rfl (by kernel_rfl)) rfl ?_
  exact ⟨retT_, att17_0_1⟩
 ·rw [if_neg c2] at H
  have c2b0 := beq_eq_false_iff_ne.mpr c2
  have c2b1 := bne_iff_ne.mpr c2
  have HC18 := Aside0.mk H
  clear H
  go_enter Try.func119, Try.ntmps119
  go_upto_if 17 with (first | ((with_reducible refine gate_dst (N := 1) rfl ?_); refine box_event ?hg (N := 1) ?hd (cs := #[.int .i64 a0_0, .int .i64 a0_1, .int .i64 a0_2, .int .i64 a0_3, .int .i64 a0_4]) (t := 46) ?hr ?_; (case hd => rfl); (case hg => rfl); (case hr => first | (go_simp; done) | (go_simp; rfl)); intro gb485 hg w19 hbox hb; refine swap4_ (below_step atgB_ hb) (hbox) ((by rw [hg]; exact (below_size atgB_) : w.heap.size ≤ gb485)) ((by rw [hg]; exact (below_size atgB_) : w.heap.size ≤ gb485)) ?_; clear HB; intro HB BK485 GW485 GE485; clear hb hbox hg) | ((with_reducible refine gate_dst (N := 2) rfl ?_); refine box_event ?hg (N := 2) ?hd (cs := #[.int .i64 0, .int .i64 0, .int .i64 0, .int .i64 0, .int .i64 0]) (t := 46) ?hr ?_; (case hd => rfl); (case hg => rfl); (case hr => first | (go_simp; done) | (go_simp; rfl)); intro gb486 hg w20 hbox hb; refine swap7_ (blk_below (g := gb485) (o := .cells #[.int .i64 a0_0, .int .i64 a0_1, .int .i64 a0_2, .int .i64 a0_3, .int .i64 a0_4] 46 (0, 0)) att17_0_4 hb) (below_step att17_0_7 hb) (hbox) ((by rw [hg]; exact (below_size att17_0_7) : w.heap.size ≤ gb486)) ((by rw [hg]; exact (below_size att17_0_7) : w.heap.size ≤ gb486)) ((by rw [hg]; exact Nat.ne_of_lt (blk_lt (g := gb485) (o := .cells #[.int .i64 a0_0, .int .i64 a0_1, .int .i64 a0_2, .int .i64 a0_3, .int .i64 a0_4] 46 (0, 0)) att17_0_4) : gb485 ≠ gb486)) ((by rw [hg]; exact Nat.ne_of_gt (blk_lt (g := gb485) (o := .cells #[.int .i64 a0_0, .int .i64 a0_1, .int .i64 a0_2, .int .i64 a0_3, .int .i64 a0_4] 46 (0, 0)) att17_0_4) : gb486 ≠ gb485)) ?_; clear BK485 HB; intro BK485 HB BK486 GW486 GE486 NB485_486 NB486_485; clear hb hbox hg; have hnb21 := NB485_486.out; have hnc21 := NB486_485.out; obtain ⟨hcz22_0, hcz22_1, hcz22_2, hcz22_3, hcz22_4, hfz22_0, hfz22_1, hfz22_2, hfz22_3, hfz22_4⟩ := blkB5_ BK485) | ((with_reducible refine gate_dst (N := 3) rfl ?_); refine box_event ?hg (N := 3) ?hd (cs := #[.int .i64 0, .int .i64 0, .int .i64 0, .int .i64 0, .int .i64 0]) (t := 46) ?hr ?_; (case hd => rfl); (case hg => rfl); (case hr => first | (go_simp; done) | (go_simp; rfl)); intro gb487 hg w23 hbox hb; refine swap10_ (blk_below (g := gb485) (o := .cells #[.int .i64 a0_0, .int .i64 a0_1, .int .i64 a0_2, .int .i64 a0_3, .int .i64 a0_4] 46 (0, 0)) att17_0_4 hb) (blk_below (g := gb486) (o := .cells #[.int .i64 0, .int .i64 0, .int .i64 0, .int .i64 0, .int .i64 0] 46 (0, 0)) att17_0_8 hb) (below_step att17_0_5 hb) (hbox) ((by rw [hg]; exact (below_size att17_0_5) : w.heap.size ≤ gb487)) ((by rw [hg]; exact (below_size att17_0_5) : w.heap.size ≤ gb487)) ((by rw [hg]; exact Nat.ne_of_lt (blk_lt (g := gb485) (o := .cells #[.int .i64 a0_0, .int .i64 a0_1, .int .i64 a0_2, .int .i64 a0_3, .int .i64 a0_4] 46 (0, 0)) att17_0_4) : gb485 ≠ gb487)) ((by rw [hg]; exact Nat.ne_of_gt (blk_lt (g := gb485) (o := .cells #[.int .i64 a0_0, .int .i64 a0_1, .int .i64 a0_2, .int .i64 a0_3, .int .i64 a0_4] 46 (0, 0)) att17_0_4) : gb487 ≠ gb485)) ((by rw [hg]; exact Nat.ne_of_lt (blk_lt (g := gb486) (o := .cells #[.int .i64 0, .int .i64 0, .int .i64 0, .int .i64 0, .int .i64 0] 46 (0, 0)) att17_0_8) : gb486 ≠ gb487)) ((by rw [hg]; exact Nat.ne_of_gt (blk_lt (g := gb486) (o := .cells #[.int .i64 0, .int .i64 0, .int .i64 0, .int .i64 0, .int .i64 0] 46 (0, 0)) att17_0_8) : gb487 ≠ gb486)) ?_; clear BK485 BK486 HB; intro BK485 BK486 HB BK487 GW487 GE487 NB485_487 NB487_485 NB486_487 NB487_486; clear hb hbox hg; have hnb24 := NB487_485.out; have hnc24 := NB485_487.out; have hnb25 := NB487_486.out; have hnc25 := NB486_487.out; obtain ⟨hcz26_0, hcz26_1, hcz26_2, hcz26_3, hcz26_4, hfz26_0, hfz26_1, hfz26_2, hfz26_3, hfz26_4⟩ := blkB5_ BK487; obtain ⟨hcz27_0, hcz27_1, hcz27_2, hcz27_3, hcz27_4, hfz27_0, hfz27_1, hfz27_2, hfz27_3, hfz27_4⟩ := blkB5_ BK485))
  (try simp only [Act.put, List.setIfInBounds_toArray, List.set_cons_zero, List.set_cons_succ])
  go_cut [17] (fun v17 wc => ∃ (kq : Nat) (x17_17 : Bool), v17 = .bool x17_17 ∧ Aside0 (impl_stepNamed.j0 kq a0_0 x17_17 a0_0 a0_1 a0_2 a0_3 a0_4 a0_0 0 0 0 0 = some (r1, r2, r3, r4, r5)) ∧ Aside0 (kq ≤ k) ∧ Aside0 (wc.heap[gb485]? = some (.cells #[.int .i64 a0_0, .int .i64 a0_1, .int .i64 a0_2, .int .i64 a0_3, .int .i64 a0_4] 46 (0, 0))) ∧ Aside0 (wc.heap[gb486]? = some (.cells #[.int .i64 0, .int .i64 0, .int .i64 0, .int .i64 0, .int .i64 0] 46 (0, 0))) ∧ Aside0 (wc.heap[gb487]? = some (.cells #[.int .i64 a0_0, .int .i64 0, .int .i64 0, .int .i64 0, .int .i64 0] 46 (0, 0))) ∧ Aside0 (Below w.heap.size w wc))
  case first =>
   have H := HC18.out
   clear HC18
   by_cases c28 : a0_0 = 2
   ·rw [if_pos c28] at H
    have c28b0 := beq_iff_eq.mpr c28
    have c28b1 := bne_eq_false_iff_eq.mpr c28
    clear c28
    (first | rw [c28b0] | (simp only [i64_w, i32_w]; rw [c28b0]) | skip)
    have H' := Aside0.mk H
    clear H
    go_wp2
    go_meet
    case rel => exact ⟨_, ((a0_0 == 2)), atgR_, H', ⟨by first | omega | exact Nat.le_refl _⟩, ⟨att17_0_3⟩, ⟨att17_0_2⟩, ⟨att17_0_0⟩, ⟨att17_0_1⟩⟩
   ·rw [if_neg c28] at H
    have c28b0 := beq_eq_false_iff_ne.mpr c28
    have c28b1 := bne_iff_ne.mpr c28
    (first | rw [c28b0] | (simp only [i64_w, i32_w]; rw [c28b0]) | skip)
    by_cases c29 : a0_0 = 3
    ·rw [if_pos c29] at H
     have c29b0 := beq_iff_eq.mpr c29
     have c29b1 := bne_eq_false_iff_eq.mpr c29
     clear c29
     have H' := Aside0.mk H
     clear H
     go_wp2
     go_meet
     case rel => exact ⟨_, ((a0_0 == 3)), atgR_, H', ⟨by first | omega | exact Nat.le_refl _⟩, ⟨att17_0_3⟩, ⟨att17_0_2⟩, ⟨att17_0_0⟩, ⟨att17_0_1⟩⟩
    ·rw [if_neg c29] at H
     have c29b0 := beq_eq_false_iff_ne.mpr c29
     have c29b1 := bne_iff_ne.mpr c29
     have H' := Aside0.mk H
     clear H
     go_wp2
     go_meet
     case rel => exact ⟨_, ((a0_0 == 4)), atgR_, H', ⟨by first | omega | exact Nat.le_refl _⟩, ⟨att17_0_3⟩, ⟨att17_0_2⟩, ⟨att17_0_0⟩, ⟨att17_0_1⟩⟩
  case rest =>
   clear HC18
   try clear c1
   try clear c2
   try clear c2b0
   try clear c2b1
   try clear p2
   try clear c5
   try clear c8
   try clear c9
   try clear c11
   try clear c21
   try clear c24
   try clear c25
   try clear c28
   try clear c28b0
   try clear c28b1
   try clear c29
   try clear c29b0
   try clear c29b1
   try clear hcz10_0 hcz10_1 hcz10_2 hcz10_3 hcz10_4
   try clear hcz11_0 hcz11_1 hcz11_2 hcz11_3 hcz11_4
   try clear hcz16_0 hcz16_1 hcz16_2 hcz16_3 hcz16_4
   try clear hcz17_0 hcz17_1 hcz17_2 hcz17_3 hcz17_4
   try clear hcz22_0 hcz22_1 hcz22_2 hcz22_3 hcz22_4
   try clear hcz26_0 hcz26_1 hcz26_2 hcz26_3 hcz26_4
   try clear hcz27_0 hcz27_1 hcz27_2 hcz27_3 hcz27_4
   try clear hcz6_0 hcz6_1 hcz6_2 hcz6_3 hcz6_4
   try clear hfz10_0 hfz10_1 hfz10_2 hfz10_3 hfz10_4
   try clear hfz11_0 hfz11_1 hfz11_2 hfz11_3 hfz11_4
   try clear hfz16_0 hfz16_1 hfz16_2 hfz16_3 hfz16_4
   try clear hfz17_0 hfz17_1 hfz17_2 hfz17_3 hfz17_4
   try clear hfz22_0 hfz22_1 hfz22_2 hfz22_3 hfz22_4
   try clear hfz26_0 hfz26_1 hfz26_2 hfz26_3 hfz26_4
   try clear hfz27_0 hfz27_1 hfz27_2 hfz27_3 hfz27_4
   try clear hfz6_0 hfz6_1 hfz6_2 hfz6_3 hfz6_4
   obtain ⟨kq, x17_17, rfl, HA, HJ17, BK485, BK486, BK487, HB⟩ := hcut
   cases kq with
   | zero => exact absurd HA.out (by simp [impl_stepNamed.j0])
   | succ kj17 =>
    have H := HA.out
    clear HA
    simp only [impl_stepNamed.j0] at H
    by_cases c30 : x17_17 = true
    ·subst c30
     rw [if_pos rfl] at H
     simp only [Option.some.injEq, Prod.mk.injEq] at H
     obtain ⟨rfl, rfl, rfl, rfl, rfl⟩ := H
     try go_wp2
     refine swap4_ (blk_drew BK485.out) (blk_drew BK486.out) (blk_drew BK487.out) (below_drew1 HB.out) ?_
     clear BK485 BK486 BK487 HB
     intro BK485 BK486 BK487 HB
     refine start_ (n := 12) (S := fun w' => w'.cell? ⟨gb485, 0, none⟩ = some (.int .i64 a0_0) ∧ w'.cell? ⟨gb485, 1, none⟩ = some (.int .i64 a0_1) ∧ w'.cell? ⟨gb485, 2, none⟩ = some (.int .i64 a0_2) ∧ w'.cell? ⟨gb485, 3, none⟩ = some (.int .i64 a0_3) ∧ w'.cell? ⟨gb485, 4, none⟩ = some (.int .i64 a0_4)) (ds := []) (tf_ 0 12) (by kernel_rfl) rfl rfl ⟨(blk_cell BK485.out 0).trans rfl, (blk_cell BK485.out 1).trans rfl, (blk_cell BK485.out 2).trans rfl, (blk_cell BK485.out 3).trans rfl, (blk_cell BK485.out 4).trans rfl⟩ (fun hHeld => ?_); refine with_tabW impl_stepNamed.tab8 impl_stepNamed.bits8 (fun HT_ HW_ => ?_)
     generalize wc.drew = w31 at BK485 BK486 BK487 HB hHeld ⊢
     refine pureQ_ (i := 0) (N := some 21) (tf_ 1 11) (h := ?_)
     refine pureQ_ (i := 2) (N := some 23) #[true, false, true, false, false, false, false, false, false, false, false, false] (h := ?_)
     refine pureQ_ (i := 4) (N := some 25) #[true, false, true, false, true, false, false, false, false, false, false, false] (h := ?_)
     refine takeQ_ (i := 1) (N := some 22) #[true, true, true, false, true, false, false, false, false, false, false, false] hHeld (hy := Or.inl ⟨by rfl, att17_0_6⟩) (h := ?_)
     refine pureQ_ (i := 6) (N := some 27) #[true, true, true, false, true, false, true, false, false, false, false, false] (h := ?_)
     refine takeQ_ (i := 3) (N := some 24) #[true, true, true, true, true, false, true, false, false, false, false, false] hHeld (hy := Or.inl ⟨by rfl, att17_0_6⟩) (h := ?_)
     refine takeQ_ (i := 5) (N := some 26) (tf_ 7 5) hHeld (hy := Or.inl ⟨by rfl, att17_0_6⟩) (h := ?_)
     refine one_ (i := 7) (N := none) (tf_ 8 4) rfl rfl (one_of HT_.out (by kernel_rfl)) (by decide) (fun K hK => ?_)
     have hs32 : w31.cell? ⟨gb487, 1, none⟩ = some (.int .i64 0) := (blk_cell BK487.out 1).trans rfl
     have hfs32 := blk_frozen BK487.out 1
     have hns32_0 := NB485_487.out
     have hns32_1 := NB486_487.out
     have hms32_0 := NB487_485.out
     have hms32_1 := NB487_486.out
     refine skip_ (w1 := ?_) (by rfl) rfl ?_ ?_
     rotate_left
     ·go_simp
      rfl
     refine hK.out _ _ ⟨((cell_far (p := ⟨gb487, _, none⟩) NB485_487.out _).trans (hHeld.1)), ((cell_far (p := ⟨gb487, _, none⟩) NB485_487.out _).trans (hHeld.2.1)), ((cell_far (p := ⟨gb487, _, none⟩) NB485_487.out _).trans (hHeld.2.2.1)), ((cell_far (p := ⟨gb487, _, none⟩) NB485_487.out _).trans (hHeld.2.2.2.1)), ((cell_far (p := ⟨gb487, _, none⟩) NB485_487.out _).trans (hHeld.2.2.2.2))⟩ (fun hHeld => ?_)
     clear hK K
     refine pureQ_ (i := 8) (N := some 28) (tf_ 9 3) (h := ?_)
     refine one_ (i := 9) (N := none) (tf_ 10 2) rfl rfl (one_of HT_.out (by kernel_rfl)) (by decide) (fun K hK => ?_)
     have hs33 : w31.cell? ⟨gb487, 2, none⟩ = some (.int .i64 0) := (blk_cell BK487.out 2).trans rfl
     have hfs33 := blk_frozen BK487.out 2
     have hns33_0 := NB485_487.out
     have hns33_1 := NB486_487.out
     have hms33_0 := NB487_485.out
     have hms33_1 := NB487_486.out
     refine skip_ (w1 := ?_) (by rfl) rfl ?_ ?_
     rotate_left
     ·go_simp
      rfl
     refine hK.out _ _ ⟨((cell_far (p := ⟨gb487, _, none⟩) NB485_487.out _).trans (hHeld.1)), ((cell_far (p := ⟨gb487, _, none⟩) NB485_487.out _).trans (hHeld.2.1)), ((cell_far (p := ⟨gb487, _, none⟩) NB485_487.out _).trans (hHeld.2.2.1)), ((cell_far (p := ⟨gb487, _, none⟩) NB485_487.out _).trans (hHeld.2.2.2.1)), ((cell_far (p := ⟨gb487, _, none⟩) NB485_487.out _).trans (hHeld.2.2.2.2))⟩ (fun hHeld => ?_)
     clear hK K
     refine pureQ_ (i := 10) (N := some 29) (tf_ 11 1) (h := ?_)
     refine one_ (i := 11) (N := none) (tf_ 12 0) rfl rfl (one_of HT_.out (by kernel_rfl)) (by decide) (fun K hK => ?_)
     have hs34 : w31.cell? ⟨gb487, 3, none⟩ = some (.int .i64 0) := (blk_cell BK487.out 3).trans rfl
     have hfs34 := blk_frozen BK487.out 3
     have hns34_0 := NB485_487.out
     have hns34_1 := NB486_487.out
     have hms34_0 := NB487_485.out
     have hms34_1 := NB487_486.out
     refine skip_ (w1 := ?_) (by rfl) rfl ?_ ?_
     rotate_left
     ·go_simp
      rfl
     refine hK.out _ _ ⟨((cell_far (p := ⟨gb487, _, none⟩) NB485_487.out _).trans (hHeld.1)), ((cell_far (p := ⟨gb487, _, none⟩) NB485_487.out _).trans (hHeld.2.1)), ((cell_far (p := ⟨gb487, _, none⟩) NB485_487.out _).trans (hHeld.2.2.1)), ((cell_far (p := ⟨gb487, _, none⟩) NB485_487.out _).trans (hHeld.2.2.2.1)), ((cell_far (p := ⟨gb487, _, none⟩) NB485_487.out _).trans (hHeld.2.2.2.2))⟩ (fun hHeld => ?_)
     clear hK K
     refine done_ (done_of HT_.out (by kernel_rfl)) ?_
     have hnb35 := NB487_485.out
     have hnc35 := NB485_487.out
     have hnb36 := NB487_486.out
     have hnc36 := NB486_487.out
     obtain ⟨hcz37_0, hcz37_1, hcz37_2, hcz37_3, hcz37_4, hfz37_0, hfz37_1, hfz37_2, hfz37_3, hfz37_4⟩ := blkB5_ BK487
     have hnb38 := NB486_485.out
     have hnc38 := NB485_486.out
     obtain ⟨hcz39_0, hcz39_1, hcz39_2, hcz39_3, hcz39_4, hfz39_0, hfz39_1, hfz39_2, hfz39_3, hfz39_4⟩ := blkB5_ BK486
     try go_wp2
     refine bodyPost_ret (results_cell_row rfl _ _ gb486 46 #[.int .i64 a0_0, .int .i64 a0_1, .int .i64 a0_2, .int .i64 a0_3, .int .i64 0] (0, 0) _ rfl (by (with_reducible repeat (first | refine blk_drewN ?_ _ | refine blk_drew ?_ | refine blk_alloc ?_ _)); refine blk_put (cs := #[.int .i64 a0_0, .int .i64 a0_1, .int .i64 a0_2, .int .i64 a0_3, .int .i64 0]) ?_ 4 _ rfl; (with_reducible repeat (first | refine blk_drewN ?_ _ | refine blk_drew ?_ | refine blk_alloc ?_ _)); refine blk_put (cs := #[.int .i64 a0_0, .int .i64 a0_1, .int .i64 a0_2, .int .i64 0, .int .i64 0]) ?_ 3 _ rfl; (with_reducible repeat (first | refine blk_drewN ?_ _ | refine blk_drew ?_ | refine blk_alloc ?_ _)); refine blk_put (cs := #[.int .i64 a0_0, .int .i64 a0_1, .int .i64 0, .int .i64 0, .int .i64 0]) ?_ 2 _ rfl; (with_reducible repeat (first | refine blk_drewN ?_ _ | refine blk_drew ?_ | refine blk_alloc ?_ _)); refine blk_put (cs := #[.int .i64 a0_0, .int .i64 0, .int .i64 0, .int .i64 0, .int .i64 0]) ?_ 1 _ rfl; (with_reducible repeat (first | refine blk_drewN ?_ _ | refine blk_drew ?_ | refine blk_alloc ?_ _)); refine blk_put (cs := #[.int .i64 0, .int .i64 0, .int .i64 0, .int .i64 0, .int .i64 0]) ?_ 0 _ rfl; (with_reducible repeat (first | refine blk_drewN ?_ _ | refine blk_drew ?_ | refine blk_alloc ?_ _)); refine blk_far ?_ NB486_487.out _; (with_reducible repeat (first | refine blk_drewN ?_ _ | refine blk_drew ?_ | refine blk_alloc ?_ _)); refine blk_far ?_ NB486_487.out _; (with_reducible repeat (first | refine blk_drewN ?_ _ | refine blk_drew ?_ | refine blk_alloc ?_ _)); refine blk_far ?_ NB486_487.out _; (with_reducible repeat (first | refine blk_drewN ?_ _ | refine blk_drew ?_ | refine blk_alloc ?_ _)); exact BK486.out) Try.underlying46 rfl (by kernel_rfl)) rfl ?_
     exact ⟨retT_, att17_0_1⟩
    ·replace c30 := Bool.eq_false_iff.mpr c30
     subst c30
     rw [if_neg (show ¬ (false = true) by decide)] at H
     by_cases c40 : a0_0 = 5
     ·rw [if_pos c40] at H
      have c40b0 := beq_iff_eq.mpr c40
      have c40b1 := bne_eq_false_iff_eq.mpr c40
      clear c40
      simp only [Option.some.injEq, Prod.mk.injEq] at H
      obtain ⟨rfl, rfl, rfl, rfl, rfl⟩ := H
      try go_wp2
      refine swap4_ (blk_drew BK485.out) (blk_drew BK486.out) (blk_drew BK487.out) (below_drew1 HB.out) ?_
      clear BK485 BK486 BK487 HB
      intro BK485 BK486 BK487 HB
      refine start_ (n := 12) (S := fun w' => w'.cell? ⟨gb485, 0, none⟩ = some (.int .i64 a0_0) ∧ w'.cell? ⟨gb485, 1, none⟩ = some (.int .i64 a0_1) ∧ w'.cell? ⟨gb485, 2, none⟩ = some (.int .i64 a0_2) ∧ w'.cell? ⟨gb485, 3, none⟩ = some (.int .i64 a0_3) ∧ w'.cell? ⟨gb485, 4, none⟩ = some (.int .i64 a0_4)) (ds := []) (tf_ 0 12) (by kernel_rfl) rfl rfl ⟨(blk_cell BK485.out 0).trans rfl, (blk_cell BK485.out 1).trans rfl, (blk_cell BK485.out 2).trans rfl, (blk_cell BK485.out 3).trans rfl, (blk_cell BK485.out 4).trans rfl⟩ (fun hHeld => ?_); refine with_tabW impl_stepNamed.tab10 impl_stepNamed.bits10 (fun HT_ HW_ => ?_)
      generalize wc.drew = w41 at BK485 BK486 BK487 HB hHeld ⊢
      refine pureQ_ (i := 0) (N := some 32) (tf_ 1 11) (h := ?_)
      refine pureQ_ (i := 2) (N := some 34) #[true, false, true, false, false, false, false, false, false, false, false, false] (h := ?_)
      refine pureQ_ (i := 4) (N := some 36) #[true, false, true, false, true, false, false, false, false, false, false, false] (h := ?_)
      refine takeQ_ (i := 1) (N := some 33) #[true, true, true, false, true, false, false, false, false, false, false, false] hHeld (hy := Or.inl ⟨by rfl, att17_0_6⟩) (h := ?_)
      refine pureQ_ (i := 6) (N := some 38) #[true, true, true, false, true, false, true, false, false, false, false, false] (h := ?_)
      refine takeQ_ (i := 3) (N := some 35) #[true, true, true, true, true, false, true, false, false, false, false, false] hHeld (hy := Or.inl ⟨by rfl, att17_0_6⟩) (h := ?_)
      refine takeQ_ (i := 5) (N := some 37) (tf_ 7 5) hHeld (hy := Or.inl ⟨by rfl, att17_0_6⟩) (h := ?_)
      refine one_ (i := 7) (N := none) (tf_ 8 4) rfl rfl (one_of HT_.out (by kernel_rfl)) (by decide) (fun K hK => ?_)
      have hs42 : w41.cell? ⟨gb487, 1, none⟩ = some (.int .i64 0) := (blk_cell BK487.out 1).trans rfl
      have hfs42 := blk_frozen BK487.out 1
      have hns42_0 := NB485_487.out
      have hns42_1 := NB486_487.out
      have hms42_0 := NB487_485.out
      have hms42_1 := NB487_486.out
      refine skip_ (w1 := ?_) (by rfl) rfl ?_ ?_
      rotate_left
      ·go_simp
       rfl
      refine hK.out _ _ ⟨((cell_far (p := ⟨gb487, _, none⟩) NB485_487.out _).trans (hHeld.1)), ((cell_far (p := ⟨gb487, _, none⟩) NB485_487.out _).trans (hHeld.2.1)), ((cell_far (p := ⟨gb487, _, none⟩) NB485_487.out _).trans (hHeld.2.2.1)), ((cell_far (p := ⟨gb487, _, none⟩) NB485_487.out _).trans (hHeld.2.2.2.1)), ((cell_far (p := ⟨gb487, _, none⟩) NB485_487.out _).trans (hHeld.2.2.2.2))⟩ (fun hHeld => ?_)
      clear hK K
      refine pureQ_ (i := 8) (N := some 39) (tf_ 9 3) (h := ?_)
      refine one_ (i := 9) (N := none) (tf_ 10 2) rfl rfl (one_of HT_.out (by kernel_rfl)) (by decide) (fun K hK => ?_)
      have hs43 : w41.cell? ⟨gb487, 2, none⟩ = some (.int .i64 0) := (blk_cell BK487.out 2).trans rfl
      have hfs43 := blk_frozen BK487.out 2
      have hns43_0 := NB485_487.out
      have hns43_1 := NB486_487.out
      have hms43_0 := NB487_485.out
      have hms43_1 := NB487_486.out
      refine skip_ (w1 := ?_) (by rfl) rfl ?_ ?_
      rotate_left
      ·go_simp
       rfl
      refine hK.out _ _ ⟨((cell_far (p := ⟨gb487, _, none⟩) NB485_487.out _).trans (hHeld.1)), ((cell_far (p := ⟨gb487, _, none⟩) NB485_487.out _).trans (hHeld.2.1)), ((cell_far (p := ⟨gb487, _, none⟩) NB485_487.out _).trans (hHeld.2.2.1)), ((cell_far (p := ⟨gb487, _, none⟩) NB485_487.out _).trans (hHeld.2.2.2.1)), ((cell_far (p := ⟨gb487, _, none⟩) NB485_487.out _).trans (hHeld.2.2.2.2))⟩ (fun hHeld => ?_)
      clear hK K
      refine pureQ_ (i := 10) (N := some 40) (tf_ 11 1) (h := ?_)
      refine one_ (i := 11) (N := none) (tf_ 12 0) rfl rfl (one_of HT_.out (by kernel_rfl)) (by decide) (fun K hK => ?_)
      have hs44 : w41.cell? ⟨gb487, 4, none⟩ = some (.int .i64 0) := (blk_cell BK487.out 4).trans rfl
      have hfs44 := blk_frozen BK487.out 4
      have hns44_0 := NB485_487.out
      have hns44_1 := NB486_487.out
      have hms44_0 := NB487_485.out
      have hms44_1 := NB487_486.out
      refine skip_ (w1 := ?_) (by rfl) rfl ?_ ?_
      rotate_left
      ·go_simp
       rfl
      refine hK.out _ _ ⟨((cell_far (p := ⟨gb487, _, none⟩) NB485_487.out _).trans (hHeld.1)), ((cell_far (p := ⟨gb487, _, none⟩) NB485_487.out _).trans (hHeld.2.1)), ((cell_far (p := ⟨gb487, _, none⟩) NB485_487.out _).trans (hHeld.2.2.1)), ((cell_far (p := ⟨gb487, _, none⟩) NB485_487.out _).trans (hHeld.2.2.2.1)), ((cell_far (p := ⟨gb487, _, none⟩) NB485_487.out _).trans (hHeld.2.2.2.2))⟩ (fun hHeld => ?_)
      clear hK K
      refine done_ (done_of HT_.out (by kernel_rfl)) ?_
      have hnb45 := NB487_485.out
      have hnc45 := NB485_487.out
      have hnb46 := NB487_486.out
      have hnc46 := NB486_487.out
      obtain ⟨hcz47_0, hcz47_1, hcz47_2, hcz47_3, hcz47_4, hfz47_0, hfz47_1, hfz47_2, hfz47_3, hfz47_4⟩ := blkB5_ BK487
      have hnb48 := NB486_485.out
      have hnc48 := NB485_486.out
      obtain ⟨hcz49_0, hcz49_1, hcz49_2, hcz49_3, hcz49_4, hfz49_0, hfz49_1, hfz49_2, hfz49_3, hfz49_4⟩ := blkB5_ BK486
      try go_wp2
      refine bodyPost_ret (results_cell_row rfl _ _ gb486 46 #[.int .i64 a0_0, .int .i64 a0_1, .int .i64 a0_2, .int .i64 0, .int .i64 a0_4] (0, 0) _ rfl (by (with_reducible repeat (first | refine blk_drewN ?_ _ | refine blk_drew ?_ | refine blk_alloc ?_ _)); refine blk_put (cs := #[.int .i64 a0_0, .int .i64 a0_1, .int .i64 a0_2, .int .i64 0, .int .i64 0]) ?_ 4 _ rfl; (with_reducible repeat (first | refine blk_drewN ?_ _ | refine blk_drew ?_ | refine blk_alloc ?_ _)); refine blk_put (cs := #[.int .i64 a0_0, .int .i64 a0_1, .int .i64 a0_2, .int .i64 0, .int .i64 0]) ?_ 3 _ rfl; (with_reducible repeat (first | refine blk_drewN ?_ _ | refine blk_drew ?_ | refine blk_alloc ?_ _)); refine blk_put (cs := #[.int .i64 a0_0, .int .i64 a0_1, .int .i64 0, .int .i64 0, .int .i64 0]) ?_ 2 _ rfl; (with_reducible repeat (first | refine blk_drewN ?_ _ | refine blk_drew ?_ | refine blk_alloc ?_ _)); refine blk_put (cs := #[.int .i64 a0_0, .int .i64 0, .int .i64 0, .int .i64 0, .int .i64 0]) ?_ 1 _ rfl; (with_reducible repeat (first | refine blk_drewN ?_ _ | refine blk_drew ?_ | refine blk_alloc ?_ _)); refine blk_put (cs := #[.int .i64 0, .int .i64 0, .int .i64 0, .int .i64 0, .int .i64 0]) ?_ 0 _ rfl; (with_reducible repeat (first | refine blk_drewN ?_ _ | refine blk_drew ?_ | refine blk_alloc ?_ _)); refine blk_far ?_ NB486_487.out _; (with_reducible repeat (first | refine blk_drewN ?_ _ | refine blk_drew ?_ | refine blk_alloc ?_ _)); refine blk_far ?_ NB486_487.out _; (with_reducible repeat (first | refine blk_drewN ?_ _ | refine blk_drew ?_ | refine blk_alloc ?_ _)); refine blk_far ?_ NB486_487.out _; (with_reducible repeat (first | refine blk_drewN ?_ _ | refine blk_drew ?_ | refine blk_alloc ?_ _)); exact BK486.out) Try.underlying46 rfl (by kernel_rfl)) rfl ?_
      exact ⟨retT_, att17_0_1⟩
     ·rw [if_neg c40] at H
      have c40b0 := beq_eq_false_iff_ne.mpr c40
      have c40b1 := bne_iff_ne.mpr c40
      have HC50 := Aside0.mk H
      clear H
      go_upto_if 41 with (fail)
      go_cut [41] (fun v41 wc => ∃ (kq : Nat) (x41_49 : Bool), v41 = .bool x41_49 ∧ Aside0 (impl_stepNamed.j1 kq a0_0 x41_49 a0_0 a0_1 a0_2 a0_3 a0_4 a0_0 0 0 0 0 = some (r1, r2, r3, r4, r5)) ∧ Aside0 (kq ≤ kj17) ∧ Aside0 (wc.heap[gb485]? = some (.cells #[.int .i64 a0_0, .int .i64 a0_1, .int .i64 a0_2, .int .i64 a0_3, .int .i64 a0_4] 46 (0, 0))) ∧ Aside0 (wc.heap[gb486]? = some (.cells #[.int .i64 0, .int .i64 0, .int .i64 0, .int .i64 0, .int .i64 0] 46 (0, 0))) ∧ Aside0 (wc.heap[gb487]? = some (.cells #[.int .i64 a0_0, .int .i64 0, .int .i64 0, .int .i64 0, .int .i64 0] 46 (0, 0))) ∧ Aside0 (Below w.heap.size w wc))
      case first =>
       have H := HC50.out
       clear HC50
       by_cases c51 : a0_0 = 6
       ·rw [if_pos c51] at H
        have c51b0 := beq_iff_eq.mpr c51
        have c51b1 := bne_eq_false_iff_eq.mpr c51
        clear c51
        (first | rw [c51b0] | (simp only [i64_w, i32_w]; rw [c51b0]) | skip)
        have H' := Aside0.mk H
        clear H
        go_wp2
        go_meet
        case rel => exact ⟨_, ((a0_0 == 6)), atgR_, H', ⟨by have := HJ17.out; first | omega | exact Nat.le_refl _⟩, ⟨att17_0_4⟩, ⟨att17_0_8⟩, ⟨att17_0_11⟩, ⟨att17_0_1⟩⟩
       ·rw [if_neg c51] at H
        have c51b0 := beq_eq_false_iff_ne.mpr c51
        have c51b1 := bne_iff_ne.mpr c51
        (first | rw [c51b0] | (simp only [i64_w, i32_w]; rw [c51b0]) | skip)
        have H' := Aside0.mk H
        clear H
        go_wp2
        go_meet
        case rel => exact ⟨_, ((a0_0 == 7)), atgR_, H', ⟨by have := HJ17.out; first | omega | exact Nat.le_refl _⟩, ⟨att17_0_4⟩, ⟨att17_0_8⟩, ⟨att17_0_11⟩, ⟨att17_0_1⟩⟩
      case rest =>
       clear HC50
       try clear c1
       try clear c2
       try clear c2b0
       try clear c2b1
       try clear p2
       try clear c3
       try clear c4
       try clear c5
       try clear c8
       try clear c9
       try clear c11
       try clear c21
       try clear c24
       try clear c25
       try clear c28
       try clear c28b0
       try clear c28b1
       try clear c29
       try clear c29b0
       try clear c29b1
       try clear c30
       try clear c35
       try clear c36
       try clear c38
       try clear c40
       try clear c40b0
       try clear c40b1
       try clear c45
       try clear c46
       try clear c48
       try clear c51
       try clear c51b0
       try clear c51b1
       try clear hcz10_0 hcz10_1 hcz10_2 hcz10_3 hcz10_4
       try clear hcz11_0 hcz11_1 hcz11_2 hcz11_3 hcz11_4
       try clear hcz16_0 hcz16_1 hcz16_2 hcz16_3 hcz16_4
       try clear hcz17_0 hcz17_1 hcz17_2 hcz17_3 hcz17_4
       try clear hcz22_0 hcz22_1 hcz22_2 hcz22_3 hcz22_4
       try clear hcz26_0 hcz26_1 hcz26_2 hcz26_3 hcz26_4
       try clear hcz27_0 hcz27_1 hcz27_2 hcz27_3 hcz27_4
       try clear hcz37_0 hcz37_1 hcz37_2 hcz37_3 hcz37_4
       try clear hcz39_0 hcz39_1 hcz39_2 hcz39_3 hcz39_4
       try clear hcz47_0 hcz47_1 hcz47_2 hcz47_3 hcz47_4
       try clear hcz49_0 hcz49_1 hcz49_2 hcz49_3 hcz49_4
       try clear hcz6_0 hcz6_1 hcz6_2 hcz6_3 hcz6_4
       try clear hfz10_0 hfz10_1 hfz10_2 hfz10_3 hfz10_4
       try clear hfz11_0 hfz11_1 hfz11_2 hfz11_3 hfz11_4
       try clear hfz16_0 hfz16_1 hfz16_2 hfz16_3 hfz16_4
       try clear hfz17_0 hfz17_1 hfz17_2 hfz17_3 hfz17_4
       try clear hfz22_0 hfz22_1 hfz22_2 hfz22_3 hfz22_4
       try clear hfz26_0 hfz26_1 hfz26_2 hfz26_3 hfz26_4
       try clear hfz27_0 hfz27_1 hfz27_2 hfz27_3 hfz27_4
       try clear hfz37_0 hfz37_1 hfz37_2 hfz37_3 hfz37_4
       try clear hfz39_0 hfz39_1 hfz39_2 hfz39_3 hfz39_4
       try clear hfz47_0 hfz47_1 hfz47_2 hfz47_3 hfz47_4
       try clear hfz49_0 hfz49_1 hfz49_2 hfz49_3 hfz49_4
       try clear hfz6_0 hfz6_1 hfz6_2 hfz6_3 hfz6_4
       try clear p2
       obtain ⟨kq, x41_49, rfl, HA, HJ49, BK485, BK486, BK487, HB⟩ := hcut
       cases kq with
       | zero => exact absurd HA.out (by simp [impl_stepNamed.j1])
       | succ kj49 =>
        have H := HA.out
        clear HA
        simp only [impl_stepNamed.j1] at H
        by_cases c52 : x41_49 = true
        ·subst c52
         rw [if_pos rfl] at H
         simp only [Option.some.injEq, Prod.mk.injEq] at H
         obtain ⟨rfl, rfl, rfl, rfl, rfl⟩ := H
         try go_wp2
         refine swap4_ (blk_drew BK485.out) (blk_drew BK486.out) (blk_drew BK487.out) (below_drew1 HB.out) ?_
         clear BK485 BK486 BK487 HB
         intro BK485 BK486 BK487 HB
         refine start_ (n := 12) (S := fun w' => w'.cell? ⟨gb485, 0, none⟩ = some (.int .i64 a0_0) ∧ w'.cell? ⟨gb485, 1, none⟩ = some (.int .i64 a0_1) ∧ w'.cell? ⟨gb485, 2, none⟩ = some (.int .i64 a0_2) ∧ w'.cell? ⟨gb485, 3, none⟩ = some (.int .i64 a0_3) ∧ w'.cell? ⟨gb485, 4, none⟩ = some (.int .i64 a0_4)) (ds := []) (tf_ 0 12) (by kernel_rfl) rfl rfl ⟨(blk_cell BK485.out 0).trans rfl, (blk_cell BK485.out 1).trans rfl, (blk_cell BK485.out 2).trans rfl, (blk_cell BK485.out 3).trans rfl, (blk_cell BK485.out 4).trans rfl⟩ (fun hHeld => ?_); refine with_tabW impl_stepNamed.tab13 impl_stepNamed.bits13 (fun HT_ HW_ => ?_)
         generalize wc.drew = w53 at BK485 BK486 BK487 HB hHeld ⊢
         refine pureQ_ (i := 0) (N := some 44) (tf_ 1 11) (h := ?_)
         refine pureQ_ (i := 2) (N := some 46) #[true, false, true, false, false, false, false, false, false, false, false, false] (h := ?_)
         refine pureQ_ (i := 4) (N := some 48) #[true, false, true, false, true, false, false, false, false, false, false, false] (h := ?_)
         refine takeQ_ (i := 1) (N := some 45) #[true, true, true, false, true, false, false, false, false, false, false, false] hHeld (hy := Or.inl ⟨by rfl, att17_0_6⟩) (h := ?_)
         refine pureQ_ (i := 6) (N := some 50) #[true, true, true, false, true, false, true, false, false, false, false, false] (h := ?_)
         refine takeQ_ (i := 3) (N := some 47) #[true, true, true, true, true, false, true, false, false, false, false, false] hHeld (hy := Or.inl ⟨by rfl, att17_0_6⟩) (h := ?_)
         refine takeQ_ (i := 5) (N := some 49) (tf_ 7 5) hHeld (hy := Or.inl ⟨by rfl, att17_0_6⟩) (h := ?_)
         refine one_ (i := 7) (N := none) (tf_ 8 4) rfl rfl (one_of HT_.out (by kernel_rfl)) (by decide) (fun K hK => ?_)
         have hs54 : w53.cell? ⟨gb487, 2, none⟩ = some (.int .i64 0) := (blk_cell BK487.out 2).trans rfl
         have hfs54 := blk_frozen BK487.out 2
         have hns54_0 := NB485_487.out
         have hns54_1 := NB486_487.out
         have hms54_0 := NB487_485.out
         have hms54_1 := NB487_486.out
         refine skip_ (w1 := ?_) (by rfl) rfl ?_ ?_
         rotate_left
         ·go_simp
          rfl
         refine hK.out _ _ ⟨((cell_far (p := ⟨gb487, _, none⟩) NB485_487.out _).trans (hHeld.1)), ((cell_far (p := ⟨gb487, _, none⟩) NB485_487.out _).trans (hHeld.2.1)), ((cell_far (p := ⟨gb487, _, none⟩) NB485_487.out _).trans (hHeld.2.2.1)), ((cell_far (p := ⟨gb487, _, none⟩) NB485_487.out _).trans (hHeld.2.2.2.1)), ((cell_far (p := ⟨gb487, _, none⟩) NB485_487.out _).trans (hHeld.2.2.2.2))⟩ (fun hHeld => ?_)
         clear hK K
         refine pureQ_ (i := 8) (N := some 51) (tf_ 9 3) (h := ?_)
         refine one_ (i := 9) (N := none) (tf_ 10 2) rfl rfl (one_of HT_.out (by kernel_rfl)) (by decide) (fun K hK => ?_)
         have hs55 : w53.cell? ⟨gb487, 3, none⟩ = some (.int .i64 0) := (blk_cell BK487.out 3).trans rfl
         have hfs55 := blk_frozen BK487.out 3
         have hns55_0 := NB485_487.out
         have hns55_1 := NB486_487.out
         have hms55_0 := NB487_485.out
         have hms55_1 := NB487_486.out
         refine skip_ (w1 := ?_) (by rfl) rfl ?_ ?_
         rotate_left
         ·go_simp
          rfl
         refine hK.out _ _ ⟨((cell_far (p := ⟨gb487, _, none⟩) NB485_487.out _).trans (hHeld.1)), ((cell_far (p := ⟨gb487, _, none⟩) NB485_487.out _).trans (hHeld.2.1)), ((cell_far (p := ⟨gb487, _, none⟩) NB485_487.out _).trans (hHeld.2.2.1)), ((cell_far (p := ⟨gb487, _, none⟩) NB485_487.out _).trans (hHeld.2.2.2.1)), ((cell_far (p := ⟨gb487, _, none⟩) NB485_487.out _).trans (hHeld.2.2.2.2))⟩ (fun hHeld => ?_)
         clear hK K
         refine pureQ_ (i := 10) (N := some 52) (tf_ 11 1) (h := ?_)
         refine one_ (i := 11) (N := none) (tf_ 12 0) rfl rfl (one_of HT_.out (by kernel_rfl)) (by decide) (fun K hK => ?_)
         have hs56 : w53.cell? ⟨gb487, 4, none⟩ = some (.int .i64 0) := (blk_cell BK487.out 4).trans rfl
         have hfs56 := blk_frozen BK487.out 4
         have hns56_0 := NB485_487.out
         have hns56_1 := NB486_487.out
         have hms56_0 := NB487_485.out
         have hms56_1 := NB487_486.out
         refine skip_ (w1 := ?_) (by rfl) rfl ?_ ?_
         rotate_left
         ·go_simp
          rfl
         refine hK.out _ _ ⟨((cell_far (p := ⟨gb487, _, none⟩) NB485_487.out _).trans (hHeld.1)), ((cell_far (p := ⟨gb487, _, none⟩) NB485_487.out _).trans (hHeld.2.1)), ((cell_far (p := ⟨gb487, _, none⟩) NB485_487.out _).trans (hHeld.2.2.1)), ((cell_far (p := ⟨gb487, _, none⟩) NB485_487.out _).trans (hHeld.2.2.2.1)), ((cell_far (p := ⟨gb487, _, none⟩) NB485_487.out _).trans (hHeld.2.2.2.2))⟩ (fun hHeld => ?_)
         clear hK K
         refine done_ (done_of HT_.out (by kernel_rfl)) ?_
         have hnb57 := NB487_485.out
         have hnc57 := NB485_487.out
         have hnb58 := NB487_486.out
         have hnc58 := NB486_487.out
         obtain ⟨hcz59_0, hcz59_1, hcz59_2, hcz59_3, hcz59_4, hfz59_0, hfz59_1, hfz59_2, hfz59_3, hfz59_4⟩ := blkB5_ BK487
         have hnb60 := NB486_485.out
         have hnc60 := NB485_486.out
         obtain ⟨hcz61_0, hcz61_1, hcz61_2, hcz61_3, hcz61_4, hfz61_0, hfz61_1, hfz61_2, hfz61_3, hfz61_4⟩ := blkB5_ BK486
         try go_wp2
         refine bodyPost_ret (results_cell_row rfl _ _ gb486 46 #[.int .i64 a0_0, .int .i64 0, .int .i64 a0_2, .int .i64 a0_3, .int .i64 a0_4] (0, 0) _ rfl (by (with_reducible repeat (first | refine blk_drewN ?_ _ | refine blk_drew ?_ | refine blk_alloc ?_ _)); refine blk_put (cs := #[.int .i64 a0_0, .int .i64 0, .int .i64 a0_2, .int .i64 a0_3, .int .i64 0]) ?_ 4 _ rfl; (with_reducible repeat (first | refine blk_drewN ?_ _ | refine blk_drew ?_ | refine blk_alloc ?_ _)); refine blk_put (cs := #[.int .i64 a0_0, .int .i64 0, .int .i64 a0_2, .int .i64 0, .int .i64 0]) ?_ 3 _ rfl; (with_reducible repeat (first | refine blk_drewN ?_ _ | refine blk_drew ?_ | refine blk_alloc ?_ _)); refine blk_put (cs := #[.int .i64 a0_0, .int .i64 0, .int .i64 0, .int .i64 0, .int .i64 0]) ?_ 2 _ rfl; (with_reducible repeat (first | refine blk_drewN ?_ _ | refine blk_drew ?_ | refine blk_alloc ?_ _)); refine blk_put (cs := #[.int .i64 a0_0, .int .i64 0, .int .i64 0, .int .i64 0, .int .i64 0]) ?_ 1 _ rfl; (with_reducible repeat (first | refine blk_drewN ?_ _ | refine blk_drew ?_ | refine blk_alloc ?_ _)); refine blk_put (cs := #[.int .i64 0, .int .i64 0, .int .i64 0, .int .i64 0, .int .i64 0]) ?_ 0 _ rfl; (with_reducible repeat (first | refine blk_drewN ?_ _ | refine blk_drew ?_ | refine blk_alloc ?_ _)); refine blk_far ?_ NB486_487.out _; (with_reducible repeat (first | refine blk_drewN ?_ _ | refine blk_drew ?_ | refine blk_alloc ?_ _)); refine blk_far ?_ NB486_487.out _; (with_reducible repeat (first | refine blk_drewN ?_ _ | refine blk_drew ?_ | refine blk_alloc ?_ _)); refine blk_far ?_ NB486_487.out _; (with_reducible repeat (first | refine blk_drewN ?_ _ | refine blk_drew ?_ | refine blk_alloc ?_ _)); exact BK486.out) Try.underlying46 rfl (by kernel_rfl)) rfl ?_
         exact ⟨retT_, att17_0_1⟩
        ·replace c52 := Bool.eq_false_iff.mpr c52
         subst c52
         rw [if_neg (show ¬ (false = true) by decide)] at H
         by_cases c62 : a0_0 = 8
         ·rw [if_pos c62] at H
          have c62b0 := beq_iff_eq.mpr c62
          have c62b1 := bne_eq_false_iff_eq.mpr c62
          clear c62
          simp only [Option.some.injEq, Prod.mk.injEq] at H
          obtain ⟨rfl, rfl, rfl, rfl, rfl⟩ := H
          try go_wp2
          refine swap4_ (blk_drew BK485.out) (blk_drew BK486.out) (blk_drew BK487.out) (below_drew1 HB.out) ?_
          clear BK485 BK486 BK487 HB
          intro BK485 BK486 BK487 HB
          refine start_ (n := 12) (S := fun w' => w'.cell? ⟨gb485, 0, none⟩ = some (.int .i64 a0_0) ∧ w'.cell? ⟨gb485, 1, none⟩ = some (.int .i64 a0_1) ∧ w'.cell? ⟨gb485, 2, none⟩ = some (.int .i64 a0_2) ∧ w'.cell? ⟨gb485, 3, none⟩ = some (.int .i64 a0_3) ∧ w'.cell? ⟨gb485, 4, none⟩ = some (.int .i64 a0_4)) (ds := []) (tf_ 0 12) (by kernel_rfl) rfl rfl ⟨(blk_cell BK485.out 0).trans rfl, (blk_cell BK485.out 1).trans rfl, (blk_cell BK485.out 2).trans rfl, (blk_cell BK485.out 3).trans rfl, (blk_cell BK485.out 4).trans rfl⟩ (fun hHeld => ?_); refine with_tabW impl_stepNamed.tab15 impl_stepNamed.bits15 (fun HT_ HW_ => ?_)
          generalize wc.drew = w63 at BK485 BK486 BK487 HB hHeld ⊢
          refine pureQ_ (i := 0) (N := some 55) (tf_ 1 11) (h := ?_)
          refine pureQ_ (i := 2) (N := some 57) #[true, false, true, false, false, false, false, false, false, false, false, false] (h := ?_)
          refine pureQ_ (i := 4) (N := some 59) #[true, false, true, false, true, false, false, false, false, false, false, false] (h := ?_)
          refine takeQ_ (i := 1) (N := some 56) #[true, true, true, false, true, false, false, false, false, false, false, false] hHeld (hy := Or.inl ⟨by rfl, att17_0_6⟩) (h := ?_)
          refine pureQ_ (i := 6) (N := some 61) #[true, true, true, false, true, false, true, false, false, false, false, false] (h := ?_)
          refine takeQ_ (i := 3) (N := some 58) #[true, true, true, true, true, false, true, false, false, false, false, false] hHeld (hy := Or.inl ⟨by rfl, att17_0_6⟩) (h := ?_)
          refine takeQ_ (i := 5) (N := some 60) (tf_ 7 5) hHeld (hy := Or.inl ⟨by rfl, att17_0_6⟩) (h := ?_)
          refine one_ (i := 7) (N := none) (tf_ 8 4) rfl rfl (one_of HT_.out (by kernel_rfl)) (by decide) (fun K hK => ?_)
          have hs64 : w63.cell? ⟨gb487, 1, none⟩ = some (.int .i64 0) := (blk_cell BK487.out 1).trans rfl
          have hfs64 := blk_frozen BK487.out 1
          have hns64_0 := NB485_487.out
          have hns64_1 := NB486_487.out
          have hms64_0 := NB487_485.out
          have hms64_1 := NB487_486.out
          refine skip_ (w1 := ?_) (by rfl) rfl ?_ ?_
          rotate_left
          ·go_simp
           rfl
          refine hK.out _ _ ⟨((cell_far (p := ⟨gb487, _, none⟩) NB485_487.out _).trans (hHeld.1)), ((cell_far (p := ⟨gb487, _, none⟩) NB485_487.out _).trans (hHeld.2.1)), ((cell_far (p := ⟨gb487, _, none⟩) NB485_487.out _).trans (hHeld.2.2.1)), ((cell_far (p := ⟨gb487, _, none⟩) NB485_487.out _).trans (hHeld.2.2.2.1)), ((cell_far (p := ⟨gb487, _, none⟩) NB485_487.out _).trans (hHeld.2.2.2.2))⟩ (fun hHeld => ?_)
          clear hK K
          refine pureQ_ (i := 8) (N := some 62) (tf_ 9 3) (h := ?_)
          refine one_ (i := 9) (N := none) (tf_ 10 2) rfl rfl (one_of HT_.out (by kernel_rfl)) (by decide) (fun K hK => ?_)
          have hs65 : w63.cell? ⟨gb487, 3, none⟩ = some (.int .i64 0) := (blk_cell BK487.out 3).trans rfl
          have hfs65 := blk_frozen BK487.out 3
          have hns65_0 := NB485_487.out
          have hns65_1 := NB486_487.out
          have hms65_0 := NB487_485.out
          have hms65_1 := NB487_486.out
          refine skip_ (w1 := ?_) (by rfl) rfl ?_ ?_
          rotate_left
          ·go_simp
           rfl
          refine hK.out _ _ ⟨((cell_far (p := ⟨gb487, _, none⟩) NB485_487.out _).trans (hHeld.1)), ((cell_far (p := ⟨gb487, _, none⟩) NB485_487.out _).trans (hHeld.2.1)), ((cell_far (p := ⟨gb487, _, none⟩) NB485_487.out _).trans (hHeld.2.2.1)), ((cell_far (p := ⟨gb487, _, none⟩) NB485_487.out _).trans (hHeld.2.2.2.1)), ((cell_far (p := ⟨gb487, _, none⟩) NB485_487.out _).trans (hHeld.2.2.2.2))⟩ (fun hHeld => ?_)
          clear hK K
          refine pureQ_ (i := 10) (N := some 63) (tf_ 11 1) (h := ?_)
          refine one_ (i := 11) (N := none) (tf_ 12 0) rfl rfl (one_of HT_.out (by kernel_rfl)) (by decide) (fun K hK => ?_)
          have hs66 : w63.cell? ⟨gb487, 4, none⟩ = some (.int .i64 0) := (blk_cell BK487.out 4).trans rfl
          have hfs66 := blk_frozen BK487.out 4
          have hns66_0 := NB485_487.out
          have hns66_1 := NB486_487.out
          have hms66_0 := NB487_485.out
          have hms66_1 := NB487_486.out
          refine skip_ (w1 := ?_) (by rfl) rfl ?_ ?_
          rotate_left
          ·go_simp
           rfl
          refine hK.out _ _ ⟨((cell_far (p := ⟨gb487, _, none⟩) NB485_487.out _).trans (hHeld.1)), ((cell_far (p := ⟨gb487, _, none⟩) NB485_487.out _).trans (hHeld.2.1)), ((cell_far (p := ⟨gb487, _, none⟩) NB485_487.out _).trans (hHeld.2.2.1)), ((cell_far (p := ⟨gb487, _, none⟩) NB485_487.out _).trans (hHeld.2.2.2.1)), ((cell_far (p := ⟨gb487, _, none⟩) NB485_487.out _).trans (hHeld.2.2.2.2))⟩ (fun hHeld => ?_)
          clear hK K
          refine done_ (done_of HT_.out (by kernel_rfl)) ?_
          have hnb67 := NB487_485.out
          have hnc67 := NB485_487.out
          have hnb68 := NB487_486.out
          have hnc68 := NB486_487.out
          obtain ⟨hcz69_0, hcz69_1, hcz69_2, hcz69_3, hcz69_4, hfz69_0, hfz69_1, hfz69_2, hfz69_3, hfz69_4⟩ := blkB5_ BK487
          have hnb70 := NB486_485.out
          have hnc70 := NB485_486.out
          obtain ⟨hcz71_0, hcz71_1, hcz71_2, hcz71_3, hcz71_4, hfz71_0, hfz71_1, hfz71_2, hfz71_3, hfz71_4⟩ := blkB5_ BK486
          try go_wp2
          refine bodyPost_ret (results_cell_row rfl _ _ gb486 46 #[.int .i64 a0_0, .int .i64 a0_1, .int .i64 0, .int .i64 a0_3, .int .i64 a0_4] (0, 0) _ rfl (by (with_reducible repeat (first | refine blk_drewN ?_ _ | refine blk_drew ?_ | refine blk_alloc ?_ _)); refine blk_put (cs := #[.int .i64 a0_0, .int .i64 a0_1, .int .i64 0, .int .i64 a0_3, .int .i64 0]) ?_ 4 _ rfl; (with_reducible repeat (first | refine blk_drewN ?_ _ | refine blk_drew ?_ | refine blk_alloc ?_ _)); refine blk_put (cs := #[.int .i64 a0_0, .int .i64 a0_1, .int .i64 0, .int .i64 0, .int .i64 0]) ?_ 3 _ rfl; (with_reducible repeat (first | refine blk_drewN ?_ _ | refine blk_drew ?_ | refine blk_alloc ?_ _)); refine blk_put (cs := #[.int .i64 a0_0, .int .i64 a0_1, .int .i64 0, .int .i64 0, .int .i64 0]) ?_ 2 _ rfl; (with_reducible repeat (first | refine blk_drewN ?_ _ | refine blk_drew ?_ | refine blk_alloc ?_ _)); refine blk_put (cs := #[.int .i64 a0_0, .int .i64 0, .int .i64 0, .int .i64 0, .int .i64 0]) ?_ 1 _ rfl; (with_reducible repeat (first | refine blk_drewN ?_ _ | refine blk_drew ?_ | refine blk_alloc ?_ _)); refine blk_put (cs := #[.int .i64 0, .int .i64 0, .int .i64 0, .int .i64 0, .int .i64 0]) ?_ 0 _ rfl; (with_reducible repeat (first | refine blk_drewN ?_ _ | refine blk_drew ?_ | refine blk_alloc ?_ _)); refine blk_far ?_ NB486_487.out _; (with_reducible repeat (first | refine blk_drewN ?_ _ | refine blk_drew ?_ | refine blk_alloc ?_ _)); refine blk_far ?_ NB486_487.out _; (with_reducible repeat (first | refine blk_drewN ?_ _ | refine blk_drew ?_ | refine blk_alloc ?_ _)); refine blk_far ?_ NB486_487.out _; (with_reducible repeat (first | refine blk_drewN ?_ _ | refine blk_drew ?_ | refine blk_alloc ?_ _)); exact BK486.out) Try.underlying46 rfl (by kernel_rfl)) rfl ?_
          exact ⟨retT_, att17_0_1⟩
         ·rw [if_neg c62] at H
          have c62b0 := beq_eq_false_iff_ne.mpr c62
          have c62b1 := bne_iff_ne.mpr c62
          by_cases c72 : a0_0 = 9
          ·rw [if_pos c72] at H
           have c72b0 := beq_iff_eq.mpr c72
           have c72b1 := bne_eq_false_iff_eq.mpr c72
           clear c72
           simp only [Option.some.injEq, Prod.mk.injEq] at H
           obtain ⟨rfl, rfl, rfl, rfl, rfl⟩ := H
           have hnb73 := NB485_486.out
           have hnc73 := NB486_485.out
           have hnb74 := NB485_487.out
           have hnc74 := NB487_485.out
           obtain ⟨hcz75_0, hcz75_1, hcz75_2, hcz75_3, hcz75_4, hfz75_0, hfz75_1, hfz75_2, hfz75_3, hfz75_4⟩ := blkB5_ BK485
           have hnb76 := NB487_486.out
           have hnc76 := NB486_487.out
           obtain ⟨hcz77_0, hcz77_1, hcz77_2, hcz77_3, hcz77_4, hfz77_0, hfz77_1, hfz77_2, hfz77_3, hfz77_4⟩ := blkB5_ BK487
           obtain ⟨hcz78_0, hcz78_1, hcz78_2, hcz78_3, hcz78_4, hfz78_0, hfz78_1, hfz78_2, hfz78_3, hfz78_4⟩ := blkB5_ BK486
           go_wp2
           refine bodyPost_ret (results_cell_row rfl _ _ gb486 46 #[.int .i64 a0_0, .int .i64 0, .int .i64 a0_2, .int .i64 0, .int .i64 0] (0, 0) _ rfl (by (with_reducible repeat (first | refine blk_drewN ?_ _ | refine blk_drew ?_ | refine blk_alloc ?_ _)); refine blk_put (cs := #[.int .i64 a0_0, .int .i64 0, .int .i64 a0_2, .int .i64 0, .int .i64 0]) ?_ 4 _ rfl; (with_reducible repeat (first | refine blk_drewN ?_ _ | refine blk_drew ?_ | refine blk_alloc ?_ _)); refine blk_put (cs := #[.int .i64 a0_0, .int .i64 0, .int .i64 a0_2, .int .i64 0, .int .i64 0]) ?_ 3 _ rfl; (with_reducible repeat (first | refine blk_drewN ?_ _ | refine blk_drew ?_ | refine blk_alloc ?_ _)); refine blk_put (cs := #[.int .i64 a0_0, .int .i64 0, .int .i64 0, .int .i64 0, .int .i64 0]) ?_ 2 _ rfl; (with_reducible repeat (first | refine blk_drewN ?_ _ | refine blk_drew ?_ | refine blk_alloc ?_ _)); refine blk_put (cs := #[.int .i64 a0_0, .int .i64 0, .int .i64 0, .int .i64 0, .int .i64 0]) ?_ 1 _ rfl; (with_reducible repeat (first | refine blk_drewN ?_ _ | refine blk_drew ?_ | refine blk_alloc ?_ _)); refine blk_put (cs := #[.int .i64 0, .int .i64 0, .int .i64 0, .int .i64 0, .int .i64 0]) ?_ 0 _ rfl; (with_reducible repeat (first | refine blk_drewN ?_ _ | refine blk_drew ?_ | refine blk_alloc ?_ _)); refine blk_far ?_ NB486_487.out _; (with_reducible repeat (first | refine blk_drewN ?_ _ | refine blk_drew ?_ | refine blk_alloc ?_ _)); exact BK486.out) Try.underlying46 rfl (by kernel_rfl)) rfl ?_
           exact ⟨retT_, att17_0_1⟩
          ·rw [if_neg c72] at H
           have c72b0 := beq_eq_false_iff_ne.mpr c72
           have c72b1 := bne_iff_ne.mpr c72
           by_cases c79 : a0_0 = 10
           ·rw [if_pos c79] at H
            have c79b0 := beq_iff_eq.mpr c79
            have c79b1 := bne_eq_false_iff_eq.mpr c79
            clear c79
            simp only [Option.some.injEq, Prod.mk.injEq] at H
            obtain ⟨rfl, rfl, rfl, rfl, rfl⟩ := H
            have hnb80 := NB485_486.out
            have hnc80 := NB486_485.out
            have hnb81 := NB485_487.out
            have hnc81 := NB487_485.out
            obtain ⟨hcz82_0, hcz82_1, hcz82_2, hcz82_3, hcz82_4, hfz82_0, hfz82_1, hfz82_2, hfz82_3, hfz82_4⟩ := blkB5_ BK485
            have hnb83 := NB487_486.out
            have hnc83 := NB486_487.out
            obtain ⟨hcz84_0, hcz84_1, hcz84_2, hcz84_3, hcz84_4, hfz84_0, hfz84_1, hfz84_2, hfz84_3, hfz84_4⟩ := blkB5_ BK487
            obtain ⟨hcz85_0, hcz85_1, hcz85_2, hcz85_3, hcz85_4, hfz85_0, hfz85_1, hfz85_2, hfz85_3, hfz85_4⟩ := blkB5_ BK486
            go_wp2
            refine bodyPost_ret (results_cell_row rfl _ _ gb486 46 #[.int .i64 a0_0, .int .i64 0, .int .i64 0, .int .i64 0, .int .i64 a0_4] (0, 0) _ rfl (by (with_reducible repeat (first | refine blk_drewN ?_ _ | refine blk_drew ?_ | refine blk_alloc ?_ _)); refine blk_put (cs := #[.int .i64 a0_0, .int .i64 0, .int .i64 0, .int .i64 0, .int .i64 0]) ?_ 4 _ rfl; (with_reducible repeat (first | refine blk_drewN ?_ _ | refine blk_drew ?_ | refine blk_alloc ?_ _)); refine blk_put (cs := #[.int .i64 a0_0, .int .i64 0, .int .i64 0, .int .i64 0, .int .i64 0]) ?_ 3 _ rfl; (with_reducible repeat (first | refine blk_drewN ?_ _ | refine blk_drew ?_ | refine blk_alloc ?_ _)); refine blk_put (cs := #[.int .i64 a0_0, .int .i64 0, .int .i64 0, .int .i64 0, .int .i64 0]) ?_ 2 _ rfl; (with_reducible repeat (first | refine blk_drewN ?_ _ | refine blk_drew ?_ | refine blk_alloc ?_ _)); refine blk_put (cs := #[.int .i64 a0_0, .int .i64 0, .int .i64 0, .int .i64 0, .int .i64 0]) ?_ 1 _ rfl; (with_reducible repeat (first | refine blk_drewN ?_ _ | refine blk_drew ?_ | refine blk_alloc ?_ _)); refine blk_put (cs := #[.int .i64 0, .int .i64 0, .int .i64 0, .int .i64 0, .int .i64 0]) ?_ 0 _ rfl; (with_reducible repeat (first | refine blk_drewN ?_ _ | refine blk_drew ?_ | refine blk_alloc ?_ _)); refine blk_far ?_ NB486_487.out _; (with_reducible repeat (first | refine blk_drewN ?_ _ | refine blk_drew ?_ | refine blk_alloc ?_ _)); exact BK486.out) Try.underlying46 rfl (by kernel_rfl)) rfl ?_
            exact ⟨retT_, att17_0_1⟩
           ·rw [if_neg c79] at H
            have c79b0 := beq_eq_false_iff_ne.mpr c79
            have c79b1 := bne_iff_ne.mpr c79
            by_cases c86 : a0_0 = 11
            ·rw [if_pos c86] at H
             have c86b0 := beq_iff_eq.mpr c86
             have c86b1 := bne_eq_false_iff_eq.mpr c86
             clear c86
             simp only [Option.some.injEq, Prod.mk.injEq] at H
             obtain ⟨rfl, rfl, rfl, rfl, rfl⟩ := H
             try go_wp2
             refine swap4_ (blk_drew BK485.out) (blk_drew BK486.out) (blk_drew BK487.out) (below_drew1 HB.out) ?_
             clear BK485 BK486 BK487 HB
             intro BK485 BK486 BK487 HB
             refine start_ (n := 8) (S := fun w' => w'.cell? ⟨gb485, 0, none⟩ = some (.int .i64 a0_0) ∧ w'.cell? ⟨gb485, 1, none⟩ = some (.int .i64 a0_1) ∧ w'.cell? ⟨gb485, 2, none⟩ = some (.int .i64 a0_2) ∧ w'.cell? ⟨gb485, 3, none⟩ = some (.int .i64 a0_3) ∧ w'.cell? ⟨gb485, 4, none⟩ = some (.int .i64 a0_4)) (ds := []) (tf_ 0 8) (by kernel_rfl) rfl rfl ⟨(blk_cell BK485.out 0).trans rfl, (blk_cell BK485.out 1).trans rfl, (blk_cell BK485.out 2).trans rfl, (blk_cell BK485.out 3).trans rfl, (blk_cell BK485.out 4).trans rfl⟩ (fun hHeld => ?_); refine with_tabW impl_stepNamed.tab21 impl_stepNamed.bits21 (fun HT_ HW_ => ?_)
             generalize wc.drew = w87 at BK485 BK486 BK487 HB hHeld ⊢
             refine pureQ_ (i := 0) (N := some 76) (tf_ 1 7) (h := ?_)
             refine pureQ_ (i := 2) (N := some 78) #[true, false, true, false, false, false, false, false] (h := ?_)
             refine takeQ_ (i := 1) (N := some 77) (tf_ 3 5) hHeld (hy := Or.inl ⟨by rfl, att17_0_6⟩) (h := ?_)
             refine pureQ_ (i := 4) (N := some 80) #[true, true, true, false, true, false, false, false] (h := ?_)
             refine takeQ_ (i := 3) (N := some 79) (tf_ 5 3) hHeld (hy := Or.inl ⟨by rfl, att17_0_6⟩) (h := ?_)
             refine one_ (i := 5) (N := none) (tf_ 6 2) rfl rfl (one_of HT_.out (by kernel_rfl)) (by decide) (fun K hK => ?_)
             have hs88 : w87.cell? ⟨gb487, 2, none⟩ = some (.int .i64 0) := (blk_cell BK487.out 2).trans rfl
             have hfs88 := blk_frozen BK487.out 2
             have hns88_0 := NB485_487.out
             have hns88_1 := NB486_487.out
             have hms88_0 := NB487_485.out
             have hms88_1 := NB487_486.out
             refine skip_ (w1 := ?_) (by rfl) rfl ?_ ?_
             rotate_left
             ·go_simp
              rfl
             refine hK.out _ _ ⟨((cell_far (p := ⟨gb487, _, none⟩) NB485_487.out _).trans (hHeld.1)), ((cell_far (p := ⟨gb487, _, none⟩) NB485_487.out _).trans (hHeld.2.1)), ((cell_far (p := ⟨gb487, _, none⟩) NB485_487.out _).trans (hHeld.2.2.1)), ((cell_far (p := ⟨gb487, _, none⟩) NB485_487.out _).trans (hHeld.2.2.2.1)), ((cell_far (p := ⟨gb487, _, none⟩) NB485_487.out _).trans (hHeld.2.2.2.2))⟩ (fun hHeld => ?_)
             clear hK K
             refine pureQ_ (i := 6) (N := some 81) (tf_ 7 1) (h := ?_)
             refine one_ (i := 7) (N := none) (tf_ 8 0) rfl rfl (one_of HT_.out (by kernel_rfl)) (by decide) (fun K hK => ?_)
             have hs89 : w87.cell? ⟨gb487, 4, none⟩ = some (.int .i64 0) := (blk_cell BK487.out 4).trans rfl
             have hfs89 := blk_frozen BK487.out 4
             have hns89_0 := NB485_487.out
             have hns89_1 := NB486_487.out
             have hms89_0 := NB487_485.out
             have hms89_1 := NB487_486.out
             refine skip_ (w1 := ?_) (by rfl) rfl ?_ ?_
             rotate_left
             ·go_simp
              rfl
             refine hK.out _ _ ⟨((cell_far (p := ⟨gb487, _, none⟩) NB485_487.out _).trans (hHeld.1)), ((cell_far (p := ⟨gb487, _, none⟩) NB485_487.out _).trans (hHeld.2.1)), ((cell_far (p := ⟨gb487, _, none⟩) NB485_487.out _).trans (hHeld.2.2.1)), ((cell_far (p := ⟨gb487, _, none⟩) NB485_487.out _).trans (hHeld.2.2.2.1)), ((cell_far (p := ⟨gb487, _, none⟩) NB485_487.out _).trans (hHeld.2.2.2.2))⟩ (fun hHeld => ?_)
             clear hK K
             refine done_ (done_of HT_.out (by kernel_rfl)) ?_
             have hnb90 := NB487_485.out
             have hnc90 := NB485_487.out
             have hnb91 := NB487_486.out
             have hnc91 := NB486_487.out
             obtain ⟨hcz92_0, hcz92_1, hcz92_2, hcz92_3, hcz92_4, hfz92_0, hfz92_1, hfz92_2, hfz92_3, hfz92_4⟩ := blkB5_ BK487
             have hnb93 := NB486_485.out
             have hnc93 := NB485_486.out
             obtain ⟨hcz94_0, hcz94_1, hcz94_2, hcz94_3, hcz94_4, hfz94_0, hfz94_1, hfz94_2, hfz94_3, hfz94_4⟩ := blkB5_ BK486
             try go_wp2
             refine bodyPost_ret (results_cell_row rfl _ _ gb486 46 #[.int .i64 a0_0, .int .i64 0, .int .i64 a0_2, .int .i64 0, .int .i64 a0_4] (0, 0) _ rfl (by (with_reducible repeat (first | refine blk_drewN ?_ _ | refine blk_drew ?_ | refine blk_alloc ?_ _)); refine blk_put (cs := #[.int .i64 a0_0, .int .i64 0, .int .i64 a0_2, .int .i64 0, .int .i64 0]) ?_ 4 _ rfl; (with_reducible repeat (first | refine blk_drewN ?_ _ | refine blk_drew ?_ | refine blk_alloc ?_ _)); refine blk_put (cs := #[.int .i64 a0_0, .int .i64 0, .int .i64 a0_2, .int .i64 0, .int .i64 0]) ?_ 3 _ rfl; (with_reducible repeat (first | refine blk_drewN ?_ _ | refine blk_drew ?_ | refine blk_alloc ?_ _)); refine blk_put (cs := #[.int .i64 a0_0, .int .i64 0, .int .i64 0, .int .i64 0, .int .i64 0]) ?_ 2 _ rfl; (with_reducible repeat (first | refine blk_drewN ?_ _ | refine blk_drew ?_ | refine blk_alloc ?_ _)); refine blk_put (cs := #[.int .i64 a0_0, .int .i64 0, .int .i64 0, .int .i64 0, .int .i64 0]) ?_ 1 _ rfl; (with_reducible repeat (first | refine blk_drewN ?_ _ | refine blk_drew ?_ | refine blk_alloc ?_ _)); refine blk_put (cs := #[.int .i64 0, .int .i64 0, .int .i64 0, .int .i64 0, .int .i64 0]) ?_ 0 _ rfl; (with_reducible repeat (first | refine blk_drewN ?_ _ | refine blk_drew ?_ | refine blk_alloc ?_ _)); refine blk_far ?_ NB486_487.out _; (with_reducible repeat (first | refine blk_drewN ?_ _ | refine blk_drew ?_ | refine blk_alloc ?_ _)); refine blk_far ?_ NB486_487.out _; (with_reducible repeat (first | refine blk_drewN ?_ _ | refine blk_drew ?_ | refine blk_alloc ?_ _)); exact BK486.out) Try.underlying46 rfl (by kernel_rfl)) rfl ?_
             exact ⟨retT_, att17_0_1⟩
            ·rw [if_neg c86] at H
             have c86b0 := beq_eq_false_iff_ne.mpr c86
             have c86b1 := bne_iff_ne.mpr c86
             simp only [Option.some.injEq, Prod.mk.injEq] at H
             obtain ⟨rfl, rfl, rfl, rfl, rfl⟩ := H
             have hnb95 := NB487_485.out
             have hnc95 := NB485_487.out
             have hnb96 := NB487_486.out
             have hnc96 := NB486_487.out
             obtain ⟨hcz97_0, hcz97_1, hcz97_2, hcz97_3, hcz97_4, hfz97_0, hfz97_1, hfz97_2, hfz97_3, hfz97_4⟩ := blkB5_ BK487
             have hnb98 := NB486_485.out
             have hnc98 := NB485_486.out
             obtain ⟨hcz99_0, hcz99_1, hcz99_2, hcz99_3, hcz99_4, hfz99_0, hfz99_1, hfz99_2, hfz99_3, hfz99_4⟩ := blkB5_ BK486
             go_wp2
             refine bodyPost_ret (results_cell_row rfl _ _ gb486 46 #[.int .i64 a0_0, .int .i64 0, .int .i64 0, .int .i64 0, .int .i64 0] (0, 0) _ rfl (by (with_reducible repeat (first | refine blk_drewN ?_ _ | refine blk_drew ?_ | refine blk_alloc ?_ _)); refine blk_put (cs := #[.int .i64 a0_0, .int .i64 0, .int .i64 0, .int .i64 0, .int .i64 0]) ?_ 4 _ rfl; (with_reducible repeat (first | refine blk_drewN ?_ _ | refine blk_drew ?_ | refine blk_alloc ?_ _)); refine blk_put (cs := #[.int .i64 a0_0, .int .i64 0, .int .i64 0, .int .i64 0, .int .i64 0]) ?_ 3 _ rfl; (with_reducible repeat (first | refine blk_drewN ?_ _ | refine blk_drew ?_ | refine blk_alloc ?_ _)); refine blk_put (cs := #[.int .i64 a0_0, .int .i64 0, .int .i64 0, .int .i64 0, .int .i64 0]) ?_ 2 _ rfl; (with_reducible repeat (first | refine blk_drewN ?_ _ | refine blk_drew ?_ | refine blk_alloc ?_ _)); refine blk_put (cs := #[.int .i64 a0_0, .int .i64 0, .int .i64 0, .int .i64 0, .int .i64 0]) ?_ 1 _ rfl; (with_reducible repeat (first | refine blk_drewN ?_ _ | refine blk_drew ?_ | refine blk_alloc ?_ _)); refine blk_put (cs := #[.int .i64 0, .int .i64 0, .int .i64 0, .int .i64 0, .int .i64 0]) ?_ 0 _ rfl; (with_reducible repeat (first | refine blk_drewN ?_ _ | refine blk_drew ?_ | refine blk_alloc ?_ _)); exact BK486.out) Try.underlying46 rfl (by kernel_rfl)) rfl ?_
             exact ⟨retT_, att17_0_1⟩

end Go.Proofs.Ytonlhgkpmjefkaa.XFnEmitted
