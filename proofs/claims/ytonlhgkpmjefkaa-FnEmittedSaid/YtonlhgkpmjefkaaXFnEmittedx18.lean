/- Each Go function that the law reaches as a Lean function, and that Go comes to just its answer; written by this session's xprint.py over the kit's printer. -/
import Derived.Test.YtonlhgkpmjefkaaXFnEmittedx0
import Derived.Test.YtonlhgkpmjefkaaXFnEmittedx2
import Derived.Test.YtonlhgkpmjefkaaXFnEmittedx5
import Derived.Test.YtonlhgkpmjefkaaXFnEmittedx16
import Derived.Test.YtonlhgkpmjefkaaXFnEmittedx17
namespace Go.Proofs.Ytonlhgkpmjefkaa.XFnEmitted
open Go.RowKit Go.Proofs.YtonlhgkpmjefkaaW.PrintWords Go.Proofs.YtonlhgkpmjefkaaW.PrintLast Go.Proofs.YtonlhgkpmjefkaaW.PrintMore
attribute [local go_sem] max2_int min2_int max_two min_two max_three min_three max_four min_four   -- for this text's walks alone
set_option linter.unusedVariables false
set_option linter.unusedSimpArgs false

attribute [local go_sem high] eqA46
theorem att19_0_0 {p : Prop} (h : p := by repeat (first | (with_reducible first | exact HB.out | apply below_alloc | apply pw_below_drewN | apply below_drew1 | refine below_set ?_ GE489.out) | exact HB.out)) : p := h
theorem att19_0_2 {p : Prop} (h : p := by (with_reducible repeat (first | refine blk_drewN ?_ _ | refine blk_drew ?_ | refine blk_alloc ?_ _)); exact BK489.out) : p := h
theorem att19_0_3 {p : Prop} (h : p := by rintro w' ⟨s0, s1, s2, s3, s4⟩; go_simp; with_reducible rfl) : p := h
theorem att19_0_6 {p : Prop} (h : p := by have := HJ3.out; have := HJ7.out; first | omega | exact Nat.le_refl _) : p := h
theorem att19_0_7 {p : Prop} (h : p := by have := HJ3.out; first | omega | exact Nat.le_refl _) : p := h
/-! ### impl_StepOk: function 28 -/
mutual
def impl_StepOk.j0 : Nat → Int → Int → Int → Int → Int → Int → Int → Option (Bool)
 | 0, _, _, _, _, _, _, _ => none
 | k + 1, x1, x5, x490000, x490001, x490002, x490003, x490004 => (impl_within.f x490000 1 13).bind fun t491 => (if t491 = true then ((impl_stepNamed.f k x490000 x490001 x490002 x490003 x490004).bind fun bt492 => (if (!(x490000 == bt492.1) || (!(x490001 == bt492.2.1) || (!(x490002 == bt492.2.2.1) || (!(x490003 == bt492.2.2.2.1) || (!(x490004 == bt492.2.2.2.2)))))) = true then (impl_StepOk.j1 k x1 true x490000 x490001 x490002 x490003 x490004) else ((impl_within.f x490001 0 7).bind fun t497 => (if t497 = true then ((impl_within.f x490002 x5 7).bind fun t498 => (if t498 = true then ((impl_within.f x490003 0 7).bind fun t499 => (impl_StepOk.j1 k x1 (!t499) x490000 x490001 x490002 x490003 x490004)) else (impl_StepOk.j1 k x1 true x490000 x490001 x490002 x490003 x490004))) else (impl_StepOk.j1 k x1 true x490000 x490001 x490002 x490003 x490004))))) else (impl_StepOk.j1 k x1 true x490000 x490001 x490002 x490003 x490004))
def impl_StepOk.j1 : Nat → Int → Bool → Int → Int → Int → Int → Int → Option (Bool)
 | 0, _, _, _, _, _, _, _ => none
 | k + 1, x1, x37, x490000, x490001, x490002, x490003, x490004 => if x37 = true then (some false) else (if x490000 = 1 then ((impl_within.f x490004 (-1000000000) 1000000000).bind fun t500 => (some t500)) else (if x490000 = 5 then (impl_StepOk.j2 k x1 x490000 (x490000 == 5) x490000 x490001 x490002 x490003 x490004) else (if x490000 = 6 then (impl_StepOk.j2 k x1 x490000 (x490000 == 6) x490000 x490001 x490002 x490003 x490004) else (if x490000 = 7 then (impl_StepOk.j2 k x1 x490000 (x490000 == 7) x490000 x490001 x490002 x490003 x490004) else (impl_StepOk.j2 k x1 x490000 (x490000 == 8) x490000 x490001 x490002 x490003 x490004)))))
def impl_StepOk.j2 : Nat → Int → Int → Bool → Int → Int → Int → Int → Int → Option (Bool)
 | 0, _, _, _, _, _, _, _, _ => none
 | k + 1, x1, x39, x45, x490000, x490001, x490002, x490003, x490004 => if x45 = true then ((impl_isCell.f x490004).bind fun t501 => (some t501)) else (if x39 = 10 then (if x490004 ≥ 0 then (some (decide (x490004 < x1))) else (some false)) else (if x39 = 11 then (if x490004 ≥ 0 then (some (decide (x490004 < x1))) else (some false)) else (some true)))
end
def impl_StepOk.f (k : Nat) (a0_0 : Int) (a0_1 : Int) (a0_2 : Int) (a0_3 : Int) (a0_4 : Int) (a1 : Int) : Option (Bool) := (impl_within.f a0_0 5 7).bind fun t490 => (if t490 = true then (impl_StepOk.j0 k a1 (-1) a0_0 a0_1 a0_2 a0_3 a0_4) else (impl_StepOk.j0 k a1 0 a0_0 a0_1 a0_2 a0_3 a0_4))
theorem impl_StepOk.mono_l : ∀ k, (∀ y0 y1 y2 y3 y4 y5 y6, LeO (impl_StepOk.j0 k y0 y1 y2 y3 y4 y5 y6) (impl_StepOk.j0 (k + 1) y0 y1 y2 y3 y4 y5 y6)) ∧ (∀ y0 y1 y2 y3 y4 y5 y6, LeO (impl_StepOk.j1 k y0 y1 y2 y3 y4 y5 y6) (impl_StepOk.j1 (k + 1) y0 y1 y2 y3 y4 y5 y6)) ∧ (∀ y0 y1 y2 y3 y4 y5 y6 y7, LeO (impl_StepOk.j2 k y0 y1 y2 y3 y4 y5 y6 y7) (impl_StepOk.j2 (k + 1) y0 y1 y2 y3 y4 y5 y6 y7))
 | 0 => ⟨fun _ _ _ _ _ _ _ r h => by simp [impl_StepOk.j0] at h, fun _ _ _ _ _ _ _ r h => by simp [impl_StepOk.j1] at h, fun _ _ _ _ _ _ _ _ r h => by simp [impl_StepOk.j2] at h⟩
 | k + 1 => by
  obtain ⟨ih0, ih1, ih2⟩ := impl_StepOk.mono_l k
  refine ⟨?_, ?_, ?_⟩
  all_goals intros
  all_goals first | unfold impl_StepOk.j0 | unfold impl_StepOk.j1 | unfold impl_StepOk.j2
  all_goals repeat' (with_reducible first | exact ih0 .. | exact ih1 .. | exact ih2 .. | exact impl_stepNamed.mono .. | exact LeO.refl _ | exact LeO.none _ | refine LeO.ite ?_ ?_ | refine LeO.bind ?_ (fun _ => ?_))
theorem impl_StepOk.mono : ∀ a0 a1 a2 a3 a4 a5 k, LeO (impl_StepOk.f k a0 a1 a2 a3 a4 a5) (impl_StepOk.f (k + 1) a0 a1 a2 a3 a4 a5) := by
 intro a0 a1 a2 a3 a4 a5 k
 obtain ⟨ih0, ih1, ih2⟩ := impl_StepOk.mono_l k
 unfold impl_StepOk.f
 repeat' (with_reducible first | exact ih0 .. | exact ih1 .. | exact ih2 .. | exact impl_stepNamed.mono .. | exact LeO.refl _ | exact LeO.none _ | refine LeO.ite ?_ ?_ | refine LeO.bind ?_ (fun _ => ?_))
def impl_StepOk.T4 : Bool × List (List Nat × List Nat) := (true, [([], []), ([0], [0]), ([1], [1]), ([2], [2]), ([3, 2], [3]), ([4], [4]), ([4], [4]), ([6, 4, 4], [4, 6]), ([5, 7, 4], [4, 5, 7]), ([4, 8], [4, 8]), ([9, 7], [9]), ([10], [10]), ([11, 10], [10, 11]), ([12, 10, 10], [10, 12]), ([13, 10], [10, 13]), ([10, 14], [10, 14]), ([15, 13], [15]), ([16], [16]), ([17, 16], [16, 17]), ([16], [16]), ([18, 19, 16, 16], [16, 18, 19]), ([20, 16], [16, 20]), ([16, 21], [16, 21]), ([22, 20], [22]), ([23], [23]), ([24, 23], [23, 24]), ([25, 23, 23], [23, 25]), ([26, 23], [23, 26]), ([23, 27], [23, 27])])
def impl_StepOk.B4 : List Nat := [0, 1, 3, 7, 15, 31, 31, 95, 255, 511, 1023, 2047, 4095, 8191, 16383, 32767, 65535, 131071, 262143, 131071, 1048575, 2097151, 4194303, 8388607, 16777215, 33554431, 67108863, 134217727, 268435455]
theorem impl_StepOk.tab4 : rtab .any (opsOf Try.f28 4) = impl_StepOk.T4 := by kernel_rfl
theorem impl_StepOk.bits4 : waitsOk impl_StepOk.T4.2 impl_StepOk.B4 = true := by kernel_rfl
set_option maxHeartbeats 80000000 in
set_option maxRecDepth 100000 in
theorem impl_StepOk.calls (k : Nat) (a0_0 : Int) (a0_1 : Int) (a0_2 : Int) (a0_3 : Int) (a0_4 : Int) (a1 : Int) (r : Bool) (w : World) (h : impl_StepOk.f k a0_0 a0_1 a0_2 a0_3 a0_4 a1 = some r) :
  Calls Try.prog 28 #[.agg #[.int .i64 a0_0, .int .i64 a0_1, .int .i64 a0_2, .int .i64 a0_3, .int .i64 a0_4], .int .i64 a1] w fun e w' => e = .returned (.bool r) ∧ Below w.heap.size w w' := by
 have hu46 := Try.underlying46
 have HB := Aside0.mk (Below.refl w.heap.size w)
 have H : ((impl_within.f a0_0 5 7).bind fun t490 => (if t490 = true then (impl_StepOk.j0 k a1 (-1) a0_0 a0_1 a0_2 a0_3 a0_4) else (impl_StepOk.j0 k a1 0 a0_0 a0_1 a0_2 a0_3 a0_4))) = some r := h
 clear h
 replace H := Option.bind_eq_some_iff.mp H
 obtain ⟨t490, A30, H⟩ := H
 (try dsimp only at H)
 have A3 := Aside0.mk A30
 clear A30
 have HC4 := Aside0.mk H
 clear H
 go_enter Try.func28, Try.ntmps28
 go_upto_if 8 with (first | ((with_reducible refine gate_dst (N := 2) rfl ?_); refine box_event ?hg (N := 2) ?hd (cs := #[.int .i64 a0_0, .int .i64 a0_1, .int .i64 a0_2, .int .i64 a0_3, .int .i64 a0_4]) (t := 46) ?hr ?_; (case hd => rfl); (case hg => rfl); (case hr => first | (go_simp; done) | (go_simp; rfl)); intro gb489 hg w5 hbox hb; refine swap4_ (below_step atgB_ hb) (hbox) ((by rw [hg]; exact (below_size atgB_) : w.heap.size ≤ gb489)) ((by rw [hg]; exact (below_size atgB_) : w.heap.size ≤ gb489)) ?_; clear HB; intro HB BK489 GW489 GE489; clear hb hbox hg; obtain ⟨hcz6_0, hcz6_1, hcz6_2, hcz6_3, hcz6_4, hfz6_0, hfz6_1, hfz6_2, hfz6_3, hfz6_4⟩ := blkB5_ BK489) | ((with_reducible refine gate_callee (f := 117) rfl ?_); refine goesL_ (some 8) rfl rfl Try.func117 (by kernel_rfl) rfl #[.int .i64 a0_0, .int .i64 5, .int .i64 7] rfl atgM_ ?_; (with_reducible refine (impl_within.calls a0_0 5 7 t490 _ A3.out).mono ?_); rintro e w' ⟨rfl, ⟨nd, rfl⟩⟩; refine ⟨_, rfl, ?_⟩))
 (try simp only [Act.put, List.setIfInBounds_toArray, List.set_cons_zero, List.set_cons_succ])
 go_cut [5] (fun v5 wc => ∃ (kq : Nat) (x5_3 : Int), v5 = .int .i64 x5_3 ∧ Aside0 (impl_StepOk.j0 kq a1 x5_3 a0_0 a0_1 a0_2 a0_3 a0_4 = some r) ∧ Aside0 (kq ≤ k) ∧ Aside0 (wc.heap[gb489]? = some (.cells #[.int .i64 a0_0, .int .i64 a0_1, .int .i64 a0_2, .int .i64 a0_3, .int .i64 a0_4] 46 (0, 0))) ∧ Aside0 (Below w.heap.size w wc))
 case first =>
  have H := HC4.out
  clear HC4
  by_cases c7 : t490 = true
  ·subst c7
   rw [if_pos rfl] at H
   have H' := Aside0.mk H
   clear H
   go_wp2
   go_meet
   case rel => exact ⟨_, ((-1)), atgR_, H', ⟨by first | omega | exact Nat.le_refl _⟩, ⟨att19_0_2⟩, ⟨att19_0_0⟩⟩
  ·replace c7 := Bool.eq_false_iff.mpr c7
   subst c7
   rw [if_neg (show ¬ (false = true) by decide)] at H
   have H' := Aside0.mk H
   clear H
   go_wp2
   go_meet
   case rel => exact ⟨_, (0), atgR_, H', ⟨by first | omega | exact Nat.le_refl _⟩, ⟨att19_0_2⟩, ⟨att19_0_0⟩⟩
 case rest =>
  clear HC4
  try clear c1
  try clear c2
  try clear p2
  try clear c7
  try clear hcz6_0 hcz6_1 hcz6_2 hcz6_3 hcz6_4 hfz6_0 hfz6_1 hfz6_2 hfz6_3 hfz6_4
  obtain ⟨kq, x5_3, rfl, HA, HJ3, BK489, HB⟩ := hcut
  cases kq with
  | zero => exact absurd HA.out (by simp [impl_StepOk.j0])
  | succ kj3 =>
   have H := HA.out
   clear HA
   simp only [impl_StepOk.j0] at H
   have HC8 := Aside0.mk H
   clear H
   go_upto_region 4 with (fail)
   go_cut [37] (fun v37 wc => ∃ (kq : Nat) (x37_7 : Bool), v37 = .bool x37_7 ∧ Aside0 (impl_StepOk.j1 kq a1 x37_7 a0_0 a0_1 a0_2 a0_3 a0_4 = some r) ∧ Aside0 (kq ≤ kj3) ∧ Aside0 (wc.heap[gb489]? = some (.cells #[.int .i64 a0_0, .int .i64 a0_1, .int .i64 a0_2, .int .i64 a0_3, .int .i64 a0_4] 46 (0, 0))) ∧ Aside0 (Below w.heap.size w wc))
   case first =>
    have H := HC8.out
    clear HC8
    replace H := Option.bind_eq_some_iff.mp H
    obtain ⟨t491, A90, H⟩ := H
    (try dsimp only at H)
    have A9 := Aside0.mk A90
    clear A90
    by_cases c10 : t491 = true
    ·subst c10
     rw [if_pos rfl] at H
     replace H := Option.bind_eq_some_iff.mp H
     obtain ⟨⟨t492, t493, t494, t495, t496⟩, A110, H⟩ := H
     (try dsimp only at H)
     have A11 := Aside0.mk A110
     clear A110
     by_cases c12 : (!(a0_0 == t492) || (!(a0_1 == t493) || (!(a0_2 == t494) || (!(a0_3 == t495) || (!(a0_4 == t496)))))) = true
     ·rw [if_pos c12] at H
      have c12b0 : (!(a0_0 == t492) || (!(a0_1 == t493) || (!(a0_2 == t494) || (!(a0_3 == t495) || (!(a0_4 == t496)))))) = true := c12
      clear c12
      (first | rw [c12b0] | (simp only [i64_w, i32_w]; rw [c12b0]) | skip)
      have H' := Aside0.mk H
      clear H
      try go_wp2
      refine swap2_ (blk_drew BK489.out) (below_drew1 HB.out) ?_
      clear BK489 HB
      intro BK489 HB
      refine start_ (n := 29) (S := fun w' => w'.cell? ⟨gb489, 0, none⟩ = some (.int .i64 a0_0) ∧ w'.cell? ⟨gb489, 1, none⟩ = some (.int .i64 a0_1) ∧ w'.cell? ⟨gb489, 2, none⟩ = some (.int .i64 a0_2) ∧ w'.cell? ⟨gb489, 3, none⟩ = some (.int .i64 a0_3) ∧ w'.cell? ⟨gb489, 4, none⟩ = some (.int .i64 a0_4)) (ds := []) (tf_ 0 29) (by kernel_rfl) rfl rfl ⟨(blk_cell BK489.out 0).trans rfl, (blk_cell BK489.out 1).trans rfl, (blk_cell BK489.out 2).trans rfl, (blk_cell BK489.out 3).trans rfl, (blk_cell BK489.out 4).trans rfl⟩ (fun hHeld => ?_); refine with_tabW impl_StepOk.tab4 impl_StepOk.bits4 (fun HT_ HW_ => ?_)
      generalize wc.drew = w13 at BK489 HB hHeld ⊢
      refine pureQ_ (i := 0) (N := some 9) (tf_ 1 28) (h := ?_)
      refine takeQ_ (i := 1) (N := some 10) (tf_ 2 27) hHeld (hy := Or.inl ⟨by rfl, att19_0_3⟩) (h := ?_)
      refine one_ (i := 2) (N := some 11) (tf_ 3 26) rfl rfl (one_of HT_.out (by kernel_rfl)) (by decide) (fun K hK => ?_)
      refine goes_ Try.func117 (by kernel_rfl) rfl #[.int .i64 a0_0, .int .i64 1, .int .i64 13] (by rfl) rfl rfl atgM_ ?_
      with_reducible refine (impl_within.calls a0_0 1 13 true _ A9.out).mono ?_
      rintro e w' ⟨rfl, ⟨nd, rfl⟩⟩
      refine ⟨_, rfl, ?_⟩
      refine hK.out _ _ ⟨(blk_cell BK489.out 0).trans rfl, (blk_cell BK489.out 1).trans rfl, (blk_cell BK489.out 2).trans rfl, (blk_cell BK489.out 3).trans rfl, (blk_cell BK489.out 4).trans rfl⟩ (fun hHeld => ?_)
      clear hK K
      refine normS_ (N := some 11) (h := ?_)
      refine pureQ_ (i := 3) (N := some 12) (tf_ 4 25) (h := ?_)
      refine pureQ_ (i := 4) (N := some 13) (tf_ 5 24) (h := ?_)
      refine takeQ_ (i := 5) (N := some 14) (tf_ 6 23) hHeld (hy := Or.inl ⟨by rfl, att19_0_3⟩) (h := ?_)
      refine takeQ_ (i := 6) (N := some 15) (tf_ 7 22) hHeld (hy := Or.inl ⟨by rfl, att19_0_3⟩) (h := ?_)
      refine one_ (i := 7) (N := some 16) (tf_ 8 21) rfl rfl (one_of HT_.out (by kernel_rfl)) (by decide) (fun K hK => ?_)
      refine goes_ Try.func119 (by kernel_rfl) rfl #[.agg #[.int .i64 a0_0, .int .i64 a0_1, .int .i64 a0_2, .int .i64 a0_3, .int .i64 a0_4]] (by rfl) rfl rfl atgM_ ?_
      with_reducible refine (impl_stepNamed.calls kj3 a0_0 a0_1 a0_2 a0_3 a0_4 t492 t493 t494 t495 t496 _ A11.out).mono ?_
      rintro e w14 ⟨rfl, hb⟩
      refine ⟨_, rfl, ?_⟩
      refine swap2_ (blk_below (g := gb489) (o := .cells #[.int .i64 a0_0, .int .i64 a0_1, .int .i64 a0_2, .int .i64 a0_3, .int .i64 a0_4] 46 (0, 0)) att19_0_2 hb) (below_step att19_0_0 hb) ?_
      clear BK489 HB
      intro BK489 HB
      (try clear hb)
      (try clear hb2)
      (try clear hk)
      (try clear hi)
      refine hK.out _ _ ⟨(blk_cell BK489.out 0).trans rfl, (blk_cell BK489.out 1).trans rfl, (blk_cell BK489.out 2).trans rfl, (blk_cell BK489.out 3).trans rfl, (blk_cell BK489.out 4).trans rfl⟩ (fun hHeld => ?_)
      clear hK K
      refine normS_ (N := some 16) (h := ?_)
      refine pureQ_ (i := 8) (N := some 17) (tf_ 9 20) (h := ?_)
      refine pureQ_ (i := 9) (N := some 18) (tf_ 10 19) (h := ?_)
      refine pureQ_ (i := 10) (N := some 19) (tf_ 11 18) (h := ?_)
      refine offQ_ (i := 11) (N := some 20) (tf_ 12 17) (h := ?_)
      refine offQ_ (i := 12) (N := some 21) (tf_ 13 16) (h := ?_)
      refine offQ_ (i := 13) (N := some 22) (tf_ 14 15) (h := ?_)
      refine offQ_ (i := 14) (N := some 23) (tf_ 15 14) (h := ?_)
      refine pureQ_ (i := 15) (N := some 24) (tf_ 16 13) (h := ?_)
      refine pureQ_ (i := 16) (N := some 25) (tf_ 17 12) (h := ?_)
      refine offQ_ (i := 17) (N := some 26) (tf_ 18 11) (h := ?_)
      refine offQ_ (i := 18) (N := some 27) (tf_ 19 10) (h := ?_)
      refine offQ_ (i := 19) (N := some 28) (tf_ 20 9) (h := ?_)
      refine offQ_ (i := 20) (N := some 29) (tf_ 21 8) (h := ?_)
      refine offQ_ (i := 21) (N := some 30) (tf_ 22 7) (h := ?_)
      refine pureQ_ (i := 22) (N := some 31) (tf_ 23 6) (h := ?_)
      refine pureQ_ (i := 23) (N := some 32) (tf_ 24 5) (h := ?_)
      refine offQ_ (i := 24) (N := some 33) (tf_ 25 4) (h := ?_)
      refine offQ_ (i := 25) (N := some 34) (tf_ 26 3) (h := ?_)
      refine offQ_ (i := 26) (N := some 35) (tf_ 27 2) (h := ?_)
      refine offQ_ (i := 27) (N := some 36) (tf_ 28 1) (h := ?_)
      refine pureQ_ (i := 28) (N := some 37) (tf_ 29 0) (h := ?_)
      refine done_ (done_of HT_.out (by kernel_rfl)) ?_
      try go_wp2
      go_meet
      case rel => exact ⟨_, (true), atgR_, H', ⟨att19_0_7⟩, ⟨att19_0_2⟩, ⟨att19_0_0⟩⟩
     ·rw [if_neg c12] at H
      have c12b0 : (!(a0_0 == t492) || (!(a0_1 == t493) || (!(a0_2 == t494) || (!(a0_3 == t495) || (!(a0_4 == t496)))))) = false := by simpa using c12
      clear c12
      (first | rw [c12b0] | (simp only [i64_w, i32_w]; rw [c12b0]) | skip)
      replace H := Option.bind_eq_some_iff.mp H
      obtain ⟨t497, A150, H⟩ := H
      (try dsimp only at H)
      have A15 := Aside0.mk A150
      clear A150
      by_cases c16 : t497 = true
      ·subst c16
       rw [if_pos rfl] at H
       replace H := Option.bind_eq_some_iff.mp H
       obtain ⟨t498, A170, H⟩ := H
       (try dsimp only at H)
       have A17 := Aside0.mk A170
       clear A170
       by_cases c18 : t498 = true
       ·subst c18
        rw [if_pos rfl] at H
        replace H := Option.bind_eq_some_iff.mp H
        obtain ⟨t499, A190, H⟩ := H
        (try dsimp only at H)
        have A19 := Aside0.mk A190
        clear A190
        have H' := Aside0.mk H
        clear H
        try go_wp2
        refine swap2_ (blk_drew BK489.out) (below_drew1 HB.out) ?_
        clear BK489 HB
        intro BK489 HB
        refine start_ (n := 29) (S := fun w' => w'.cell? ⟨gb489, 0, none⟩ = some (.int .i64 a0_0) ∧ w'.cell? ⟨gb489, 1, none⟩ = some (.int .i64 a0_1) ∧ w'.cell? ⟨gb489, 2, none⟩ = some (.int .i64 a0_2) ∧ w'.cell? ⟨gb489, 3, none⟩ = some (.int .i64 a0_3) ∧ w'.cell? ⟨gb489, 4, none⟩ = some (.int .i64 a0_4)) (ds := []) (tf_ 0 29) (by kernel_rfl) rfl rfl ⟨(blk_cell BK489.out 0).trans rfl, (blk_cell BK489.out 1).trans rfl, (blk_cell BK489.out 2).trans rfl, (blk_cell BK489.out 3).trans rfl, (blk_cell BK489.out 4).trans rfl⟩ (fun hHeld => ?_); refine with_tabW impl_StepOk.tab4 impl_StepOk.bits4 (fun HT_ HW_ => ?_)
        generalize wc.drew = w20 at BK489 HB hHeld ⊢
        refine pureQ_ (i := 0) (N := some 9) (tf_ 1 28) (h := ?_)
        refine takeQ_ (i := 1) (N := some 10) (tf_ 2 27) hHeld (hy := Or.inl ⟨by rfl, att19_0_3⟩) (h := ?_)
        refine one_ (i := 2) (N := some 11) (tf_ 3 26) rfl rfl (one_of HT_.out (by kernel_rfl)) (by decide) (fun K hK => ?_)
        refine goes_ Try.func117 (by kernel_rfl) rfl #[.int .i64 a0_0, .int .i64 1, .int .i64 13] (by rfl) rfl rfl atgM_ ?_
        with_reducible refine (impl_within.calls a0_0 1 13 true _ A9.out).mono ?_
        rintro e w' ⟨rfl, ⟨nd, rfl⟩⟩
        refine ⟨_, rfl, ?_⟩
        refine hK.out _ _ ⟨(blk_cell BK489.out 0).trans rfl, (blk_cell BK489.out 1).trans rfl, (blk_cell BK489.out 2).trans rfl, (blk_cell BK489.out 3).trans rfl, (blk_cell BK489.out 4).trans rfl⟩ (fun hHeld => ?_)
        clear hK K
        refine normS_ (N := some 11) (h := ?_)
        refine pureQ_ (i := 3) (N := some 12) (tf_ 4 25) (h := ?_)
        refine pureQ_ (i := 4) (N := some 13) (tf_ 5 24) (h := ?_)
        refine takeQ_ (i := 5) (N := some 14) (tf_ 6 23) hHeld (hy := Or.inl ⟨by rfl, att19_0_3⟩) (h := ?_)
        refine takeQ_ (i := 6) (N := some 15) (tf_ 7 22) hHeld (hy := Or.inl ⟨by rfl, att19_0_3⟩) (h := ?_)
        refine one_ (i := 7) (N := some 16) (tf_ 8 21) rfl rfl (one_of HT_.out (by kernel_rfl)) (by decide) (fun K hK => ?_)
        refine goes_ Try.func119 (by kernel_rfl) rfl #[.agg #[.int .i64 a0_0, .int .i64 a0_1, .int .i64 a0_2, .int .i64 a0_3, .int .i64 a0_4]] (by rfl) rfl rfl atgM_ ?_
        with_reducible refine (impl_stepNamed.calls kj3 a0_0 a0_1 a0_2 a0_3 a0_4 t492 t493 t494 t495 t496 _ A11.out).mono ?_
        rintro e w21 ⟨rfl, hb⟩
        refine ⟨_, rfl, ?_⟩
        refine swap2_ (blk_below (g := gb489) (o := .cells #[.int .i64 a0_0, .int .i64 a0_1, .int .i64 a0_2, .int .i64 a0_3, .int .i64 a0_4] 46 (0, 0)) att19_0_2 hb) (below_step att19_0_0 hb) ?_
        clear BK489 HB
        intro BK489 HB
        (try clear hb)
        (try clear hb2)
        (try clear hk)
        (try clear hi)
        refine hK.out _ _ ⟨(blk_cell BK489.out 0).trans rfl, (blk_cell BK489.out 1).trans rfl, (blk_cell BK489.out 2).trans rfl, (blk_cell BK489.out 3).trans rfl, (blk_cell BK489.out 4).trans rfl⟩ (fun hHeld => ?_)
        clear hK K
        refine normS_ (N := some 16) (h := ?_)
        refine pureQ_ (i := 8) (N := some 17) (tf_ 9 20) (h := ?_)
        refine pureQ_ (i := 9) (N := some 18) (tf_ 10 19) (h := ?_)
        refine pureQ_ (i := 10) (N := some 19) (tf_ 11 18) (h := ?_)
        refine pureQ_ (i := 11) (N := some 20) (tf_ 12 17) (h := ?_)
        refine takeQ_ (i := 12) (N := some 21) (tf_ 13 16) hHeld (hy := Or.inl ⟨by rfl, att19_0_3⟩) (h := ?_)
        refine one_ (i := 13) (N := some 22) (tf_ 14 15) rfl rfl (one_of HT_.out (by kernel_rfl)) (by decide) (fun K hK => ?_)
        refine goes_ Try.func117 (by kernel_rfl) rfl #[.int .i64 a0_1, .int .i64 0, .int .i64 7] (by rfl) rfl rfl atgM_ ?_
        with_reducible refine (impl_within.calls a0_1 0 7 true _ A15.out).mono ?_
        rintro e w' ⟨rfl, ⟨nd, rfl⟩⟩
        refine ⟨_, rfl, ?_⟩
        refine hK.out _ _ ⟨(blk_cell BK489.out 0).trans rfl, (blk_cell BK489.out 1).trans rfl, (blk_cell BK489.out 2).trans rfl, (blk_cell BK489.out 3).trans rfl, (blk_cell BK489.out 4).trans rfl⟩ (fun hHeld => ?_)
        clear hK K
        refine normS_ (N := some 22) (h := ?_)
        refine pureQ_ (i := 14) (N := some 23) (tf_ 15 14) (h := ?_)
        refine pureQ_ (i := 15) (N := some 24) (tf_ 16 13) (h := ?_)
        refine pureQ_ (i := 16) (N := some 25) (tf_ 17 12) (h := ?_)
        refine pureQ_ (i := 17) (N := some 26) (tf_ 18 11) (h := ?_)
        refine pureQ_ (i := 19) (N := some 28) #[true, true, true, true, true, true, true, true, true, true, true, true, true, true, true, true, true, true, false, true, false, false, false, false, false, false, false, false, false] (h := ?_)
        refine takeQ_ (i := 18) (N := some 27) (tf_ 20 9) hHeld (hy := Or.inl ⟨by rfl, att19_0_3⟩) (h := ?_)
        refine one_ (i := 20) (N := some 29) (tf_ 21 8) rfl rfl (one_of HT_.out (by kernel_rfl)) (by decide) (fun K hK => ?_)
        refine goes_ Try.func117 (by kernel_rfl) rfl #[.int .i64 a0_2, .int .i64 x5_3, .int .i64 7] (by rfl) rfl rfl atgM_ ?_
        with_reducible refine (impl_within.calls a0_2 x5_3 7 true _ A17.out).mono ?_
        rintro e w' ⟨rfl, ⟨nd, rfl⟩⟩
        refine ⟨_, rfl, ?_⟩
        refine hK.out _ _ ⟨(blk_cell BK489.out 0).trans rfl, (blk_cell BK489.out 1).trans rfl, (blk_cell BK489.out 2).trans rfl, (blk_cell BK489.out 3).trans rfl, (blk_cell BK489.out 4).trans rfl⟩ (fun hHeld => ?_)
        clear hK K
        refine normS_ (N := some 29) (h := ?_)
        refine pureQ_ (i := 21) (N := some 30) (tf_ 22 7) (h := ?_)
        refine pureQ_ (i := 22) (N := some 31) (tf_ 23 6) (h := ?_)
        refine pureQ_ (i := 23) (N := some 32) (tf_ 24 5) (h := ?_)
        refine pureQ_ (i := 24) (N := some 33) (tf_ 25 4) (h := ?_)
        refine takeQ_ (i := 25) (N := some 34) (tf_ 26 3) hHeld (hy := Or.inl ⟨by rfl, att19_0_3⟩) (h := ?_)
        refine one_ (i := 26) (N := some 35) (tf_ 27 2) rfl rfl (one_of HT_.out (by kernel_rfl)) (by decide) (fun K hK => ?_)
        refine goes_ Try.func117 (by kernel_rfl) rfl #[.int .i64 a0_3, .int .i64 0, .int .i64 7] (by rfl) rfl rfl atgM_ ?_
        with_reducible refine (impl_within.calls a0_3 0 7 t499 _ A19.out).mono ?_
        rintro e w' ⟨rfl, ⟨nd, rfl⟩⟩
        refine ⟨_, rfl, ?_⟩
        refine hK.out _ _ ⟨(blk_cell BK489.out 0).trans rfl, (blk_cell BK489.out 1).trans rfl, (blk_cell BK489.out 2).trans rfl, (blk_cell BK489.out 3).trans rfl, (blk_cell BK489.out 4).trans rfl⟩ (fun hHeld => ?_)
        clear hK K
        refine normS_ (N := some 35) (h := ?_)
        refine pureQ_ (i := 27) (N := some 36) (tf_ 28 1) (h := ?_)
        refine pureQ_ (i := 28) (N := some 37) (tf_ 29 0) (h := ?_)
        refine done_ (done_of HT_.out (by kernel_rfl)) ?_
        try go_wp2
        go_meet
        case rel => exact ⟨_, (!t499), atgR_, H', ⟨att19_0_7⟩, ⟨att19_0_2⟩, ⟨att19_0_0⟩⟩
       ·replace c18 := Bool.eq_false_iff.mpr c18
        subst c18
        rw [if_neg (show ¬ (false = true) by decide)] at H
        have H' := Aside0.mk H
        clear H
        try go_wp2
        refine swap2_ (blk_drew BK489.out) (below_drew1 HB.out) ?_
        clear BK489 HB
        intro BK489 HB
        refine start_ (n := 29) (S := fun w' => w'.cell? ⟨gb489, 0, none⟩ = some (.int .i64 a0_0) ∧ w'.cell? ⟨gb489, 1, none⟩ = some (.int .i64 a0_1) ∧ w'.cell? ⟨gb489, 2, none⟩ = some (.int .i64 a0_2) ∧ w'.cell? ⟨gb489, 3, none⟩ = some (.int .i64 a0_3) ∧ w'.cell? ⟨gb489, 4, none⟩ = some (.int .i64 a0_4)) (ds := []) (tf_ 0 29) (by kernel_rfl) rfl rfl ⟨(blk_cell BK489.out 0).trans rfl, (blk_cell BK489.out 1).trans rfl, (blk_cell BK489.out 2).trans rfl, (blk_cell BK489.out 3).trans rfl, (blk_cell BK489.out 4).trans rfl⟩ (fun hHeld => ?_); refine with_tabW impl_StepOk.tab4 impl_StepOk.bits4 (fun HT_ HW_ => ?_)
        generalize wc.drew = w22 at BK489 HB hHeld ⊢
        refine pureQ_ (i := 0) (N := some 9) (tf_ 1 28) (h := ?_)
        refine takeQ_ (i := 1) (N := some 10) (tf_ 2 27) hHeld (hy := Or.inl ⟨by rfl, att19_0_3⟩) (h := ?_)
        refine one_ (i := 2) (N := some 11) (tf_ 3 26) rfl rfl (one_of HT_.out (by kernel_rfl)) (by decide) (fun K hK => ?_)
        refine goes_ Try.func117 (by kernel_rfl) rfl #[.int .i64 a0_0, .int .i64 1, .int .i64 13] (by rfl) rfl rfl atgM_ ?_
        with_reducible refine (impl_within.calls a0_0 1 13 true _ A9.out).mono ?_
        rintro e w' ⟨rfl, ⟨nd, rfl⟩⟩
        refine ⟨_, rfl, ?_⟩
        refine hK.out _ _ ⟨(blk_cell BK489.out 0).trans rfl, (blk_cell BK489.out 1).trans rfl, (blk_cell BK489.out 2).trans rfl, (blk_cell BK489.out 3).trans rfl, (blk_cell BK489.out 4).trans rfl⟩ (fun hHeld => ?_)
        clear hK K
        refine normS_ (N := some 11) (h := ?_)
        refine pureQ_ (i := 3) (N := some 12) (tf_ 4 25) (h := ?_)
        refine pureQ_ (i := 4) (N := some 13) (tf_ 5 24) (h := ?_)
        refine takeQ_ (i := 5) (N := some 14) (tf_ 6 23) hHeld (hy := Or.inl ⟨by rfl, att19_0_3⟩) (h := ?_)
        refine takeQ_ (i := 6) (N := some 15) (tf_ 7 22) hHeld (hy := Or.inl ⟨by rfl, att19_0_3⟩) (h := ?_)
        refine one_ (i := 7) (N := some 16) (tf_ 8 21) rfl rfl (one_of HT_.out (by kernel_rfl)) (by decide) (fun K hK => ?_)
        refine goes_ Try.func119 (by kernel_rfl) rfl #[.agg #[.int .i64 a0_0, .int .i64 a0_1, .int .i64 a0_2, .int .i64 a0_3, .int .i64 a0_4]] (by rfl) rfl rfl atgM_ ?_
        with_reducible refine (impl_stepNamed.calls kj3 a0_0 a0_1 a0_2 a0_3 a0_4 t492 t493 t494 t495 t496 _ A11.out).mono ?_
        rintro e w23 ⟨rfl, hb⟩
        refine ⟨_, rfl, ?_⟩
        refine swap2_ (blk_below (g := gb489) (o := .cells #[.int .i64 a0_0, .int .i64 a0_1, .int .i64 a0_2, .int .i64 a0_3, .int .i64 a0_4] 46 (0, 0)) att19_0_2 hb) (below_step att19_0_0 hb) ?_
        clear BK489 HB
        intro BK489 HB
        (try clear hb)
        (try clear hb2)
        (try clear hk)
        (try clear hi)
        refine hK.out _ _ ⟨(blk_cell BK489.out 0).trans rfl, (blk_cell BK489.out 1).trans rfl, (blk_cell BK489.out 2).trans rfl, (blk_cell BK489.out 3).trans rfl, (blk_cell BK489.out 4).trans rfl⟩ (fun hHeld => ?_)
        clear hK K
        refine normS_ (N := some 16) (h := ?_)
        refine pureQ_ (i := 8) (N := some 17) (tf_ 9 20) (h := ?_)
        refine pureQ_ (i := 9) (N := some 18) (tf_ 10 19) (h := ?_)
        refine pureQ_ (i := 10) (N := some 19) (tf_ 11 18) (h := ?_)
        refine pureQ_ (i := 11) (N := some 20) (tf_ 12 17) (h := ?_)
        refine takeQ_ (i := 12) (N := some 21) (tf_ 13 16) hHeld (hy := Or.inl ⟨by rfl, att19_0_3⟩) (h := ?_)
        refine one_ (i := 13) (N := some 22) (tf_ 14 15) rfl rfl (one_of HT_.out (by kernel_rfl)) (by decide) (fun K hK => ?_)
        refine goes_ Try.func117 (by kernel_rfl) rfl #[.int .i64 a0_1, .int .i64 0, .int .i64 7] (by rfl) rfl rfl atgM_ ?_
        with_reducible refine (impl_within.calls a0_1 0 7 true _ A15.out).mono ?_
        rintro e w' ⟨rfl, ⟨nd, rfl⟩⟩
        refine ⟨_, rfl, ?_⟩
        refine hK.out _ _ ⟨(blk_cell BK489.out 0).trans rfl, (blk_cell BK489.out 1).trans rfl, (blk_cell BK489.out 2).trans rfl, (blk_cell BK489.out 3).trans rfl, (blk_cell BK489.out 4).trans rfl⟩ (fun hHeld => ?_)
        clear hK K
        refine normS_ (N := some 22) (h := ?_)
        refine pureQ_ (i := 14) (N := some 23) (tf_ 15 14) (h := ?_)
        refine pureQ_ (i := 15) (N := some 24) (tf_ 16 13) (h := ?_)
        refine pureQ_ (i := 16) (N := some 25) (tf_ 17 12) (h := ?_)
        refine pureQ_ (i := 17) (N := some 26) (tf_ 18 11) (h := ?_)
        refine pureQ_ (i := 19) (N := some 28) #[true, true, true, true, true, true, true, true, true, true, true, true, true, true, true, true, true, true, false, true, false, false, false, false, false, false, false, false, false] (h := ?_)
        refine takeQ_ (i := 18) (N := some 27) (tf_ 20 9) hHeld (hy := Or.inl ⟨by rfl, att19_0_3⟩) (h := ?_)
        refine one_ (i := 20) (N := some 29) (tf_ 21 8) rfl rfl (one_of HT_.out (by kernel_rfl)) (by decide) (fun K hK => ?_)
        refine goes_ Try.func117 (by kernel_rfl) rfl #[.int .i64 a0_2, .int .i64 x5_3, .int .i64 7] (by rfl) rfl rfl atgM_ ?_
        with_reducible refine (impl_within.calls a0_2 x5_3 7 false _ A17.out).mono ?_
        rintro e w' ⟨rfl, ⟨nd, rfl⟩⟩
        refine ⟨_, rfl, ?_⟩
        refine hK.out _ _ ⟨(blk_cell BK489.out 0).trans rfl, (blk_cell BK489.out 1).trans rfl, (blk_cell BK489.out 2).trans rfl, (blk_cell BK489.out 3).trans rfl, (blk_cell BK489.out 4).trans rfl⟩ (fun hHeld => ?_)
        clear hK K
        refine normS_ (N := some 29) (h := ?_)
        refine pureQ_ (i := 21) (N := some 30) (tf_ 22 7) (h := ?_)
        refine pureQ_ (i := 22) (N := some 31) (tf_ 23 6) (h := ?_)
        refine pureQ_ (i := 23) (N := some 32) (tf_ 24 5) (h := ?_)
        refine offQ_ (i := 24) (N := some 33) (tf_ 25 4) (h := ?_)
        refine offQ_ (i := 25) (N := some 34) (tf_ 26 3) (h := ?_)
        refine offQ_ (i := 26) (N := some 35) (tf_ 27 2) (h := ?_)
        refine offQ_ (i := 27) (N := some 36) (tf_ 28 1) (h := ?_)
        refine pureQ_ (i := 28) (N := some 37) (tf_ 29 0) (h := ?_)
        refine done_ (done_of HT_.out (by kernel_rfl)) ?_
        try go_wp2
        go_meet
        case rel => exact ⟨_, (true), atgR_, H', ⟨att19_0_7⟩, ⟨att19_0_2⟩, ⟨att19_0_0⟩⟩
      ·replace c16 := Bool.eq_false_iff.mpr c16
       subst c16
       rw [if_neg (show ¬ (false = true) by decide)] at H
       have H' := Aside0.mk H
       clear H
       try go_wp2
       refine swap2_ (blk_drew BK489.out) (below_drew1 HB.out) ?_
       clear BK489 HB
       intro BK489 HB
       refine start_ (n := 29) (S := fun w' => w'.cell? ⟨gb489, 0, none⟩ = some (.int .i64 a0_0) ∧ w'.cell? ⟨gb489, 1, none⟩ = some (.int .i64 a0_1) ∧ w'.cell? ⟨gb489, 2, none⟩ = some (.int .i64 a0_2) ∧ w'.cell? ⟨gb489, 3, none⟩ = some (.int .i64 a0_3) ∧ w'.cell? ⟨gb489, 4, none⟩ = some (.int .i64 a0_4)) (ds := []) (tf_ 0 29) (by kernel_rfl) rfl rfl ⟨(blk_cell BK489.out 0).trans rfl, (blk_cell BK489.out 1).trans rfl, (blk_cell BK489.out 2).trans rfl, (blk_cell BK489.out 3).trans rfl, (blk_cell BK489.out 4).trans rfl⟩ (fun hHeld => ?_); refine with_tabW impl_StepOk.tab4 impl_StepOk.bits4 (fun HT_ HW_ => ?_)
       generalize wc.drew = w24 at BK489 HB hHeld ⊢
       refine pureQ_ (i := 0) (N := some 9) (tf_ 1 28) (h := ?_)
       refine takeQ_ (i := 1) (N := some 10) (tf_ 2 27) hHeld (hy := Or.inl ⟨by rfl, att19_0_3⟩) (h := ?_)
       refine one_ (i := 2) (N := some 11) (tf_ 3 26) rfl rfl (one_of HT_.out (by kernel_rfl)) (by decide) (fun K hK => ?_)
       refine goes_ Try.func117 (by kernel_rfl) rfl #[.int .i64 a0_0, .int .i64 1, .int .i64 13] (by rfl) rfl rfl atgM_ ?_
       with_reducible refine (impl_within.calls a0_0 1 13 true _ A9.out).mono ?_
       rintro e w' ⟨rfl, ⟨nd, rfl⟩⟩
       refine ⟨_, rfl, ?_⟩
       refine hK.out _ _ ⟨(blk_cell BK489.out 0).trans rfl, (blk_cell BK489.out 1).trans rfl, (blk_cell BK489.out 2).trans rfl, (blk_cell BK489.out 3).trans rfl, (blk_cell BK489.out 4).trans rfl⟩ (fun hHeld => ?_)
       clear hK K
       refine normS_ (N := some 11) (h := ?_)
       refine pureQ_ (i := 3) (N := some 12) (tf_ 4 25) (h := ?_)
       refine pureQ_ (i := 4) (N := some 13) (tf_ 5 24) (h := ?_)
       refine takeQ_ (i := 5) (N := some 14) (tf_ 6 23) hHeld (hy := Or.inl ⟨by rfl, att19_0_3⟩) (h := ?_)
       refine takeQ_ (i := 6) (N := some 15) (tf_ 7 22) hHeld (hy := Or.inl ⟨by rfl, att19_0_3⟩) (h := ?_)
       refine one_ (i := 7) (N := some 16) (tf_ 8 21) rfl rfl (one_of HT_.out (by kernel_rfl)) (by decide) (fun K hK => ?_)
       refine goes_ Try.func119 (by kernel_rfl) rfl #[.agg #[.int .i64 a0_0, .int .i64 a0_1, .int .i64 a0_2, .int .i64 a0_3, .int .i64 a0_4]] (by rfl) rfl rfl atgM_ ?_
       with_reducible refine (impl_stepNamed.calls kj3 a0_0 a0_1 a0_2 a0_3 a0_4 t492 t493 t494 t495 t496 _ A11.out).mono ?_
       rintro e w25 ⟨rfl, hb⟩
       refine ⟨_, rfl, ?_⟩
       refine swap2_ (blk_below (g := gb489) (o := .cells #[.int .i64 a0_0, .int .i64 a0_1, .int .i64 a0_2, .int .i64 a0_3, .int .i64 a0_4] 46 (0, 0)) att19_0_2 hb) (below_step att19_0_0 hb) ?_
       clear BK489 HB
       intro BK489 HB
       (try clear hb)
       (try clear hb2)
       (try clear hk)
       (try clear hi)
       refine hK.out _ _ ⟨(blk_cell BK489.out 0).trans rfl, (blk_cell BK489.out 1).trans rfl, (blk_cell BK489.out 2).trans rfl, (blk_cell BK489.out 3).trans rfl, (blk_cell BK489.out 4).trans rfl⟩ (fun hHeld => ?_)
       clear hK K
       refine normS_ (N := some 16) (h := ?_)
       refine pureQ_ (i := 8) (N := some 17) (tf_ 9 20) (h := ?_)
       refine pureQ_ (i := 9) (N := some 18) (tf_ 10 19) (h := ?_)
       refine pureQ_ (i := 10) (N := some 19) (tf_ 11 18) (h := ?_)
       refine pureQ_ (i := 11) (N := some 20) (tf_ 12 17) (h := ?_)
       refine takeQ_ (i := 12) (N := some 21) (tf_ 13 16) hHeld (hy := Or.inl ⟨by rfl, att19_0_3⟩) (h := ?_)
       refine one_ (i := 13) (N := some 22) (tf_ 14 15) rfl rfl (one_of HT_.out (by kernel_rfl)) (by decide) (fun K hK => ?_)
       refine goes_ Try.func117 (by kernel_rfl) rfl #[.int .i64 a0_1, .int .i64 0, .int .i64 7] (by rfl) rfl rfl atgM_ ?_
       with_reducible refine (impl_within.calls a0_1 0 7 false _ A15.out).mono ?_
       rintro e w' ⟨rfl, ⟨nd, rfl⟩⟩
       refine ⟨_, rfl, ?_⟩
       refine hK.out _ _ ⟨(blk_cell BK489.out 0).trans rfl, (blk_cell BK489.out 1).trans rfl, (blk_cell BK489.out 2).trans rfl, (blk_cell BK489.out 3).trans rfl, (blk_cell BK489.out 4).trans rfl⟩ (fun hHeld => ?_)
       clear hK K
       refine normS_ (N := some 22) (h := ?_)
       refine pureQ_ (i := 14) (N := some 23) (tf_ 15 14) (h := ?_)
       refine pureQ_ (i := 15) (N := some 24) (tf_ 16 13) (h := ?_)
       refine pureQ_ (i := 16) (N := some 25) (tf_ 17 12) (h := ?_)
       refine offQ_ (i := 17) (N := some 26) (tf_ 18 11) (h := ?_)
       refine offQ_ (i := 18) (N := some 27) (tf_ 19 10) (h := ?_)
       refine offQ_ (i := 19) (N := some 28) (tf_ 20 9) (h := ?_)
       refine offQ_ (i := 20) (N := some 29) (tf_ 21 8) (h := ?_)
       refine offQ_ (i := 21) (N := some 30) (tf_ 22 7) (h := ?_)
       refine pureQ_ (i := 22) (N := some 31) (tf_ 23 6) (h := ?_)
       refine pureQ_ (i := 23) (N := some 32) (tf_ 24 5) (h := ?_)
       refine offQ_ (i := 24) (N := some 33) (tf_ 25 4) (h := ?_)
       refine offQ_ (i := 25) (N := some 34) (tf_ 26 3) (h := ?_)
       refine offQ_ (i := 26) (N := some 35) (tf_ 27 2) (h := ?_)
       refine offQ_ (i := 27) (N := some 36) (tf_ 28 1) (h := ?_)
       refine pureQ_ (i := 28) (N := some 37) (tf_ 29 0) (h := ?_)
       refine done_ (done_of HT_.out (by kernel_rfl)) ?_
       try go_wp2
       go_meet
       case rel => exact ⟨_, (true), atgR_, H', ⟨att19_0_7⟩, ⟨att19_0_2⟩, ⟨att19_0_0⟩⟩
    ·replace c10 := Bool.eq_false_iff.mpr c10
     subst c10
     rw [if_neg (show ¬ (false = true) by decide)] at H
     have H' := Aside0.mk H
     clear H
     try go_wp2
     refine swap2_ (blk_drew BK489.out) (below_drew1 HB.out) ?_
     clear BK489 HB
     intro BK489 HB
     refine start_ (n := 29) (S := fun w' => w'.cell? ⟨gb489, 0, none⟩ = some (.int .i64 a0_0) ∧ w'.cell? ⟨gb489, 1, none⟩ = some (.int .i64 a0_1) ∧ w'.cell? ⟨gb489, 2, none⟩ = some (.int .i64 a0_2) ∧ w'.cell? ⟨gb489, 3, none⟩ = some (.int .i64 a0_3) ∧ w'.cell? ⟨gb489, 4, none⟩ = some (.int .i64 a0_4)) (ds := []) (tf_ 0 29) (by kernel_rfl) rfl rfl ⟨(blk_cell BK489.out 0).trans rfl, (blk_cell BK489.out 1).trans rfl, (blk_cell BK489.out 2).trans rfl, (blk_cell BK489.out 3).trans rfl, (blk_cell BK489.out 4).trans rfl⟩ (fun hHeld => ?_); refine with_tabW impl_StepOk.tab4 impl_StepOk.bits4 (fun HT_ HW_ => ?_)
     generalize wc.drew = w26 at BK489 HB hHeld ⊢
     refine pureQ_ (i := 0) (N := some 9) (tf_ 1 28) (h := ?_)
     refine takeQ_ (i := 1) (N := some 10) (tf_ 2 27) hHeld (hy := Or.inl ⟨by rfl, att19_0_3⟩) (h := ?_)
     refine one_ (i := 2) (N := some 11) (tf_ 3 26) rfl rfl (one_of HT_.out (by kernel_rfl)) (by decide) (fun K hK => ?_)
     refine goes_ Try.func117 (by kernel_rfl) rfl #[.int .i64 a0_0, .int .i64 1, .int .i64 13] (by rfl) rfl rfl atgM_ ?_
     with_reducible refine (impl_within.calls a0_0 1 13 false _ A9.out).mono ?_
     rintro e w' ⟨rfl, ⟨nd, rfl⟩⟩
     refine ⟨_, rfl, ?_⟩
     refine hK.out _ _ ⟨(blk_cell BK489.out 0).trans rfl, (blk_cell BK489.out 1).trans rfl, (blk_cell BK489.out 2).trans rfl, (blk_cell BK489.out 3).trans rfl, (blk_cell BK489.out 4).trans rfl⟩ (fun hHeld => ?_)
     clear hK K
     refine normS_ (N := some 11) (h := ?_)
     refine pureQ_ (i := 3) (N := some 12) (tf_ 4 25) (h := ?_)
     refine pureQ_ (i := 4) (N := some 13) (tf_ 5 24) (h := ?_)
     refine offQ_ (i := 5) (N := some 14) (tf_ 6 23) (h := ?_)
     refine offQ_ (i := 6) (N := some 15) (tf_ 7 22) (h := ?_)
     refine offQ_ (i := 7) (N := some 16) (tf_ 8 21) (h := ?_)
     refine offQ_ (i := 8) (N := some 17) (tf_ 9 20) (h := ?_)
     refine pureQ_ (i := 9) (N := some 18) (tf_ 10 19) (h := ?_)
     refine pureQ_ (i := 10) (N := some 19) (tf_ 11 18) (h := ?_)
     refine offQ_ (i := 11) (N := some 20) (tf_ 12 17) (h := ?_)
     refine offQ_ (i := 12) (N := some 21) (tf_ 13 16) (h := ?_)
     refine offQ_ (i := 13) (N := some 22) (tf_ 14 15) (h := ?_)
     refine offQ_ (i := 14) (N := some 23) (tf_ 15 14) (h := ?_)
     refine pureQ_ (i := 15) (N := some 24) (tf_ 16 13) (h := ?_)
     refine pureQ_ (i := 16) (N := some 25) (tf_ 17 12) (h := ?_)
     refine offQ_ (i := 17) (N := some 26) (tf_ 18 11) (h := ?_)
     refine offQ_ (i := 18) (N := some 27) (tf_ 19 10) (h := ?_)
     refine offQ_ (i := 19) (N := some 28) (tf_ 20 9) (h := ?_)
     refine offQ_ (i := 20) (N := some 29) (tf_ 21 8) (h := ?_)
     refine offQ_ (i := 21) (N := some 30) (tf_ 22 7) (h := ?_)
     refine pureQ_ (i := 22) (N := some 31) (tf_ 23 6) (h := ?_)
     refine pureQ_ (i := 23) (N := some 32) (tf_ 24 5) (h := ?_)
     refine offQ_ (i := 24) (N := some 33) (tf_ 25 4) (h := ?_)
     refine offQ_ (i := 25) (N := some 34) (tf_ 26 3) (h := ?_)
     refine offQ_ (i := 26) (N := some 35) (tf_ 27 2) (h := ?_)
     refine offQ_ (i := 27) (N := some 36) (tf_ 28 1) (h := ?_)
     refine pureQ_ (i := 28) (N := some 37) (tf_ 29 0) (h := ?_)
     refine done_ (done_of HT_.out (by kernel_rfl)) ?_
     try go_wp2
     go_meet
     case rel => exact ⟨_, (true), atgR_, H', ⟨att19_0_7⟩, ⟨att19_0_2⟩, ⟨att19_0_0⟩⟩
   case rest =>
    clear HC8
    try clear c1
    try clear p2
    try clear c10
    try clear c11
    try clear c16
    obtain ⟨kq, x37_7, rfl, HA, HJ7, BK489, HB⟩ := hcut
    cases kq with
    | zero => exact absurd HA.out (by simp [impl_StepOk.j1])
    | succ kj7 =>
     have H := HA.out
     clear HA
     simp only [impl_StepOk.j1] at H
     by_cases c27 : x37_7 = true
     ·subst c27
      rw [if_pos rfl] at H
      obtain rfl := Option.some.inj H
      go_wp2
      go_ret
      exact ⟨retT_, att19_0_0⟩
     ·replace c27 := Bool.eq_false_iff.mpr c27
      subst c27
      rw [if_neg (show ¬ (false = true) by decide)] at H
      by_cases c28 : a0_0 = 1
      ·rw [if_pos c28] at H
       have c28b0 := beq_iff_eq.mpr c28
       have c28b1 := bne_eq_false_iff_eq.mpr c28
       clear c28
       replace H := Option.bind_eq_some_iff.mp H
       obtain ⟨t500, A290, H⟩ := H
       (try dsimp only at H)
       have A29 := Aside0.mk A290
       clear A290
       obtain rfl := Option.some.inj H
       obtain ⟨hcz30_0, hcz30_1, hcz30_2, hcz30_3, hcz30_4, hfz30_0, hfz30_1, hfz30_2, hfz30_3, hfz30_4⟩ := blkB5_ BK489
       go_wp2_with (first | ((with_reducible refine gate_callee (f := 117) rfl ?_); refine goesL_ (some 44) rfl rfl Try.func117 (by kernel_rfl) rfl #[.int .i64 a0_4, .int .i64 (-1000000000), .int .i64 1000000000] rfl atgM_ ?_; (with_reducible refine (impl_within.calls a0_4 (-1000000000) 1000000000 t500 _ A29.out).mono ?_); rintro e w' ⟨rfl, ⟨nd, rfl⟩⟩; refine ⟨_, rfl, ?_⟩))
       go_ret
       exact ⟨retT_, att19_0_0⟩
      ·rw [if_neg c28] at H
       have c28b0 := beq_eq_false_iff_ne.mpr c28
       have c28b1 := bne_iff_ne.mpr c28
       have HC31 := Aside0.mk H
       clear H
       obtain ⟨hcz32_0, hcz32_1, hcz32_2, hcz32_3, hcz32_4, hfz32_0, hfz32_1, hfz32_2, hfz32_3, hfz32_4⟩ := blkB5_ BK489
       go_upto_if 45 with (fail)
       go_cut [45] (fun v45 wc => ∃ (kq : Nat) (x45_30 : Bool), v45 = .bool x45_30 ∧ Aside0 (impl_StepOk.j2 kq a1 a0_0 x45_30 a0_0 a0_1 a0_2 a0_3 a0_4 = some r) ∧ Aside0 (kq ≤ kj7) ∧ Aside0 (wc.heap[gb489]? = some (.cells #[.int .i64 a0_0, .int .i64 a0_1, .int .i64 a0_2, .int .i64 a0_3, .int .i64 a0_4] 46 (0, 0))) ∧ Aside0 (Below w.heap.size w wc))
       case first =>
        have H := HC31.out
        clear HC31
        by_cases c33 : a0_0 = 5
        ·rw [if_pos c33] at H
         have c33b0 := beq_iff_eq.mpr c33
         have c33b1 := bne_eq_false_iff_eq.mpr c33
         clear c33
         (first | rw [c33b0] | (simp only [i64_w, i32_w]; rw [c33b0]) | skip)
         have H' := Aside0.mk H
         clear H
         go_wp2
         go_meet
         case rel => exact ⟨_, ((a0_0 == 5)), atgR_, H', ⟨att19_0_6⟩, ⟨att19_0_2⟩, ⟨att19_0_0⟩⟩
        ·rw [if_neg c33] at H
         have c33b0 := beq_eq_false_iff_ne.mpr c33
         have c33b1 := bne_iff_ne.mpr c33
         (first | rw [c33b0] | (simp only [i64_w, i32_w]; rw [c33b0]) | skip)
         by_cases c34 : a0_0 = 6
         ·rw [if_pos c34] at H
          have c34b0 := beq_iff_eq.mpr c34
          have c34b1 := bne_eq_false_iff_eq.mpr c34
          clear c34
          have H' := Aside0.mk H
          clear H
          go_wp2
          go_meet
          case rel => exact ⟨_, ((a0_0 == 6)), atgR_, H', ⟨att19_0_6⟩, ⟨att19_0_2⟩, ⟨att19_0_0⟩⟩
         ·rw [if_neg c34] at H
          have c34b0 := beq_eq_false_iff_ne.mpr c34
          have c34b1 := bne_iff_ne.mpr c34
          by_cases c35 : a0_0 = 7
          ·rw [if_pos c35] at H
           have c35b0 := beq_iff_eq.mpr c35
           have c35b1 := bne_eq_false_iff_eq.mpr c35
           clear c35
           have H' := Aside0.mk H
           clear H
           go_wp2
           go_meet
           case rel => exact ⟨_, ((a0_0 == 7)), atgR_, H', ⟨att19_0_6⟩, ⟨att19_0_2⟩, ⟨att19_0_0⟩⟩
          ·rw [if_neg c35] at H
           have c35b0 := beq_eq_false_iff_ne.mpr c35
           have c35b1 := bne_iff_ne.mpr c35
           have H' := Aside0.mk H
           clear H
           go_wp2
           go_meet
           case rel => exact ⟨_, ((a0_0 == 8)), atgR_, H', ⟨att19_0_6⟩, ⟨att19_0_2⟩, ⟨att19_0_0⟩⟩
       case rest =>
        clear HC31
        try clear c1
        try clear c2
        try clear p2
        try clear c3
        try clear c10
        try clear c11
        try clear c16
        try clear c27
        try clear c28
        try clear c28b0
        try clear c28b1
        try clear c33
        try clear c33b0
        try clear c33b1
        try clear c34
        try clear c34b0
        try clear c34b1
        try clear c35
        try clear c35b0
        try clear c35b1
        try clear hcz30_0 hcz30_1 hcz30_2 hcz30_3 hcz30_4
        try clear hcz32_0 hcz32_1 hcz32_2 hcz32_3 hcz32_4
        try clear hfz30_0 hfz30_1 hfz30_2 hfz30_3 hfz30_4
        try clear hfz32_0 hfz32_1 hfz32_2 hfz32_3 hfz32_4
        try clear p2
        obtain ⟨kq, x45_30, rfl, HA, HJ30, BK489, HB⟩ := hcut
        cases kq with
        | zero => exact absurd HA.out (by simp [impl_StepOk.j2])
        | succ kj30 =>
         have H := HA.out
         clear HA
         simp only [impl_StepOk.j2] at H
         by_cases c36 : x45_30 = true
         ·subst c36
          rw [if_pos rfl] at H
          replace H := Option.bind_eq_some_iff.mp H
          obtain ⟨t501, A370, H⟩ := H
          (try dsimp only at H)
          have A37 := Aside0.mk A370
          clear A370
          obtain rfl := Option.some.inj H
          obtain ⟨hcz38_0, hcz38_1, hcz38_2, hcz38_3, hcz38_4, hfz38_0, hfz38_1, hfz38_2, hfz38_3, hfz38_4⟩ := blkB5_ BK489
          go_wp2_with (first | ((with_reducible refine gate_callee (f := 120) rfl ?_); refine goesL_ (some 52) rfl rfl Try.func120 (by kernel_rfl) rfl #[.int .i64 a0_4] rfl atgM_ ?_; (with_reducible refine (impl_isCell.calls a0_4 t501 _ A37.out).mono ?_); rintro e w' ⟨rfl, ⟨nd, rfl⟩⟩; refine ⟨_, rfl, ?_⟩))
          go_ret
          exact ⟨retT_, att19_0_0⟩
         ·replace c36 := Bool.eq_false_iff.mpr c36
          subst c36
          rw [if_neg (show ¬ (false = true) by decide)] at H
          by_cases c39 : a0_0 = 10
          ·rw [if_pos c39] at H
           have c39b0 := beq_iff_eq.mpr c39
           have c39b1 := bne_eq_false_iff_eq.mpr c39
           clear c39
           by_cases c40 : a0_4 ≥ 0
           ·rw [if_pos c40] at H
            have c40b0 := decide_eq_true c40
            clear c40
            obtain rfl := Option.some.inj H
            obtain ⟨hcz41_0, hcz41_1, hcz41_2, hcz41_3, hcz41_4, hfz41_0, hfz41_1, hfz41_2, hfz41_3, hfz41_4⟩ := blkB5_ BK489
            go_wp2
            go_ret
            exact ⟨retT_, att19_0_0⟩
           ·rw [if_neg c40] at H
            have c40b0 := decide_eq_false c40
            clear c40
            obtain rfl := Option.some.inj H
            obtain ⟨hcz42_0, hcz42_1, hcz42_2, hcz42_3, hcz42_4, hfz42_0, hfz42_1, hfz42_2, hfz42_3, hfz42_4⟩ := blkB5_ BK489
            go_wp2
            go_ret
            exact ⟨retT_, att19_0_0⟩
          ·rw [if_neg c39] at H
           have c39b0 := beq_eq_false_iff_ne.mpr c39
           have c39b1 := bne_iff_ne.mpr c39
           by_cases c43 : a0_0 = 11
           ·rw [if_pos c43] at H
            have c43b0 := beq_iff_eq.mpr c43
            have c43b1 := bne_eq_false_iff_eq.mpr c43
            clear c43
            by_cases c44 : a0_4 ≥ 0
            ·rw [if_pos c44] at H
             have c44b0 := decide_eq_true c44
             clear c44
             obtain rfl := Option.some.inj H
             obtain ⟨hcz45_0, hcz45_1, hcz45_2, hcz45_3, hcz45_4, hfz45_0, hfz45_1, hfz45_2, hfz45_3, hfz45_4⟩ := blkB5_ BK489
             go_wp2
             go_ret
             exact ⟨retT_, att19_0_0⟩
            ·rw [if_neg c44] at H
             have c44b0 := decide_eq_false c44
             clear c44
             obtain rfl := Option.some.inj H
             obtain ⟨hcz46_0, hcz46_1, hcz46_2, hcz46_3, hcz46_4, hfz46_0, hfz46_1, hfz46_2, hfz46_3, hfz46_4⟩ := blkB5_ BK489
             go_wp2
             go_ret
             exact ⟨retT_, att19_0_0⟩
           ·rw [if_neg c43] at H
            have c43b0 := beq_eq_false_iff_ne.mpr c43
            have c43b1 := bne_iff_ne.mpr c43
            obtain rfl := Option.some.inj H
            go_wp2
            go_ret
            exact ⟨retT_, att19_0_0⟩

end Go.Proofs.Ytonlhgkpmjefkaa.XFnEmitted
