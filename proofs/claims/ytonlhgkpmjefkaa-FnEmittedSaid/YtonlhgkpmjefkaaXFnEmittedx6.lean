/- Each Go function that the law reaches as a Lean function, and that Go comes to just its answer; written by this session's xprint.py over the kit's printer. -/
import Derived.Test.YtonlhgkpmjefkaaXFnEmittedx0
import Derived.Test.YtonlhgkpmjefkaaXFnEmittedx1
import Derived.Test.YtonlhgkpmjefkaaXFnEmittedx5
namespace Go.Proofs.Ytonlhgkpmjefkaa.XFnEmitted
open Go.RowKit Go.Proofs.YtonlhgkpmjefkaaW.PrintWords Go.Proofs.YtonlhgkpmjefkaaW.PrintLast Go.Proofs.YtonlhgkpmjefkaaW.PrintMore
attribute [local go_sem] max2_int min2_int max_two min_two max_three min_three max_four min_four   -- for this text's walks alone
set_option linter.unusedVariables false
set_option linter.unusedSimpArgs false

attribute [local go_sem high] eqA37
theorem att7_0_1 {p : Prop} (h : p := by repeat (first | (with_reducible first | exact HB.out | apply below_alloc | apply pw_below_drewN | apply below_drew1 | refine below_set ?_ GE255.out) | exact HB.out)) : p := h
theorem att7_0_2 {p : Prop} (h : p := by (with_reducible repeat (first | refine blk_drewN ?_ _ | refine blk_drew ?_ | refine blk_alloc ?_ _)); exact BK255.out) : p := h
theorem att7_0_3 {p : Prop} (h : p := by rintro w' ⟨s0, s1, s2, s3, s4⟩; go_simp; with_reducible rfl) : p := h
theorem att7_0_7 {p : Prop} (h : p := by have := HJ3.out; have := HJ30.out; first | omega | exact Nat.le_refl _) : p := h
/-! ### impl_InsOk: function 98 -/
mutual
def impl_InsOk.j0 : Nat → Int → Int → Bool → Int → Int → Int → Int → Int → Option (Bool)
 | 0, _, _, _, _, _, _, _, _ => none
 | k + 1, x1, x2, x39, x256000, x256001, x256002, x256003, x256004 => if x39 = true then (some false) else (if x256000 = 1 then ((impl_within.f x256004 (-1000000000) 1000000000).bind fun t266 => (some t266)) else (if x256000 = 11 then (impl_InsOk.j1 k x1 x2 true x256000 x256001 x256002 x256003 x256004) else (impl_InsOk.j1 k x1 x2 (x256000 == 12) x256000 x256001 x256002 x256003 x256004)))
def impl_InsOk.j1 : Nat → Int → Int → Bool → Int → Int → Int → Int → Int → Option (Bool)
 | 0, _, _, _, _, _, _, _, _ => none
 | k + 1, x1, x2, x47, x256000, x256001, x256002, x256003, x256004 => if x47 = true then ((impl_within.f x256004 0 (wrap64 (x1 - 1))).bind fun t267 => (some t267)) else (if x256000 = 6 then (impl_InsOk.j2 k x2 (x256001 == x256003) x256000 x256001 x256002 x256003 x256004) else (if x256000 = 8 then (impl_InsOk.j2 k x2 (x256001 == x256003) x256000 x256001 x256002 x256003 x256004) else (impl_InsOk.j2 k x2 false x256000 x256001 x256002 x256003 x256004)))
def impl_InsOk.j2 : Nat → Int → Bool → Int → Int → Int → Int → Int → Option (Bool)
 | 0, _, _, _, _, _, _, _ => none
 | k + 1, x2, x61, x256000, x256001, x256002, x256003, x256004 => if x61 = true then (some false) else ((impl_ofChan.f x256000).bind fun t268 => (if t268 = true then ((impl_within.f x256004 0 (wrap64 (x2 - 1))).bind fun t269 => (some t269)) else (some true)))
end
def impl_InsOk.f (k : Nat) (a0_0 : Int) (a0_1 : Int) (a0_2 : Int) (a0_3 : Int) (a0_4 : Int) (a1 : Int) (a2 : Int) : Option (Bool) := (impl_within.f a2 0 3).bind fun t256 => (if t256 = true then ((impl_within.f a0_0 1 13).bind fun t257 => (if t257 = true then ((impl_named.f a0_0 a0_1 a0_2 a0_3 a0_4).bind fun bt258 => (if (!(a0_0 == bt258.1) || (!(a0_1 == bt258.2.1) || (!(a0_2 == bt258.2.2.1) || (!(a0_3 == bt258.2.2.2.1) || (!(a0_4 == bt258.2.2.2.2)))))) = true then (impl_InsOk.j0 k a1 a2 true a0_0 a0_1 a0_2 a0_3 a0_4) else ((impl_isReg.f a0_1).bind fun t263 => (if t263 = true then ((impl_isReg.f a0_2).bind fun t264 => (if t264 = true then ((impl_isReg.f a0_3).bind fun t265 => (impl_InsOk.j0 k a1 a2 (!t265) a0_0 a0_1 a0_2 a0_3 a0_4)) else (impl_InsOk.j0 k a1 a2 true a0_0 a0_1 a0_2 a0_3 a0_4))) else (impl_InsOk.j0 k a1 a2 true a0_0 a0_1 a0_2 a0_3 a0_4))))) else (impl_InsOk.j0 k a1 a2 true a0_0 a0_1 a0_2 a0_3 a0_4))) else (impl_InsOk.j0 k a1 a2 true a0_0 a0_1 a0_2 a0_3 a0_4))
theorem impl_InsOk.mono_l : ∀ k, (∀ y0 y1 y2 y3 y4 y5 y6 y7, LeO (impl_InsOk.j0 k y0 y1 y2 y3 y4 y5 y6 y7) (impl_InsOk.j0 (k + 1) y0 y1 y2 y3 y4 y5 y6 y7)) ∧ (∀ y0 y1 y2 y3 y4 y5 y6 y7, LeO (impl_InsOk.j1 k y0 y1 y2 y3 y4 y5 y6 y7) (impl_InsOk.j1 (k + 1) y0 y1 y2 y3 y4 y5 y6 y7)) ∧ (∀ y0 y1 y2 y3 y4 y5 y6, LeO (impl_InsOk.j2 k y0 y1 y2 y3 y4 y5 y6) (impl_InsOk.j2 (k + 1) y0 y1 y2 y3 y4 y5 y6))
 | 0 => ⟨fun _ _ _ _ _ _ _ _ r h => by simp [impl_InsOk.j0] at h, fun _ _ _ _ _ _ _ _ r h => by simp [impl_InsOk.j1] at h, fun _ _ _ _ _ _ _ r h => by simp [impl_InsOk.j2] at h⟩
 | k + 1 => by
  obtain ⟨ih0, ih1, ih2⟩ := impl_InsOk.mono_l k
  refine ⟨?_, ?_, ?_⟩
  all_goals intros
  all_goals first | unfold impl_InsOk.j0 | unfold impl_InsOk.j1 | unfold impl_InsOk.j2
  all_goals repeat' (with_reducible first | exact ih0 .. | exact ih1 .. | exact ih2 .. | exact LeO.refl _ | exact LeO.none _ | refine LeO.ite ?_ ?_ | refine LeO.bind ?_ (fun _ => ?_))
theorem impl_InsOk.mono : ∀ a0 a1 a2 a3 a4 a5 a6 k, LeO (impl_InsOk.f k a0 a1 a2 a3 a4 a5 a6) (impl_InsOk.f (k + 1) a0 a1 a2 a3 a4 a5 a6) := by
 intro a0 a1 a2 a3 a4 a5 a6 k
 obtain ⟨ih0, ih1, ih2⟩ := impl_InsOk.mono_l k
 unfold impl_InsOk.f
 repeat' (with_reducible first | exact ih0 .. | exact ih1 .. | exact ih2 .. | exact LeO.refl _ | exact LeO.none _ | refine LeO.ite ?_ ?_ | refine LeO.bind ?_ (fun _ => ?_))
def impl_InsOk.T1 : Bool × List (List Nat × List Nat) := (true, [([], []), ([0], [0]), ([1], [1]), ([2, 1], [2]), ([3], [3]), ([4, 3], [3, 4]), ([5, 3, 3], [3, 5]), ([6, 3], [3, 6]), ([3, 7], [3, 7]), ([8, 6], [8]), ([9], [9]), ([9], [9]), ([11, 9, 9], [9, 11]), ([10, 12, 9], [9, 10, 12]), ([9, 13], [9, 13]), ([14, 12], [14]), ([15], [15]), ([16, 15], [15, 16]), ([17, 15, 15], [15, 17]), ([18, 15], [15, 18]), ([15, 19], [15, 19]), ([20, 18], [20]), ([21], [21]), ([22, 21], [21, 22]), ([23, 21, 21], [21, 23]), ([24, 21], [21, 24]), ([21, 25], [21, 25]), ([26, 24], [26]), ([27], [27]), ([28, 27], [27, 28]), ([29, 27, 27], [27, 29]), ([30, 27], [27, 30]), ([27, 31], [27, 31])])
def impl_InsOk.B1 : List Nat := [0, 1, 3, 7, 15, 31, 63, 127, 255, 511, 1023, 1023, 3071, 8191, 16383, 32767, 65535, 131071, 262143, 524287, 1048575, 2097151, 4194303, 8388607, 16777215, 33554431, 67108863, 134217727, 268435455, 536870911, 1073741823, 2147483647, 4294967295]
theorem impl_InsOk.tab1 : rtab .any (opsOf Try.f98 1) = impl_InsOk.T1 := by kernel_rfl
theorem impl_InsOk.bits1 : waitsOk impl_InsOk.T1.2 impl_InsOk.B1 = true := by kernel_rfl
set_option maxHeartbeats 80000000 in
set_option maxRecDepth 100000 in
theorem impl_InsOk.calls (k : Nat) (a0_0 : Int) (a0_1 : Int) (a0_2 : Int) (a0_3 : Int) (a0_4 : Int) (a1 : Int) (a2 : Int) (r : Bool) (w : World) (h : impl_InsOk.f k a0_0 a0_1 a0_2 a0_3 a0_4 a1 a2 = some r) :
  Calls Try.prog 98 #[.agg #[.int .i64 a0_0, .int .i64 a0_1, .int .i64 a0_2, .int .i64 a0_3, .int .i64 a0_4], .int .i64 a1, .int .i64 a2] w fun e w' => e = .returned (.bool r) ∧ Below w.heap.size w w' := by
 have hu37 := Try.underlying37
 have HB := Aside0.mk (Below.refl w.heap.size w)
 have H : ((impl_within.f a2 0 3).bind fun t256 => (if t256 = true then ((impl_within.f a0_0 1 13).bind fun t257 => (if t257 = true then ((impl_named.f a0_0 a0_1 a0_2 a0_3 a0_4).bind fun bt258 => (if (!(a0_0 == bt258.1) || (!(a0_1 == bt258.2.1) || (!(a0_2 == bt258.2.2.1) || (!(a0_3 == bt258.2.2.2.1) || (!(a0_4 == bt258.2.2.2.2)))))) = true then (impl_InsOk.j0 k a1 a2 true a0_0 a0_1 a0_2 a0_3 a0_4) else ((impl_isReg.f a0_1).bind fun t263 => (if t263 = true then ((impl_isReg.f a0_2).bind fun t264 => (if t264 = true then ((impl_isReg.f a0_3).bind fun t265 => (impl_InsOk.j0 k a1 a2 (!t265) a0_0 a0_1 a0_2 a0_3 a0_4)) else (impl_InsOk.j0 k a1 a2 true a0_0 a0_1 a0_2 a0_3 a0_4))) else (impl_InsOk.j0 k a1 a2 true a0_0 a0_1 a0_2 a0_3 a0_4))))) else (impl_InsOk.j0 k a1 a2 true a0_0 a0_1 a0_2 a0_3 a0_4))) else (impl_InsOk.j0 k a1 a2 true a0_0 a0_1 a0_2 a0_3 a0_4))) = some r := h
 clear h
 have HC4 := Aside0.mk H
 clear H
 go_enter Try.func98, Try.ntmps98
 go_upto_region 1 with (first | ((with_reducible refine gate_dst (N := 3) rfl ?_); refine box_event ?hg (N := 3) ?hd (cs := #[.int .i64 a0_0, .int .i64 a0_1, .int .i64 a0_2, .int .i64 a0_3, .int .i64 a0_4]) (t := 37) ?hr ?_; (case hd => rfl); (case hg => rfl); (case hr => first | (go_simp; done) | (go_simp; rfl)); intro gb255 hg w5 hbox hb; refine swap4_ (below_step atgB_ hb) (hbox) ((by rw [hg]; exact (below_size atgB_) : w.heap.size ≤ gb255)) ((by rw [hg]; exact (below_size atgB_) : w.heap.size ≤ gb255)) ?_; clear HB; intro HB BK255 GW255 GE255; clear hb hbox hg))
 (try simp only [Act.put, List.setIfInBounds_toArray, List.set_cons_zero, List.set_cons_succ])
 go_cut [39] (fun v39 wc => ∃ (kq : Nat) (x39_3 : Bool), v39 = .bool x39_3 ∧ Aside0 (impl_InsOk.j0 kq a1 a2 x39_3 a0_0 a0_1 a0_2 a0_3 a0_4 = some r) ∧ Aside0 (kq ≤ k) ∧ Aside0 (wc.heap[gb255]? = some (.cells #[.int .i64 a0_0, .int .i64 a0_1, .int .i64 a0_2, .int .i64 a0_3, .int .i64 a0_4] 37 (0, 0))) ∧ Aside0 (Below w.heap.size w wc))
 case first =>
  have H := HC4.out
  clear HC4
  replace H := Option.bind_eq_some_iff.mp H
  obtain ⟨t256, A60, H⟩ := H
  (try dsimp only at H)
  have A6 := Aside0.mk A60
  clear A60
  by_cases c7 : t256 = true
  ·subst c7
   rw [if_pos rfl] at H
   replace H := Option.bind_eq_some_iff.mp H
   obtain ⟨t257, A80, H⟩ := H
   (try dsimp only at H)
   have A8 := Aside0.mk A80
   clear A80
   by_cases c9 : t257 = true
   ·subst c9
    rw [if_pos rfl] at H
    replace H := Option.bind_eq_some_iff.mp H
    obtain ⟨⟨t258, t259, t260, t261, t262⟩, A100, H⟩ := H
    (try dsimp only at H)
    have A10 := Aside0.mk A100
    clear A100
    by_cases c11 : (!(a0_0 == t258) || (!(a0_1 == t259) || (!(a0_2 == t260) || (!(a0_3 == t261) || (!(a0_4 == t262)))))) = true
    ·rw [if_pos c11] at H
     have c11b0 : (!(a0_0 == t258) || (!(a0_1 == t259) || (!(a0_2 == t260) || (!(a0_3 == t261) || (!(a0_4 == t262)))))) = true := c11
     clear c11
     (first | rw [c11b0] | (simp only [i64_w, i32_w]; rw [c11b0]) | skip)
     have H' := Aside0.mk H
     clear H
     try go_wp2
     refine swap2_ (blk_drew BK255.out) (below_drew1 HB.out) ?_
     clear BK255 HB
     intro BK255 HB
     refine start_ (n := 33) (S := fun w' => w'.cell? ⟨gb255, 0, none⟩ = some (.int .i64 a0_0) ∧ w'.cell? ⟨gb255, 1, none⟩ = some (.int .i64 a0_1) ∧ w'.cell? ⟨gb255, 2, none⟩ = some (.int .i64 a0_2) ∧ w'.cell? ⟨gb255, 3, none⟩ = some (.int .i64 a0_3) ∧ w'.cell? ⟨gb255, 4, none⟩ = some (.int .i64 a0_4)) (ds := []) (tf_ 0 33) (by kernel_rfl) rfl rfl ⟨(blk_cell BK255.out 0).trans rfl, (blk_cell BK255.out 1).trans rfl, (blk_cell BK255.out 2).trans rfl, (blk_cell BK255.out 3).trans rfl, (blk_cell BK255.out 4).trans rfl⟩ (fun hHeld => ?_); refine with_tabW impl_InsOk.tab1 impl_InsOk.bits1 (fun HT_ HW_ => ?_)
     generalize w5.drew = w12 at BK255 HB hHeld ⊢
     refine pureQ_ (i := 0) (N := some 7) (tf_ 1 32) (h := ?_)
     refine one_ (i := 1) (N := some 8) (tf_ 2 31) rfl rfl (one_of HT_.out (by kernel_rfl)) (by decide) (fun K hK => ?_)
     refine goes_ Try.func117 (by kernel_rfl) rfl #[.int .i64 a2, .int .i64 0, .int .i64 3] (by rfl) rfl rfl atgM_ ?_
     with_reducible refine (impl_within.calls a2 0 3 true _ A6.out).mono ?_
     rintro e w' ⟨rfl, ⟨nd, rfl⟩⟩
     refine ⟨_, rfl, ?_⟩
     refine hK.out _ _ ⟨(blk_cell BK255.out 0).trans rfl, (blk_cell BK255.out 1).trans rfl, (blk_cell BK255.out 2).trans rfl, (blk_cell BK255.out 3).trans rfl, (blk_cell BK255.out 4).trans rfl⟩ (fun hHeld => ?_)
     clear hK K
     refine normS_ (N := some 8) (h := ?_)
     refine pureQ_ (i := 2) (N := some 9) (tf_ 3 30) (h := ?_)
     refine pureQ_ (i := 3) (N := some 10) (tf_ 4 29) (h := ?_)
     refine pureQ_ (i := 4) (N := some 11) (tf_ 5 28) (h := ?_)
     refine takeQ_ (i := 5) (N := some 12) (tf_ 6 27) hHeld (hy := Or.inl ⟨by rfl, att7_0_3⟩) (h := ?_)
     refine one_ (i := 6) (N := some 13) (tf_ 7 26) rfl rfl (one_of HT_.out (by kernel_rfl)) (by decide) (fun K hK => ?_)
     refine goes_ Try.func117 (by kernel_rfl) rfl #[.int .i64 a0_0, .int .i64 1, .int .i64 13] (by rfl) rfl rfl atgM_ ?_
     with_reducible refine (impl_within.calls a0_0 1 13 true _ A8.out).mono ?_
     rintro e w' ⟨rfl, ⟨nd, rfl⟩⟩
     refine ⟨_, rfl, ?_⟩
     refine hK.out _ _ ⟨(blk_cell BK255.out 0).trans rfl, (blk_cell BK255.out 1).trans rfl, (blk_cell BK255.out 2).trans rfl, (blk_cell BK255.out 3).trans rfl, (blk_cell BK255.out 4).trans rfl⟩ (fun hHeld => ?_)
     clear hK K
     refine normS_ (N := some 13) (h := ?_)
     refine pureQ_ (i := 7) (N := some 14) (tf_ 8 25) (h := ?_)
     refine pureQ_ (i := 8) (N := some 15) (tf_ 9 24) (h := ?_)
     refine pureQ_ (i := 9) (N := some 16) (tf_ 10 23) (h := ?_)
     refine takeQ_ (i := 10) (N := some 17) (tf_ 11 22) hHeld (hy := Or.inl ⟨by rfl, att7_0_3⟩) (h := ?_)
     refine takeQ_ (i := 11) (N := some 18) (tf_ 12 21) hHeld (hy := Or.inl ⟨by rfl, att7_0_3⟩) (h := ?_)
     refine one_ (i := 12) (N := some 19) (tf_ 13 20) rfl rfl (one_of HT_.out (by kernel_rfl)) (by decide) (fun K hK => ?_)
     refine goes_ Try.func164 (by kernel_rfl) rfl #[.agg #[.int .i64 a0_0, .int .i64 a0_1, .int .i64 a0_2, .int .i64 a0_3, .int .i64 a0_4]] (by rfl) rfl rfl atgM_ ?_
     with_reducible refine (impl_named.calls a0_0 a0_1 a0_2 a0_3 a0_4 t258 t259 t260 t261 t262 _ A10.out).mono ?_
     rintro e w13 ⟨rfl, hb⟩
     refine ⟨_, rfl, ?_⟩
     refine swap2_ (blk_below (g := gb255) (o := .cells #[.int .i64 a0_0, .int .i64 a0_1, .int .i64 a0_2, .int .i64 a0_3, .int .i64 a0_4] 37 (0, 0)) att7_0_2 hb) (below_step att7_0_1 hb) ?_
     clear BK255 HB
     intro BK255 HB
     (try clear hb)
     (try clear hb2)
     (try clear hk)
     (try clear hi)
     refine hK.out _ _ ⟨(blk_cell BK255.out 0).trans rfl, (blk_cell BK255.out 1).trans rfl, (blk_cell BK255.out 2).trans rfl, (blk_cell BK255.out 3).trans rfl, (blk_cell BK255.out 4).trans rfl⟩ (fun hHeld => ?_)
     clear hK K
     refine normS_ (N := some 19) (h := ?_)
     refine pureQ_ (i := 13) (N := some 20) (tf_ 14 19) (h := ?_)
     refine pureQ_ (i := 14) (N := some 21) (tf_ 15 18) (h := ?_)
     refine pureQ_ (i := 15) (N := some 22) (tf_ 16 17) (h := ?_)
     refine offQ_ (i := 16) (N := some 23) (tf_ 17 16) (h := ?_)
     refine offQ_ (i := 17) (N := some 24) (tf_ 18 15) (h := ?_)
     refine offQ_ (i := 18) (N := some 25) (tf_ 19 14) (h := ?_)
     refine offQ_ (i := 19) (N := some 26) (tf_ 20 13) (h := ?_)
     refine pureQ_ (i := 20) (N := some 27) (tf_ 21 12) (h := ?_)
     refine pureQ_ (i := 21) (N := some 28) (tf_ 22 11) (h := ?_)
     refine offQ_ (i := 22) (N := some 29) (tf_ 23 10) (h := ?_)
     refine offQ_ (i := 23) (N := some 30) (tf_ 24 9) (h := ?_)
     refine offQ_ (i := 24) (N := some 31) (tf_ 25 8) (h := ?_)
     refine offQ_ (i := 25) (N := some 32) (tf_ 26 7) (h := ?_)
     refine pureQ_ (i := 26) (N := some 33) (tf_ 27 6) (h := ?_)
     refine pureQ_ (i := 27) (N := some 34) (tf_ 28 5) (h := ?_)
     refine offQ_ (i := 28) (N := some 35) (tf_ 29 4) (h := ?_)
     refine offQ_ (i := 29) (N := some 36) (tf_ 30 3) (h := ?_)
     refine offQ_ (i := 30) (N := some 37) (tf_ 31 2) (h := ?_)
     refine offQ_ (i := 31) (N := some 38) (tf_ 32 1) (h := ?_)
     refine pureQ_ (i := 32) (N := some 39) (tf_ 33 0) (h := ?_)
     refine done_ (done_of HT_.out (by kernel_rfl)) ?_
     try go_wp2
     go_meet
     case rel => exact ⟨_, (true), atgR_, H', ⟨atgO_⟩, ⟨att7_0_2⟩, ⟨att7_0_1⟩⟩
    ·rw [if_neg c11] at H
     have c11b0 : (!(a0_0 == t258) || (!(a0_1 == t259) || (!(a0_2 == t260) || (!(a0_3 == t261) || (!(a0_4 == t262)))))) = false := by simpa using c11
     clear c11
     (first | rw [c11b0] | (simp only [i64_w, i32_w]; rw [c11b0]) | skip)
     replace H := Option.bind_eq_some_iff.mp H
     obtain ⟨t263, A140, H⟩ := H
     (try dsimp only at H)
     have A14 := Aside0.mk A140
     clear A140
     by_cases c15 : t263 = true
     ·subst c15
      rw [if_pos rfl] at H
      replace H := Option.bind_eq_some_iff.mp H
      obtain ⟨t264, A160, H⟩ := H
      (try dsimp only at H)
      have A16 := Aside0.mk A160
      clear A160
      by_cases c17 : t264 = true
      ·subst c17
       rw [if_pos rfl] at H
       replace H := Option.bind_eq_some_iff.mp H
       obtain ⟨t265, A180, H⟩ := H
       (try dsimp only at H)
       have A18 := Aside0.mk A180
       clear A180
       have H' := Aside0.mk H
       clear H
       try go_wp2
       refine swap2_ (blk_drew BK255.out) (below_drew1 HB.out) ?_
       clear BK255 HB
       intro BK255 HB
       refine start_ (n := 33) (S := fun w' => w'.cell? ⟨gb255, 0, none⟩ = some (.int .i64 a0_0) ∧ w'.cell? ⟨gb255, 1, none⟩ = some (.int .i64 a0_1) ∧ w'.cell? ⟨gb255, 2, none⟩ = some (.int .i64 a0_2) ∧ w'.cell? ⟨gb255, 3, none⟩ = some (.int .i64 a0_3) ∧ w'.cell? ⟨gb255, 4, none⟩ = some (.int .i64 a0_4)) (ds := []) (tf_ 0 33) (by kernel_rfl) rfl rfl ⟨(blk_cell BK255.out 0).trans rfl, (blk_cell BK255.out 1).trans rfl, (blk_cell BK255.out 2).trans rfl, (blk_cell BK255.out 3).trans rfl, (blk_cell BK255.out 4).trans rfl⟩ (fun hHeld => ?_); refine with_tabW impl_InsOk.tab1 impl_InsOk.bits1 (fun HT_ HW_ => ?_)
       generalize w5.drew = w19 at BK255 HB hHeld ⊢
       refine pureQ_ (i := 0) (N := some 7) (tf_ 1 32) (h := ?_)
       refine one_ (i := 1) (N := some 8) (tf_ 2 31) rfl rfl (one_of HT_.out (by kernel_rfl)) (by decide) (fun K hK => ?_)
       refine goes_ Try.func117 (by kernel_rfl) rfl #[.int .i64 a2, .int .i64 0, .int .i64 3] (by rfl) rfl rfl atgM_ ?_
       with_reducible refine (impl_within.calls a2 0 3 true _ A6.out).mono ?_
       rintro e w' ⟨rfl, ⟨nd, rfl⟩⟩
       refine ⟨_, rfl, ?_⟩
       refine hK.out _ _ ⟨(blk_cell BK255.out 0).trans rfl, (blk_cell BK255.out 1).trans rfl, (blk_cell BK255.out 2).trans rfl, (blk_cell BK255.out 3).trans rfl, (blk_cell BK255.out 4).trans rfl⟩ (fun hHeld => ?_)
       clear hK K
       refine normS_ (N := some 8) (h := ?_)
       refine pureQ_ (i := 2) (N := some 9) (tf_ 3 30) (h := ?_)
       refine pureQ_ (i := 3) (N := some 10) (tf_ 4 29) (h := ?_)
       refine pureQ_ (i := 4) (N := some 11) (tf_ 5 28) (h := ?_)
       refine takeQ_ (i := 5) (N := some 12) (tf_ 6 27) hHeld (hy := Or.inl ⟨by rfl, att7_0_3⟩) (h := ?_)
       refine one_ (i := 6) (N := some 13) (tf_ 7 26) rfl rfl (one_of HT_.out (by kernel_rfl)) (by decide) (fun K hK => ?_)
       refine goes_ Try.func117 (by kernel_rfl) rfl #[.int .i64 a0_0, .int .i64 1, .int .i64 13] (by rfl) rfl rfl atgM_ ?_
       with_reducible refine (impl_within.calls a0_0 1 13 true _ A8.out).mono ?_
       rintro e w' ⟨rfl, ⟨nd, rfl⟩⟩
       refine ⟨_, rfl, ?_⟩
       refine hK.out _ _ ⟨(blk_cell BK255.out 0).trans rfl, (blk_cell BK255.out 1).trans rfl, (blk_cell BK255.out 2).trans rfl, (blk_cell BK255.out 3).trans rfl, (blk_cell BK255.out 4).trans rfl⟩ (fun hHeld => ?_)
       clear hK K
       refine normS_ (N := some 13) (h := ?_)
       refine pureQ_ (i := 7) (N := some 14) (tf_ 8 25) (h := ?_)
       refine pureQ_ (i := 8) (N := some 15) (tf_ 9 24) (h := ?_)
       refine pureQ_ (i := 9) (N := some 16) (tf_ 10 23) (h := ?_)
       refine takeQ_ (i := 10) (N := some 17) (tf_ 11 22) hHeld (hy := Or.inl ⟨by rfl, att7_0_3⟩) (h := ?_)
       refine takeQ_ (i := 11) (N := some 18) (tf_ 12 21) hHeld (hy := Or.inl ⟨by rfl, att7_0_3⟩) (h := ?_)
       refine one_ (i := 12) (N := some 19) (tf_ 13 20) rfl rfl (one_of HT_.out (by kernel_rfl)) (by decide) (fun K hK => ?_)
       refine goes_ Try.func164 (by kernel_rfl) rfl #[.agg #[.int .i64 a0_0, .int .i64 a0_1, .int .i64 a0_2, .int .i64 a0_3, .int .i64 a0_4]] (by rfl) rfl rfl atgM_ ?_
       with_reducible refine (impl_named.calls a0_0 a0_1 a0_2 a0_3 a0_4 t258 t259 t260 t261 t262 _ A10.out).mono ?_
       rintro e w20 ⟨rfl, hb⟩
       refine ⟨_, rfl, ?_⟩
       refine swap2_ (blk_below (g := gb255) (o := .cells #[.int .i64 a0_0, .int .i64 a0_1, .int .i64 a0_2, .int .i64 a0_3, .int .i64 a0_4] 37 (0, 0)) att7_0_2 hb) (below_step att7_0_1 hb) ?_
       clear BK255 HB
       intro BK255 HB
       (try clear hb)
       (try clear hb2)
       (try clear hk)
       (try clear hi)
       refine hK.out _ _ ⟨(blk_cell BK255.out 0).trans rfl, (blk_cell BK255.out 1).trans rfl, (blk_cell BK255.out 2).trans rfl, (blk_cell BK255.out 3).trans rfl, (blk_cell BK255.out 4).trans rfl⟩ (fun hHeld => ?_)
       clear hK K
       refine normS_ (N := some 19) (h := ?_)
       refine pureQ_ (i := 13) (N := some 20) (tf_ 14 19) (h := ?_)
       refine pureQ_ (i := 14) (N := some 21) (tf_ 15 18) (h := ?_)
       refine pureQ_ (i := 15) (N := some 22) (tf_ 16 17) (h := ?_)
       refine pureQ_ (i := 16) (N := some 23) (tf_ 17 16) (h := ?_)
       refine takeQ_ (i := 17) (N := some 24) (tf_ 18 15) hHeld (hy := Or.inl ⟨by rfl, att7_0_3⟩) (h := ?_)
       refine one_ (i := 18) (N := some 25) (tf_ 19 14) rfl rfl (one_of HT_.out (by kernel_rfl)) (by decide) (fun K hK => ?_)
       refine goes_ Try.func165 (by kernel_rfl) rfl #[.int .i64 a0_1] (by rfl) rfl rfl atgM_ ?_
       with_reducible refine (impl_isReg.calls a0_1 true _ A14.out).mono ?_
       rintro e w' ⟨rfl, ⟨nd, rfl⟩⟩
       refine ⟨_, rfl, ?_⟩
       refine hK.out _ _ ⟨(blk_cell BK255.out 0).trans rfl, (blk_cell BK255.out 1).trans rfl, (blk_cell BK255.out 2).trans rfl, (blk_cell BK255.out 3).trans rfl, (blk_cell BK255.out 4).trans rfl⟩ (fun hHeld => ?_)
       clear hK K
       refine normS_ (N := some 25) (h := ?_)
       refine pureQ_ (i := 19) (N := some 26) (tf_ 20 13) (h := ?_)
       refine pureQ_ (i := 20) (N := some 27) (tf_ 21 12) (h := ?_)
       refine pureQ_ (i := 21) (N := some 28) (tf_ 22 11) (h := ?_)
       refine pureQ_ (i := 22) (N := some 29) (tf_ 23 10) (h := ?_)
       refine takeQ_ (i := 23) (N := some 30) (tf_ 24 9) hHeld (hy := Or.inl ⟨by rfl, att7_0_3⟩) (h := ?_)
       refine one_ (i := 24) (N := some 31) (tf_ 25 8) rfl rfl (one_of HT_.out (by kernel_rfl)) (by decide) (fun K hK => ?_)
       refine goes_ Try.func165 (by kernel_rfl) rfl #[.int .i64 a0_2] (by rfl) rfl rfl atgM_ ?_
       with_reducible refine (impl_isReg.calls a0_2 true _ A16.out).mono ?_
       rintro e w' ⟨rfl, ⟨nd, rfl⟩⟩
       refine ⟨_, rfl, ?_⟩
       refine hK.out _ _ ⟨(blk_cell BK255.out 0).trans rfl, (blk_cell BK255.out 1).trans rfl, (blk_cell BK255.out 2).trans rfl, (blk_cell BK255.out 3).trans rfl, (blk_cell BK255.out 4).trans rfl⟩ (fun hHeld => ?_)
       clear hK K
       refine normS_ (N := some 31) (h := ?_)
       refine pureQ_ (i := 25) (N := some 32) (tf_ 26 7) (h := ?_)
       refine pureQ_ (i := 26) (N := some 33) (tf_ 27 6) (h := ?_)
       refine pureQ_ (i := 27) (N := some 34) (tf_ 28 5) (h := ?_)
       refine pureQ_ (i := 28) (N := some 35) (tf_ 29 4) (h := ?_)
       refine takeQ_ (i := 29) (N := some 36) (tf_ 30 3) hHeld (hy := Or.inl ⟨by rfl, att7_0_3⟩) (h := ?_)
       refine one_ (i := 30) (N := some 37) (tf_ 31 2) rfl rfl (one_of HT_.out (by kernel_rfl)) (by decide) (fun K hK => ?_)
       refine goes_ Try.func165 (by kernel_rfl) rfl #[.int .i64 a0_3] (by rfl) rfl rfl atgM_ ?_
       with_reducible refine (impl_isReg.calls a0_3 t265 _ A18.out).mono ?_
       rintro e w' ⟨rfl, ⟨nd, rfl⟩⟩
       refine ⟨_, rfl, ?_⟩
       refine hK.out _ _ ⟨(blk_cell BK255.out 0).trans rfl, (blk_cell BK255.out 1).trans rfl, (blk_cell BK255.out 2).trans rfl, (blk_cell BK255.out 3).trans rfl, (blk_cell BK255.out 4).trans rfl⟩ (fun hHeld => ?_)
       clear hK K
       refine normS_ (N := some 37) (h := ?_)
       refine pureQ_ (i := 31) (N := some 38) (tf_ 32 1) (h := ?_)
       refine pureQ_ (i := 32) (N := some 39) (tf_ 33 0) (h := ?_)
       refine done_ (done_of HT_.out (by kernel_rfl)) ?_
       try go_wp2
       go_meet
       case rel => exact ⟨_, (!t265), atgR_, H', ⟨atgO_⟩, ⟨att7_0_2⟩, ⟨att7_0_1⟩⟩
      ·replace c17 := Bool.eq_false_iff.mpr c17
       subst c17
       rw [if_neg (show ¬ (false = true) by decide)] at H
       have H' := Aside0.mk H
       clear H
       try go_wp2
       refine swap2_ (blk_drew BK255.out) (below_drew1 HB.out) ?_
       clear BK255 HB
       intro BK255 HB
       refine start_ (n := 33) (S := fun w' => w'.cell? ⟨gb255, 0, none⟩ = some (.int .i64 a0_0) ∧ w'.cell? ⟨gb255, 1, none⟩ = some (.int .i64 a0_1) ∧ w'.cell? ⟨gb255, 2, none⟩ = some (.int .i64 a0_2) ∧ w'.cell? ⟨gb255, 3, none⟩ = some (.int .i64 a0_3) ∧ w'.cell? ⟨gb255, 4, none⟩ = some (.int .i64 a0_4)) (ds := []) (tf_ 0 33) (by kernel_rfl) rfl rfl ⟨(blk_cell BK255.out 0).trans rfl, (blk_cell BK255.out 1).trans rfl, (blk_cell BK255.out 2).trans rfl, (blk_cell BK255.out 3).trans rfl, (blk_cell BK255.out 4).trans rfl⟩ (fun hHeld => ?_); refine with_tabW impl_InsOk.tab1 impl_InsOk.bits1 (fun HT_ HW_ => ?_)
       generalize w5.drew = w21 at BK255 HB hHeld ⊢
       refine pureQ_ (i := 0) (N := some 7) (tf_ 1 32) (h := ?_)
       refine one_ (i := 1) (N := some 8) (tf_ 2 31) rfl rfl (one_of HT_.out (by kernel_rfl)) (by decide) (fun K hK => ?_)
       refine goes_ Try.func117 (by kernel_rfl) rfl #[.int .i64 a2, .int .i64 0, .int .i64 3] (by rfl) rfl rfl atgM_ ?_
       with_reducible refine (impl_within.calls a2 0 3 true _ A6.out).mono ?_
       rintro e w' ⟨rfl, ⟨nd, rfl⟩⟩
       refine ⟨_, rfl, ?_⟩
       refine hK.out _ _ ⟨(blk_cell BK255.out 0).trans rfl, (blk_cell BK255.out 1).trans rfl, (blk_cell BK255.out 2).trans rfl, (blk_cell BK255.out 3).trans rfl, (blk_cell BK255.out 4).trans rfl⟩ (fun hHeld => ?_)
       clear hK K
       refine normS_ (N := some 8) (h := ?_)
       refine pureQ_ (i := 2) (N := some 9) (tf_ 3 30) (h := ?_)
       refine pureQ_ (i := 3) (N := some 10) (tf_ 4 29) (h := ?_)
       refine pureQ_ (i := 4) (N := some 11) (tf_ 5 28) (h := ?_)
       refine takeQ_ (i := 5) (N := some 12) (tf_ 6 27) hHeld (hy := Or.inl ⟨by rfl, att7_0_3⟩) (h := ?_)
       refine one_ (i := 6) (N := some 13) (tf_ 7 26) rfl rfl (one_of HT_.out (by kernel_rfl)) (by decide) (fun K hK => ?_)
       refine goes_ Try.func117 (by kernel_rfl) rfl #[.int .i64 a0_0, .int .i64 1, .int .i64 13] (by rfl) rfl rfl atgM_ ?_
       with_reducible refine (impl_within.calls a0_0 1 13 true _ A8.out).mono ?_
       rintro e w' ⟨rfl, ⟨nd, rfl⟩⟩
       refine ⟨_, rfl, ?_⟩
       refine hK.out _ _ ⟨(blk_cell BK255.out 0).trans rfl, (blk_cell BK255.out 1).trans rfl, (blk_cell BK255.out 2).trans rfl, (blk_cell BK255.out 3).trans rfl, (blk_cell BK255.out 4).trans rfl⟩ (fun hHeld => ?_)
       clear hK K
       refine normS_ (N := some 13) (h := ?_)
       refine pureQ_ (i := 7) (N := some 14) (tf_ 8 25) (h := ?_)
       refine pureQ_ (i := 8) (N := some 15) (tf_ 9 24) (h := ?_)
       refine pureQ_ (i := 9) (N := some 16) (tf_ 10 23) (h := ?_)
       refine takeQ_ (i := 10) (N := some 17) (tf_ 11 22) hHeld (hy := Or.inl ⟨by rfl, att7_0_3⟩) (h := ?_)
       refine takeQ_ (i := 11) (N := some 18) (tf_ 12 21) hHeld (hy := Or.inl ⟨by rfl, att7_0_3⟩) (h := ?_)
       refine one_ (i := 12) (N := some 19) (tf_ 13 20) rfl rfl (one_of HT_.out (by kernel_rfl)) (by decide) (fun K hK => ?_)
       refine goes_ Try.func164 (by kernel_rfl) rfl #[.agg #[.int .i64 a0_0, .int .i64 a0_1, .int .i64 a0_2, .int .i64 a0_3, .int .i64 a0_4]] (by rfl) rfl rfl atgM_ ?_
       with_reducible refine (impl_named.calls a0_0 a0_1 a0_2 a0_3 a0_4 t258 t259 t260 t261 t262 _ A10.out).mono ?_
       rintro e w22 ⟨rfl, hb⟩
       refine ⟨_, rfl, ?_⟩
       refine swap2_ (blk_below (g := gb255) (o := .cells #[.int .i64 a0_0, .int .i64 a0_1, .int .i64 a0_2, .int .i64 a0_3, .int .i64 a0_4] 37 (0, 0)) att7_0_2 hb) (below_step att7_0_1 hb) ?_
       clear BK255 HB
       intro BK255 HB
       (try clear hb)
       (try clear hb2)
       (try clear hk)
       (try clear hi)
       refine hK.out _ _ ⟨(blk_cell BK255.out 0).trans rfl, (blk_cell BK255.out 1).trans rfl, (blk_cell BK255.out 2).trans rfl, (blk_cell BK255.out 3).trans rfl, (blk_cell BK255.out 4).trans rfl⟩ (fun hHeld => ?_)
       clear hK K
       refine normS_ (N := some 19) (h := ?_)
       refine pureQ_ (i := 13) (N := some 20) (tf_ 14 19) (h := ?_)
       refine pureQ_ (i := 14) (N := some 21) (tf_ 15 18) (h := ?_)
       refine pureQ_ (i := 15) (N := some 22) (tf_ 16 17) (h := ?_)
       refine pureQ_ (i := 16) (N := some 23) (tf_ 17 16) (h := ?_)
       refine takeQ_ (i := 17) (N := some 24) (tf_ 18 15) hHeld (hy := Or.inl ⟨by rfl, att7_0_3⟩) (h := ?_)
       refine one_ (i := 18) (N := some 25) (tf_ 19 14) rfl rfl (one_of HT_.out (by kernel_rfl)) (by decide) (fun K hK => ?_)
       refine goes_ Try.func165 (by kernel_rfl) rfl #[.int .i64 a0_1] (by rfl) rfl rfl atgM_ ?_
       with_reducible refine (impl_isReg.calls a0_1 true _ A14.out).mono ?_
       rintro e w' ⟨rfl, ⟨nd, rfl⟩⟩
       refine ⟨_, rfl, ?_⟩
       refine hK.out _ _ ⟨(blk_cell BK255.out 0).trans rfl, (blk_cell BK255.out 1).trans rfl, (blk_cell BK255.out 2).trans rfl, (blk_cell BK255.out 3).trans rfl, (blk_cell BK255.out 4).trans rfl⟩ (fun hHeld => ?_)
       clear hK K
       refine normS_ (N := some 25) (h := ?_)
       refine pureQ_ (i := 19) (N := some 26) (tf_ 20 13) (h := ?_)
       refine pureQ_ (i := 20) (N := some 27) (tf_ 21 12) (h := ?_)
       refine pureQ_ (i := 21) (N := some 28) (tf_ 22 11) (h := ?_)
       refine pureQ_ (i := 22) (N := some 29) (tf_ 23 10) (h := ?_)
       refine takeQ_ (i := 23) (N := some 30) (tf_ 24 9) hHeld (hy := Or.inl ⟨by rfl, att7_0_3⟩) (h := ?_)
       refine one_ (i := 24) (N := some 31) (tf_ 25 8) rfl rfl (one_of HT_.out (by kernel_rfl)) (by decide) (fun K hK => ?_)
       refine goes_ Try.func165 (by kernel_rfl) rfl #[.int .i64 a0_2] (by rfl) rfl rfl atgM_ ?_
       with_reducible refine (impl_isReg.calls a0_2 false _ A16.out).mono ?_
       rintro e w' ⟨rfl, ⟨nd, rfl⟩⟩
       refine ⟨_, rfl, ?_⟩
       refine hK.out _ _ ⟨(blk_cell BK255.out 0).trans rfl, (blk_cell BK255.out 1).trans rfl, (blk_cell BK255.out 2).trans rfl, (blk_cell BK255.out 3).trans rfl, (blk_cell BK255.out 4).trans rfl⟩ (fun hHeld => ?_)
       clear hK K
       refine normS_ (N := some 31) (h := ?_)
       refine pureQ_ (i := 25) (N := some 32) (tf_ 26 7) (h := ?_)
       refine pureQ_ (i := 26) (N := some 33) (tf_ 27 6) (h := ?_)
       refine pureQ_ (i := 27) (N := some 34) (tf_ 28 5) (h := ?_)
       refine offQ_ (i := 28) (N := some 35) (tf_ 29 4) (h := ?_)
       refine offQ_ (i := 29) (N := some 36) (tf_ 30 3) (h := ?_)
       refine offQ_ (i := 30) (N := some 37) (tf_ 31 2) (h := ?_)
       refine offQ_ (i := 31) (N := some 38) (tf_ 32 1) (h := ?_)
       refine pureQ_ (i := 32) (N := some 39) (tf_ 33 0) (h := ?_)
       refine done_ (done_of HT_.out (by kernel_rfl)) ?_
       try go_wp2
       go_meet
       case rel => exact ⟨_, (true), atgR_, H', ⟨atgO_⟩, ⟨att7_0_2⟩, ⟨att7_0_1⟩⟩
     ·replace c15 := Bool.eq_false_iff.mpr c15
      subst c15
      rw [if_neg (show ¬ (false = true) by decide)] at H
      have H' := Aside0.mk H
      clear H
      try go_wp2
      refine swap2_ (blk_drew BK255.out) (below_drew1 HB.out) ?_
      clear BK255 HB
      intro BK255 HB
      refine start_ (n := 33) (S := fun w' => w'.cell? ⟨gb255, 0, none⟩ = some (.int .i64 a0_0) ∧ w'.cell? ⟨gb255, 1, none⟩ = some (.int .i64 a0_1) ∧ w'.cell? ⟨gb255, 2, none⟩ = some (.int .i64 a0_2) ∧ w'.cell? ⟨gb255, 3, none⟩ = some (.int .i64 a0_3) ∧ w'.cell? ⟨gb255, 4, none⟩ = some (.int .i64 a0_4)) (ds := []) (tf_ 0 33) (by kernel_rfl) rfl rfl ⟨(blk_cell BK255.out 0).trans rfl, (blk_cell BK255.out 1).trans rfl, (blk_cell BK255.out 2).trans rfl, (blk_cell BK255.out 3).trans rfl, (blk_cell BK255.out 4).trans rfl⟩ (fun hHeld => ?_); refine with_tabW impl_InsOk.tab1 impl_InsOk.bits1 (fun HT_ HW_ => ?_)
      generalize w5.drew = w23 at BK255 HB hHeld ⊢
      refine pureQ_ (i := 0) (N := some 7) (tf_ 1 32) (h := ?_)
      refine one_ (i := 1) (N := some 8) (tf_ 2 31) rfl rfl (one_of HT_.out (by kernel_rfl)) (by decide) (fun K hK => ?_)
      refine goes_ Try.func117 (by kernel_rfl) rfl #[.int .i64 a2, .int .i64 0, .int .i64 3] (by rfl) rfl rfl atgM_ ?_
      with_reducible refine (impl_within.calls a2 0 3 true _ A6.out).mono ?_
      rintro e w' ⟨rfl, ⟨nd, rfl⟩⟩
      refine ⟨_, rfl, ?_⟩
      refine hK.out _ _ ⟨(blk_cell BK255.out 0).trans rfl, (blk_cell BK255.out 1).trans rfl, (blk_cell BK255.out 2).trans rfl, (blk_cell BK255.out 3).trans rfl, (blk_cell BK255.out 4).trans rfl⟩ (fun hHeld => ?_)
      clear hK K
      refine normS_ (N := some 8) (h := ?_)
      refine pureQ_ (i := 2) (N := some 9) (tf_ 3 30) (h := ?_)
      refine pureQ_ (i := 3) (N := some 10) (tf_ 4 29) (h := ?_)
      refine pureQ_ (i := 4) (N := some 11) (tf_ 5 28) (h := ?_)
      refine takeQ_ (i := 5) (N := some 12) (tf_ 6 27) hHeld (hy := Or.inl ⟨by rfl, att7_0_3⟩) (h := ?_)
      refine one_ (i := 6) (N := some 13) (tf_ 7 26) rfl rfl (one_of HT_.out (by kernel_rfl)) (by decide) (fun K hK => ?_)
      refine goes_ Try.func117 (by kernel_rfl) rfl #[.int .i64 a0_0, .int .i64 1, .int .i64 13] (by rfl) rfl rfl atgM_ ?_
      with_reducible refine (impl_within.calls a0_0 1 13 true _ A8.out).mono ?_
      rintro e w' ⟨rfl, ⟨nd, rfl⟩⟩
      refine ⟨_, rfl, ?_⟩
      refine hK.out _ _ ⟨(blk_cell BK255.out 0).trans rfl, (blk_cell BK255.out 1).trans rfl, (blk_cell BK255.out 2).trans rfl, (blk_cell BK255.out 3).trans rfl, (blk_cell BK255.out 4).trans rfl⟩ (fun hHeld => ?_)
      clear hK K
      refine normS_ (N := some 13) (h := ?_)
      refine pureQ_ (i := 7) (N := some 14) (tf_ 8 25) (h := ?_)
      refine pureQ_ (i := 8) (N := some 15) (tf_ 9 24) (h := ?_)
      refine pureQ_ (i := 9) (N := some 16) (tf_ 10 23) (h := ?_)
      refine takeQ_ (i := 10) (N := some 17) (tf_ 11 22) hHeld (hy := Or.inl ⟨by rfl, att7_0_3⟩) (h := ?_)
      refine takeQ_ (i := 11) (N := some 18) (tf_ 12 21) hHeld (hy := Or.inl ⟨by rfl, att7_0_3⟩) (h := ?_)
      refine one_ (i := 12) (N := some 19) (tf_ 13 20) rfl rfl (one_of HT_.out (by kernel_rfl)) (by decide) (fun K hK => ?_)
      refine goes_ Try.func164 (by kernel_rfl) rfl #[.agg #[.int .i64 a0_0, .int .i64 a0_1, .int .i64 a0_2, .int .i64 a0_3, .int .i64 a0_4]] (by rfl) rfl rfl atgM_ ?_
      with_reducible refine (impl_named.calls a0_0 a0_1 a0_2 a0_3 a0_4 t258 t259 t260 t261 t262 _ A10.out).mono ?_
      rintro e w24 ⟨rfl, hb⟩
      refine ⟨_, rfl, ?_⟩
      refine swap2_ (blk_below (g := gb255) (o := .cells #[.int .i64 a0_0, .int .i64 a0_1, .int .i64 a0_2, .int .i64 a0_3, .int .i64 a0_4] 37 (0, 0)) att7_0_2 hb) (below_step att7_0_1 hb) ?_
      clear BK255 HB
      intro BK255 HB
      (try clear hb)
      (try clear hb2)
      (try clear hk)
      (try clear hi)
      refine hK.out _ _ ⟨(blk_cell BK255.out 0).trans rfl, (blk_cell BK255.out 1).trans rfl, (blk_cell BK255.out 2).trans rfl, (blk_cell BK255.out 3).trans rfl, (blk_cell BK255.out 4).trans rfl⟩ (fun hHeld => ?_)
      clear hK K
      refine normS_ (N := some 19) (h := ?_)
      refine pureQ_ (i := 13) (N := some 20) (tf_ 14 19) (h := ?_)
      refine pureQ_ (i := 14) (N := some 21) (tf_ 15 18) (h := ?_)
      refine pureQ_ (i := 15) (N := some 22) (tf_ 16 17) (h := ?_)
      refine pureQ_ (i := 16) (N := some 23) (tf_ 17 16) (h := ?_)
      refine takeQ_ (i := 17) (N := some 24) (tf_ 18 15) hHeld (hy := Or.inl ⟨by rfl, att7_0_3⟩) (h := ?_)
      refine one_ (i := 18) (N := some 25) (tf_ 19 14) rfl rfl (one_of HT_.out (by kernel_rfl)) (by decide) (fun K hK => ?_)
      refine goes_ Try.func165 (by kernel_rfl) rfl #[.int .i64 a0_1] (by rfl) rfl rfl atgM_ ?_
      with_reducible refine (impl_isReg.calls a0_1 false _ A14.out).mono ?_
      rintro e w' ⟨rfl, ⟨nd, rfl⟩⟩
      refine ⟨_, rfl, ?_⟩
      refine hK.out _ _ ⟨(blk_cell BK255.out 0).trans rfl, (blk_cell BK255.out 1).trans rfl, (blk_cell BK255.out 2).trans rfl, (blk_cell BK255.out 3).trans rfl, (blk_cell BK255.out 4).trans rfl⟩ (fun hHeld => ?_)
      clear hK K
      refine normS_ (N := some 25) (h := ?_)
      refine pureQ_ (i := 19) (N := some 26) (tf_ 20 13) (h := ?_)
      refine pureQ_ (i := 20) (N := some 27) (tf_ 21 12) (h := ?_)
      refine pureQ_ (i := 21) (N := some 28) (tf_ 22 11) (h := ?_)
      refine offQ_ (i := 22) (N := some 29) (tf_ 23 10) (h := ?_)
      refine offQ_ (i := 23) (N := some 30) (tf_ 24 9) (h := ?_)
      refine offQ_ (i := 24) (N := some 31) (tf_ 25 8) (h := ?_)
      refine offQ_ (i := 25) (N := some 32) (tf_ 26 7) (h := ?_)
      refine pureQ_ (i := 26) (N := some 33) (tf_ 27 6) (h := ?_)
      refine pureQ_ (i := 27) (N := some 34) (tf_ 28 5) (h := ?_)
      refine offQ_ (i := 28) (N := some 35) (tf_ 29 4) (h := ?_)
      refine offQ_ (i := 29) (N := some 36) (tf_ 30 3) (h := ?_)
      refine offQ_ (i := 30) (N := some 37) (tf_ 31 2) (h := ?_)
      refine offQ_ (i := 31) (N := some 38) (tf_ 32 1) (h := ?_)
      refine pureQ_ (i := 32) (N := some 39) (tf_ 33 0) (h := ?_)
      refine done_ (done_of HT_.out (by kernel_rfl)) ?_
      try go_wp2
      go_meet
      case rel => exact ⟨_, (true), atgR_, H', ⟨atgO_⟩, ⟨att7_0_2⟩, ⟨att7_0_1⟩⟩
   ·replace c9 := Bool.eq_false_iff.mpr c9
    subst c9
    rw [if_neg (show ¬ (false = true) by decide)] at H
    have H' := Aside0.mk H
    clear H
    try go_wp2
    refine swap2_ (blk_drew BK255.out) (below_drew1 HB.out) ?_
    clear BK255 HB
    intro BK255 HB
    refine start_ (n := 33) (S := fun w' => w'.cell? ⟨gb255, 0, none⟩ = some (.int .i64 a0_0) ∧ w'.cell? ⟨gb255, 1, none⟩ = some (.int .i64 a0_1) ∧ w'.cell? ⟨gb255, 2, none⟩ = some (.int .i64 a0_2) ∧ w'.cell? ⟨gb255, 3, none⟩ = some (.int .i64 a0_3) ∧ w'.cell? ⟨gb255, 4, none⟩ = some (.int .i64 a0_4)) (ds := []) (tf_ 0 33) (by kernel_rfl) rfl rfl ⟨(blk_cell BK255.out 0).trans rfl, (blk_cell BK255.out 1).trans rfl, (blk_cell BK255.out 2).trans rfl, (blk_cell BK255.out 3).trans rfl, (blk_cell BK255.out 4).trans rfl⟩ (fun hHeld => ?_); refine with_tabW impl_InsOk.tab1 impl_InsOk.bits1 (fun HT_ HW_ => ?_)
    generalize w5.drew = w25 at BK255 HB hHeld ⊢
    refine pureQ_ (i := 0) (N := some 7) (tf_ 1 32) (h := ?_)
    refine one_ (i := 1) (N := some 8) (tf_ 2 31) rfl rfl (one_of HT_.out (by kernel_rfl)) (by decide) (fun K hK => ?_)
    refine goes_ Try.func117 (by kernel_rfl) rfl #[.int .i64 a2, .int .i64 0, .int .i64 3] (by rfl) rfl rfl atgM_ ?_
    with_reducible refine (impl_within.calls a2 0 3 true _ A6.out).mono ?_
    rintro e w' ⟨rfl, ⟨nd, rfl⟩⟩
    refine ⟨_, rfl, ?_⟩
    refine hK.out _ _ ⟨(blk_cell BK255.out 0).trans rfl, (blk_cell BK255.out 1).trans rfl, (blk_cell BK255.out 2).trans rfl, (blk_cell BK255.out 3).trans rfl, (blk_cell BK255.out 4).trans rfl⟩ (fun hHeld => ?_)
    clear hK K
    refine normS_ (N := some 8) (h := ?_)
    refine pureQ_ (i := 2) (N := some 9) (tf_ 3 30) (h := ?_)
    refine pureQ_ (i := 3) (N := some 10) (tf_ 4 29) (h := ?_)
    refine pureQ_ (i := 4) (N := some 11) (tf_ 5 28) (h := ?_)
    refine takeQ_ (i := 5) (N := some 12) (tf_ 6 27) hHeld (hy := Or.inl ⟨by rfl, att7_0_3⟩) (h := ?_)
    refine one_ (i := 6) (N := some 13) (tf_ 7 26) rfl rfl (one_of HT_.out (by kernel_rfl)) (by decide) (fun K hK => ?_)
    refine goes_ Try.func117 (by kernel_rfl) rfl #[.int .i64 a0_0, .int .i64 1, .int .i64 13] (by rfl) rfl rfl atgM_ ?_
    with_reducible refine (impl_within.calls a0_0 1 13 false _ A8.out).mono ?_
    rintro e w' ⟨rfl, ⟨nd, rfl⟩⟩
    refine ⟨_, rfl, ?_⟩
    refine hK.out _ _ ⟨(blk_cell BK255.out 0).trans rfl, (blk_cell BK255.out 1).trans rfl, (blk_cell BK255.out 2).trans rfl, (blk_cell BK255.out 3).trans rfl, (blk_cell BK255.out 4).trans rfl⟩ (fun hHeld => ?_)
    clear hK K
    refine normS_ (N := some 13) (h := ?_)
    refine pureQ_ (i := 7) (N := some 14) (tf_ 8 25) (h := ?_)
    refine pureQ_ (i := 8) (N := some 15) (tf_ 9 24) (h := ?_)
    refine pureQ_ (i := 9) (N := some 16) (tf_ 10 23) (h := ?_)
    refine offQ_ (i := 10) (N := some 17) (tf_ 11 22) (h := ?_)
    refine offQ_ (i := 11) (N := some 18) (tf_ 12 21) (h := ?_)
    refine offQ_ (i := 12) (N := some 19) (tf_ 13 20) (h := ?_)
    refine offQ_ (i := 13) (N := some 20) (tf_ 14 19) (h := ?_)
    refine pureQ_ (i := 14) (N := some 21) (tf_ 15 18) (h := ?_)
    refine pureQ_ (i := 15) (N := some 22) (tf_ 16 17) (h := ?_)
    refine offQ_ (i := 16) (N := some 23) (tf_ 17 16) (h := ?_)
    refine offQ_ (i := 17) (N := some 24) (tf_ 18 15) (h := ?_)
    refine offQ_ (i := 18) (N := some 25) (tf_ 19 14) (h := ?_)
    refine offQ_ (i := 19) (N := some 26) (tf_ 20 13) (h := ?_)
    refine pureQ_ (i := 20) (N := some 27) (tf_ 21 12) (h := ?_)
    refine pureQ_ (i := 21) (N := some 28) (tf_ 22 11) (h := ?_)
    refine offQ_ (i := 22) (N := some 29) (tf_ 23 10) (h := ?_)
    refine offQ_ (i := 23) (N := some 30) (tf_ 24 9) (h := ?_)
    refine offQ_ (i := 24) (N := some 31) (tf_ 25 8) (h := ?_)
    refine offQ_ (i := 25) (N := some 32) (tf_ 26 7) (h := ?_)
    refine pureQ_ (i := 26) (N := some 33) (tf_ 27 6) (h := ?_)
    refine pureQ_ (i := 27) (N := some 34) (tf_ 28 5) (h := ?_)
    refine offQ_ (i := 28) (N := some 35) (tf_ 29 4) (h := ?_)
    refine offQ_ (i := 29) (N := some 36) (tf_ 30 3) (h := ?_)
    refine offQ_ (i := 30) (N := some 37) (tf_ 31 2) (h := ?_)
    refine offQ_ (i := 31) (N := some 38) (tf_ 32 1) (h := ?_)
    refine pureQ_ (i := 32) (N := some 39) (tf_ 33 0) (h := ?_)
    refine done_ (done_of HT_.out (by kernel_rfl)) ?_
    try go_wp2
    go_meet
    case rel => exact ⟨_, (true), atgR_, H', ⟨atgO_⟩, ⟨att7_0_2⟩, ⟨att7_0_1⟩⟩
  ·replace c7 := Bool.eq_false_iff.mpr c7
   subst c7
   rw [if_neg (show ¬ (false = true) by decide)] at H
   have H' := Aside0.mk H
   clear H
   try go_wp2
   refine swap2_ (blk_drew BK255.out) (below_drew1 HB.out) ?_
   clear BK255 HB
   intro BK255 HB
   refine start_ (n := 33) (S := fun w' => True) (ds := []) (tf_ 0 33) (by kernel_rfl) rfl rfl trivial (fun hHeld => ?_); refine with_tabW impl_InsOk.tab1 impl_InsOk.bits1 (fun HT_ HW_ => ?_)
   generalize w5.drew = w26 at BK255 HB hHeld ⊢
   refine pureQ_ (i := 0) (N := some 7) (tf_ 1 32) (h := ?_)
   refine one_ (i := 1) (N := some 8) (tf_ 2 31) rfl rfl (one_of HT_.out (by kernel_rfl)) (by decide) (fun K hK => ?_)
   refine goes_ Try.func117 (by kernel_rfl) rfl #[.int .i64 a2, .int .i64 0, .int .i64 3] (by rfl) rfl rfl atgM_ ?_
   with_reducible refine (impl_within.calls a2 0 3 false _ A6.out).mono ?_
   rintro e w' ⟨rfl, ⟨nd, rfl⟩⟩
   refine ⟨_, rfl, ?_⟩
   refine hK.out _ _ trivial (fun hHeld => ?_)
   clear hK K
   refine normS_ (N := some 8) (h := ?_)
   refine pureQ_ (i := 2) (N := some 9) (tf_ 3 30) (h := ?_)
   refine pureQ_ (i := 3) (N := some 10) (tf_ 4 29) (h := ?_)
   refine offQ_ (i := 4) (N := some 11) (tf_ 5 28) (h := ?_)
   refine offQ_ (i := 5) (N := some 12) (tf_ 6 27) (h := ?_)
   refine offQ_ (i := 6) (N := some 13) (tf_ 7 26) (h := ?_)
   refine offQ_ (i := 7) (N := some 14) (tf_ 8 25) (h := ?_)
   refine pureQ_ (i := 8) (N := some 15) (tf_ 9 24) (h := ?_)
   refine pureQ_ (i := 9) (N := some 16) (tf_ 10 23) (h := ?_)
   refine offQ_ (i := 10) (N := some 17) (tf_ 11 22) (h := ?_)
   refine offQ_ (i := 11) (N := some 18) (tf_ 12 21) (h := ?_)
   refine offQ_ (i := 12) (N := some 19) (tf_ 13 20) (h := ?_)
   refine offQ_ (i := 13) (N := some 20) (tf_ 14 19) (h := ?_)
   refine pureQ_ (i := 14) (N := some 21) (tf_ 15 18) (h := ?_)
   refine pureQ_ (i := 15) (N := some 22) (tf_ 16 17) (h := ?_)
   refine offQ_ (i := 16) (N := some 23) (tf_ 17 16) (h := ?_)
   refine offQ_ (i := 17) (N := some 24) (tf_ 18 15) (h := ?_)
   refine offQ_ (i := 18) (N := some 25) (tf_ 19 14) (h := ?_)
   refine offQ_ (i := 19) (N := some 26) (tf_ 20 13) (h := ?_)
   refine pureQ_ (i := 20) (N := some 27) (tf_ 21 12) (h := ?_)
   refine pureQ_ (i := 21) (N := some 28) (tf_ 22 11) (h := ?_)
   refine offQ_ (i := 22) (N := some 29) (tf_ 23 10) (h := ?_)
   refine offQ_ (i := 23) (N := some 30) (tf_ 24 9) (h := ?_)
   refine offQ_ (i := 24) (N := some 31) (tf_ 25 8) (h := ?_)
   refine offQ_ (i := 25) (N := some 32) (tf_ 26 7) (h := ?_)
   refine pureQ_ (i := 26) (N := some 33) (tf_ 27 6) (h := ?_)
   refine pureQ_ (i := 27) (N := some 34) (tf_ 28 5) (h := ?_)
   refine offQ_ (i := 28) (N := some 35) (tf_ 29 4) (h := ?_)
   refine offQ_ (i := 29) (N := some 36) (tf_ 30 3) (h := ?_)
   refine offQ_ (i := 30) (N := some 37) (tf_ 31 2) (h := ?_)
   refine offQ_ (i := 31) (N := some 38) (tf_ 32 1) (h := ?_)
   refine pureQ_ (i := 32) (N := some 39) (tf_ 33 0) (h := ?_)
   refine done_ (done_of HT_.out (by kernel_rfl)) ?_
   try go_wp2
   go_meet
   case rel => exact ⟨_, (true), atgR_, H', ⟨atgO_⟩, ⟨att7_0_2⟩, ⟨att7_0_1⟩⟩
 case rest =>
  clear HC4
  try clear c1
  try clear p2
  try clear c7
  try clear c9
  try clear c11
  try clear c16
  obtain ⟨kq, x39_3, rfl, HA, HJ3, BK255, HB⟩ := hcut
  cases kq with
  | zero => exact absurd HA.out (by simp [impl_InsOk.j0])
  | succ kj3 =>
   have H := HA.out
   clear HA
   simp only [impl_InsOk.j0] at H
   by_cases c27 : x39_3 = true
   ·subst c27
    rw [if_pos rfl] at H
    obtain rfl := Option.some.inj H
    go_wp2
    go_ret
    exact ⟨retT_, att7_0_1⟩
   ·replace c27 := Bool.eq_false_iff.mpr c27
    subst c27
    rw [if_neg (show ¬ (false = true) by decide)] at H
    by_cases c28 : a0_0 = 1
    ·rw [if_pos c28] at H
     have c28b0 := beq_iff_eq.mpr c28
     have c28b1 := bne_eq_false_iff_eq.mpr c28
     clear c28
     replace H := Option.bind_eq_some_iff.mp H
     obtain ⟨t266, A290, H⟩ := H
     (try dsimp only at H)
     have A29 := Aside0.mk A290
     clear A290
     obtain rfl := Option.some.inj H
     obtain ⟨hcz30_0, hcz30_1, hcz30_2, hcz30_3, hcz30_4, hfz30_0, hfz30_1, hfz30_2, hfz30_3, hfz30_4⟩ := blkB5_ BK255
     go_wp2_with (first | ((with_reducible refine gate_callee (f := 117) rfl ?_); refine goesL_ (some 46) rfl rfl Try.func117 (by kernel_rfl) rfl #[.int .i64 a0_4, .int .i64 (-1000000000), .int .i64 1000000000] rfl atgM_ ?_; (with_reducible refine (impl_within.calls a0_4 (-1000000000) 1000000000 t266 _ A29.out).mono ?_); rintro e w' ⟨rfl, ⟨nd, rfl⟩⟩; refine ⟨_, rfl, ?_⟩))
     go_ret
     exact ⟨retT_, att7_0_1⟩
    ·rw [if_neg c28] at H
     have c28b0 := beq_eq_false_iff_ne.mpr c28
     have c28b1 := bne_iff_ne.mpr c28
     have HC31 := Aside0.mk H
     clear H
     obtain ⟨hcz32_0, hcz32_1, hcz32_2, hcz32_3, hcz32_4, hfz32_0, hfz32_1, hfz32_2, hfz32_3, hfz32_4⟩ := blkB5_ BK255
     go_upto_region 5 with (fail)
     go_cut [47] (fun v47 wc => ∃ (kq : Nat) (x47_30 : Bool), v47 = .bool x47_30 ∧ Aside0 (impl_InsOk.j1 kq a1 a2 x47_30 a0_0 a0_1 a0_2 a0_3 a0_4 = some r) ∧ Aside0 (kq ≤ kj3) ∧ Aside0 (wc.heap[gb255]? = some (.cells #[.int .i64 a0_0, .int .i64 a0_1, .int .i64 a0_2, .int .i64 a0_3, .int .i64 a0_4] 37 (0, 0))) ∧ Aside0 (Below w.heap.size w wc))
     case first =>
      have H := HC31.out
      clear HC31
      by_cases c33 : a0_0 = 11
      ·rw [if_pos c33] at H
       have c33b0 := beq_iff_eq.mpr c33
       have c33b1 := bne_eq_false_iff_eq.mpr c33
       clear c33
       (first | rw [c33b0] | (simp only [i64_w, i32_w]; rw [c33b0]) | skip)
       have H' := Aside0.mk H
       clear H
       obtain ⟨hcz34_0, hcz34_1, hcz34_2, hcz34_3, hcz34_4, hfz34_0, hfz34_1, hfz34_2, hfz34_3, hfz34_4⟩ := blkB5_ BK255
       go_wp2
       go_meet
       case rel => exact ⟨_, (true), atgR_, H', ⟨by have := HJ3.out; first | omega | exact Nat.le_refl _⟩, ⟨att7_0_2⟩, ⟨att7_0_1⟩⟩
      ·rw [if_neg c33] at H
       have c33b0 := beq_eq_false_iff_ne.mpr c33
       have c33b1 := bne_iff_ne.mpr c33
       (first | rw [c33b0] | (simp only [i64_w, i32_w]; rw [c33b0]) | skip)
       have H' := Aside0.mk H
       clear H
       obtain ⟨hcz35_0, hcz35_1, hcz35_2, hcz35_3, hcz35_4, hfz35_0, hfz35_1, hfz35_2, hfz35_3, hfz35_4⟩ := blkB5_ BK255
       go_wp2
       go_meet
       case rel => exact ⟨_, ((a0_0 == 12)), atgR_, H', ⟨by have := HJ3.out; first | omega | exact Nat.le_refl _⟩, ⟨att7_0_2⟩, ⟨att7_0_1⟩⟩
     case rest =>
      clear HC31
      try clear c1
      try clear c2
      try clear p2
      try clear c3
      try clear c7
      try clear c9
      try clear c11
      try clear c16
      try clear c27
      try clear c28
      try clear c28b0
      try clear c28b1
      try clear c33
      try clear c33b0
      try clear c33b1
      try clear hcz30_0 hcz30_1 hcz30_2 hcz30_3 hcz30_4
      try clear hcz32_0 hcz32_1 hcz32_2 hcz32_3 hcz32_4
      try clear hcz34_0 hcz34_1 hcz34_2 hcz34_3 hcz34_4
      try clear hcz35_0 hcz35_1 hcz35_2 hcz35_3 hcz35_4
      try clear hfz30_0 hfz30_1 hfz30_2 hfz30_3 hfz30_4
      try clear hfz32_0 hfz32_1 hfz32_2 hfz32_3 hfz32_4
      try clear hfz34_0 hfz34_1 hfz34_2 hfz34_3 hfz34_4
      try clear hfz35_0 hfz35_1 hfz35_2 hfz35_3 hfz35_4
      try clear p2
      obtain ⟨kq, x47_30, rfl, HA, HJ30, BK255, HB⟩ := hcut
      cases kq with
      | zero => exact absurd HA.out (by simp [impl_InsOk.j1])
      | succ kj30 =>
       have H := HA.out
       clear HA
       simp only [impl_InsOk.j1] at H
       by_cases c36 : x47_30 = true
       ·subst c36
        rw [if_pos rfl] at H
        replace H := Option.bind_eq_some_iff.mp H
        obtain ⟨t267, A370, H⟩ := H
        (try dsimp only at H)
        have A37 := Aside0.mk A370
        clear A370
        obtain rfl := Option.some.inj H
        obtain ⟨hcz38_0, hcz38_1, hcz38_2, hcz38_3, hcz38_4, hfz38_0, hfz38_1, hfz38_2, hfz38_3, hfz38_4⟩ := blkB5_ BK255
        go_wp2_with (first | ((with_reducible refine gate_callee (f := 117) rfl ?_); refine goesL_ (some 60) rfl rfl Try.func117 (by kernel_rfl) rfl #[.int .i64 a0_4, .int .i64 0, .int .i64 (wrap64 (a1 - 1))] rfl atgM_ ?_; (with_reducible refine (impl_within.calls a0_4 0 (wrap64 (a1 - 1)) t267 _ A37.out).mono ?_); rintro e w' ⟨rfl, ⟨nd, rfl⟩⟩; refine ⟨_, rfl, ?_⟩))
        go_ret
        exact ⟨retT_, att7_0_1⟩
       ·replace c36 := Bool.eq_false_iff.mpr c36
        subst c36
        rw [if_neg (show ¬ (false = true) by decide)] at H
        have HC39 := Aside0.mk H
        clear H
        go_upto_region 7 with (fail)
        go_cut [61] (fun v61 wc => ∃ (kq : Nat) (x61_38 : Bool), v61 = .bool x61_38 ∧ Aside0 (impl_InsOk.j2 kq a2 x61_38 a0_0 a0_1 a0_2 a0_3 a0_4 = some r) ∧ Aside0 (kq ≤ kj30) ∧ Aside0 (wc.heap[gb255]? = some (.cells #[.int .i64 a0_0, .int .i64 a0_1, .int .i64 a0_2, .int .i64 a0_3, .int .i64 a0_4] 37 (0, 0))) ∧ Aside0 (Below w.heap.size w wc))
        case first =>
         have H := HC39.out
         clear HC39
         by_cases c40 : a0_0 = 6
         ·rw [if_pos c40] at H
          have c40b0 := beq_iff_eq.mpr c40
          have c40b1 := bne_eq_false_iff_eq.mpr c40
          clear c40
          (first | rw [c40b0] | (simp only [i64_w, i32_w]; rw [c40b0]) | skip)
          have H' := Aside0.mk H
          clear H
          obtain ⟨hcz41_0, hcz41_1, hcz41_2, hcz41_3, hcz41_4, hfz41_0, hfz41_1, hfz41_2, hfz41_3, hfz41_4⟩ := blkB5_ BK255
          go_wp2
          go_meet
          case rel => exact ⟨_, ((a0_1 == a0_3)), atgR_, H', ⟨att7_0_7⟩, ⟨att7_0_2⟩, ⟨att7_0_1⟩⟩
         ·rw [if_neg c40] at H
          have c40b0 := beq_eq_false_iff_ne.mpr c40
          have c40b1 := bne_iff_ne.mpr c40
          (first | rw [c40b0] | (simp only [i64_w, i32_w]; rw [c40b0]) | skip)
          by_cases c42 : a0_0 = 8
          ·rw [if_pos c42] at H
           have c42b0 := beq_iff_eq.mpr c42
           have c42b1 := bne_eq_false_iff_eq.mpr c42
           clear c42
           have H' := Aside0.mk H
           clear H
           obtain ⟨hcz43_0, hcz43_1, hcz43_2, hcz43_3, hcz43_4, hfz43_0, hfz43_1, hfz43_2, hfz43_3, hfz43_4⟩ := blkB5_ BK255
           go_wp2
           go_meet
           case rel => exact ⟨_, ((a0_1 == a0_3)), atgR_, H', ⟨att7_0_7⟩, ⟨att7_0_2⟩, ⟨att7_0_1⟩⟩
          ·rw [if_neg c42] at H
           have c42b0 := beq_eq_false_iff_ne.mpr c42
           have c42b1 := bne_iff_ne.mpr c42
           have H' := Aside0.mk H
           clear H
           obtain ⟨hcz44_0, hcz44_1, hcz44_2, hcz44_3, hcz44_4, hfz44_0, hfz44_1, hfz44_2, hfz44_3, hfz44_4⟩ := blkB5_ BK255
           go_wp2
           go_meet
           case rel => exact ⟨_, (false), atgR_, H', ⟨att7_0_7⟩, ⟨att7_0_2⟩, ⟨att7_0_1⟩⟩
        case rest =>
         clear HC39
         try clear c1
         try clear c2
         try clear p2
         try clear c3
         try clear c4
         try clear p6
         try clear c7
         try clear c9
         try clear c11
         try clear c16
         try clear c27
         try clear c28
         try clear c28b0
         try clear c28b1
         try clear c33
         try clear c33b0
         try clear c33b1
         try clear c36
         try clear c40
         try clear c40b0
         try clear c40b1
         try clear c42
         try clear c42b0
         try clear c42b1
         try clear hcz30_0 hcz30_1 hcz30_2 hcz30_3 hcz30_4
         try clear hcz32_0 hcz32_1 hcz32_2 hcz32_3 hcz32_4
         try clear hcz34_0 hcz34_1 hcz34_2 hcz34_3 hcz34_4
         try clear hcz35_0 hcz35_1 hcz35_2 hcz35_3 hcz35_4
         try clear hcz38_0 hcz38_1 hcz38_2 hcz38_3 hcz38_4
         try clear hcz41_0 hcz41_1 hcz41_2 hcz41_3 hcz41_4
         try clear hcz43_0 hcz43_1 hcz43_2 hcz43_3 hcz43_4
         try clear hcz44_0 hcz44_1 hcz44_2 hcz44_3 hcz44_4
         try clear hfz30_0 hfz30_1 hfz30_2 hfz30_3 hfz30_4
         try clear hfz32_0 hfz32_1 hfz32_2 hfz32_3 hfz32_4
         try clear hfz34_0 hfz34_1 hfz34_2 hfz34_3 hfz34_4
         try clear hfz35_0 hfz35_1 hfz35_2 hfz35_3 hfz35_4
         try clear hfz38_0 hfz38_1 hfz38_2 hfz38_3 hfz38_4
         try clear hfz41_0 hfz41_1 hfz41_2 hfz41_3 hfz41_4
         try clear hfz43_0 hfz43_1 hfz43_2 hfz43_3 hfz43_4
         try clear hfz44_0 hfz44_1 hfz44_2 hfz44_3 hfz44_4
         try clear p2
         obtain ⟨kq, x61_38, rfl, HA, HJ38, BK255, HB⟩ := hcut
         cases kq with
         | zero => exact absurd HA.out (by simp [impl_InsOk.j2])
         | succ kj38 =>
          have H := HA.out
          clear HA
          simp only [impl_InsOk.j2] at H
          by_cases c45 : x61_38 = true
          ·subst c45
           rw [if_pos rfl] at H
           obtain rfl := Option.some.inj H
           go_wp2
           go_ret
           exact ⟨retT_, att7_0_1⟩
          ·replace c45 := Bool.eq_false_iff.mpr c45
           subst c45
           rw [if_neg (show ¬ (false = true) by decide)] at H
           replace H := Option.bind_eq_some_iff.mp H
           obtain ⟨t268, A460, H⟩ := H
           (try dsimp only at H)
           have A46 := Aside0.mk A460
           clear A460
           by_cases c47 : t268 = true
           ·subst c47
            rw [if_pos rfl] at H
            replace H := Option.bind_eq_some_iff.mp H
            obtain ⟨t269, A480, H⟩ := H
            (try dsimp only at H)
            have A48 := Aside0.mk A480
            clear A480
            obtain rfl := Option.some.inj H
            obtain ⟨hcz49_0, hcz49_1, hcz49_2, hcz49_3, hcz49_4, hfz49_0, hfz49_1, hfz49_2, hfz49_3, hfz49_4⟩ := blkB5_ BK255
            go_wp2_with (first | ((with_reducible refine gate_callee (f := 99) rfl ?_); refine goesL_ (some 79) rfl rfl Try.func99 (by kernel_rfl) rfl #[.int .i64 a0_0] rfl atgM_ ?_; (with_reducible refine (impl_ofChan.calls a0_0 true _ A46.out).mono ?_); rintro e w' ⟨rfl, ⟨nd, rfl⟩⟩; refine ⟨_, rfl, ?_⟩) | (go_at_call 117; (with_reducible refine (impl_within.calls a0_4 0 (wrap64 (a2 - 1)) t269 _ A48.out).mono ?_); rintro e w' ⟨rfl, ⟨nd, rfl⟩⟩))
            go_ret
            exact ⟨retT_, att7_0_1⟩
           ·replace c47 := Bool.eq_false_iff.mpr c47
            subst c47
            rw [if_neg (show ¬ (false = true) by decide)] at H
            obtain rfl := Option.some.inj H
            obtain ⟨hcz50_0, hcz50_1, hcz50_2, hcz50_3, hcz50_4, hfz50_0, hfz50_1, hfz50_2, hfz50_3, hfz50_4⟩ := blkB5_ BK255
            go_wp2_with (first | ((with_reducible refine gate_callee (f := 99) rfl ?_); refine goesL_ (some 79) rfl rfl Try.func99 (by kernel_rfl) rfl #[.int .i64 a0_0] rfl atgM_ ?_; (with_reducible refine (impl_ofChan.calls a0_0 false _ A46.out).mono ?_); rintro e w' ⟨rfl, ⟨nd, rfl⟩⟩; refine ⟨_, rfl, ?_⟩))
            go_ret
            exact ⟨retT_, att7_0_1⟩

end Go.Proofs.Ytonlhgkpmjefkaa.XFnEmitted
