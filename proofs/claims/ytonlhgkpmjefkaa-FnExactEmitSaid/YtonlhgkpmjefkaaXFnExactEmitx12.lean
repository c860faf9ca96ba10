/- Each Go function that the law reaches as a Lean function, and that Go comes to just its answer; written by this session's xprint.py over the kit's printer. -/
import Derived.Test.YtonlhgkpmjefkaaXFnExactEmitx0
import Derived.Test.YtonlhgkpmjefkaaXFnExactEmitx7
import Derived.Test.YtonlhgkpmjefkaaXFnExactEmitx8
import Derived.Test.YtonlhgkpmjefkaaXFnExactEmitx9
import Derived.Test.YtonlhgkpmjefkaaXFnExactEmitx10
import Derived.Test.YtonlhgkpmjefkaaXFnExactEmitx11
namespace Go.Proofs.Ytonlhgkpmjefkaa.XFnExactEmit
open Go.RowKit Go.Proofs.YtonlhgkpmjefkaaW.PrintWords Go.Proofs.YtonlhgkpmjefkaaW.PrintLast Go.Proofs.YtonlhgkpmjefkaaW.PrintMore
attribute [local go_sem] max2_int min2_int max_two min_two max_three min_three max_four min_four   -- for this text's walks alone
set_option linter.unusedVariables false
set_option linter.unusedSimpArgs false

theorem att13_0_0 {p : Prop} (h : p := by repeat (first | (with_reducible first | exact HB.out | apply below_alloc | apply pw_below_drewN | apply below_drew1 | refine below_set ?_ GE582.out) | exact HB.out)) : p := h
theorem att13_0_1 {p : Prop} (h : p := by (with_reducible repeat (first | refine blk_drewN ?_ _ | refine blk_drew ?_ | refine blk_alloc ?_ _)); exact BK582.out) : p := h
theorem att13_0_3 {p : Prop} (h : p := by exact toR_ (HO585.out)) : p := h
theorem att13_0_5 {p : Prop} (h : p := by rintro w' ⟨s0, s1, s2, s3, s4, s5⟩; go_simp; with_reducible rfl) : p := h
/-! ### spec_Emit: function 23 -/
mutual
def spec_Emit.j0 : Nat → List Int → Int → Int → Int → Bool → Int → Int → Int → Int → Int → Option ((List (S46)))
 | 0, _, _, _, _, _, _, _, _, _, _ => none
 | k + 1, x0, x2, x10, x98, x99, x583000, x583001, x583002, x583003, x583004 => if x99 = true then (if 0 ≤ x583004 then (if x583004 < (x0.length : Int) then ((spec_l10Send.f x583000 x583001 x583002 x583003 x583004 x10 (rd x0 x583004) x2).bind fun t645 => (some t645)) else (none)) else (none)) else (if x98 = 6 then (spec_Emit.j1 k x0 x2 x10 (x98 == 6) x583000 x583001 x583002 x583003 x583004) else (spec_Emit.j1 k x0 x2 x10 (x98 == 8) x583000 x583001 x583002 x583003 x583004))
def spec_Emit.j1 : Nat → List Int → Int → Int → Bool → Int → Int → Int → Int → Int → Option ((List (S46)))
 | 0, _, _, _, _, _, _, _, _, _ => none
 | k + 1, x0, x2, x10, x111, x583000, x583001, x583002, x583003, x583004 => if x111 = true then (if 0 ≤ x583004 then (if x583004 < (x0.length : Int) then ((spec_l10Take.f x583000 x583001 x583002 x583003 x583004 x10 (rd x0 x583004) x2).bind fun t649 => (some t649)) else (none)) else (none)) else ((spec_l10Close.f x10 x2).bind fun t652 => (some t652))
end
def spec_Emit.f (k : Nat) (l0 : List Int) (a1_0 : Int) (a1_1 : Int) (a1_2 : Int) (a1_3 : Int) (a1_4 : Int) (a2 : Int) (l3 : List Int) : Option ((List (S46))) := (some (([] : List (S46)) : List (S46))).bind fun y583 => ((spec_InsOk.f k a1_0 a1_1 a1_2 a1_3 a1_4 (l3.length : Int) (l0.length : Int)).bind fun t586 => (if t586 = true then (if a1_0 = 1 then ((spec_l10Set.f a1_1 a1_4).bind fun bt587 => (some (([(⟨bt587.1, bt587.2.1, bt587.2.2.1, bt587.2.2.2.1, bt587.2.2.2.2⟩ : S46)] : List (S46))))) else (if a1_0 = 2 then ((spec_l10Three.f 2 a1_1 a1_2 a1_3).bind fun bt595 => (some (([(⟨bt595.1, bt595.2.1, bt595.2.2.1, bt595.2.2.2.1, bt595.2.2.2.2⟩ : S46)] : List (S46))))) else (if a1_0 = 3 then ((spec_l10Three.f 3 a1_1 a1_2 a1_3).bind fun bt603 => (some (([(⟨bt603.1, bt603.2.1, bt603.2.2.1, bt603.2.2.2.1, bt603.2.2.2.2⟩ : S46)] : List (S46))))) else (if a1_0 = 4 then ((spec_l10Three.f 4 a1_1 a1_2 a1_3).bind fun bt611 => (some (([(⟨bt611.1, bt611.2.1, bt611.2.2.1, bt611.2.2.2.1, bt611.2.2.2.2⟩ : S46)] : List (S46))))) else (if a1_0 = 10 then (some (([(⟨9, 0, a1_2, 0, 0⟩ : S46)] : List (S46)))) else (if a1_0 = 11 then (if 0 ≤ a1_4 then (if a1_4 < (l3.length : Int) then ((spec_l10Jump.f (rd l3 a1_4)).bind fun bt623 => (some (([(⟨bt623.1, bt623.2.1, bt623.2.2.1, bt623.2.2.2.1, bt623.2.2.2.2⟩ : S46)] : List (S46))))) else (none)) else (none)) else (if a1_0 = 12 then (if 0 ≤ a1_4 then (if a1_4 < (l3.length : Int) then ((spec_l10Zero.f a1_2 (rd l3 a1_4)).bind fun bt632 => (some (([(⟨bt632.1, bt632.2.1, bt632.2.2.1, bt632.2.2.2.1, bt632.2.2.2.2⟩ : S46)] : List (S46))))) else (none)) else (none)) else (if a1_0 = 13 then (some (([(⟨12, 0, 0, 0, 0⟩ : S46)] : List (S46)))) else ((spec_Base.f k l0 a1_4).bind fun t643 => (if t643 < 0 then (some y583) else (if a1_0 = 5 then (spec_Emit.j0 k l0 a2 t643 a1_0 (a1_0 == 5) a1_0 a1_1 a1_2 a1_3 a1_4) else (spec_Emit.j0 k l0 a2 t643 a1_0 (a1_0 == 7) a1_0 a1_1 a1_2 a1_3 a1_4)))))))))))) else (some y583)))
theorem spec_Emit.mono_l : ∀ k, (∀ y0 y1 y2 y3 y4 y5 y6 y7 y8 y9, LeO (spec_Emit.j0 k y0 y1 y2 y3 y4 y5 y6 y7 y8 y9) (spec_Emit.j0 (k + 1) y0 y1 y2 y3 y4 y5 y6 y7 y8 y9)) ∧ (∀ y0 y1 y2 y3 y4 y5 y6 y7 y8, LeO (spec_Emit.j1 k y0 y1 y2 y3 y4 y5 y6 y7 y8) (spec_Emit.j1 (k + 1) y0 y1 y2 y3 y4 y5 y6 y7 y8))
 | 0 => ⟨fun _ _ _ _ _ _ _ _ _ _ r h => by simp [spec_Emit.j0] at h, fun _ _ _ _ _ _ _ _ _ r h => by simp [spec_Emit.j1] at h⟩
 | k + 1 => by
  obtain ⟨ih0, ih1⟩ := spec_Emit.mono_l k
  refine ⟨?_, ?_⟩
  all_goals intros
  all_goals first | unfold spec_Emit.j0 | unfold spec_Emit.j1
  all_goals repeat' (with_reducible first | exact ih0 .. | exact ih1 .. | exact spec_Base.mono .. | exact spec_InsOk.mono .. | exact LeO.refl _ | exact LeO.none _ | refine LeO.ite ?_ ?_ | refine LeO.bind ?_ (fun _ => ?_))
theorem spec_Emit.mono : ∀ a0 a1 a2 a3 a4 a5 a6 a7 k, LeO (spec_Emit.f k a0 a1 a2 a3 a4 a5 a6 a7) (spec_Emit.f (k + 1) a0 a1 a2 a3 a4 a5 a6 a7) := by
 intro a0 a1 a2 a3 a4 a5 a6 a7 k
 obtain ⟨ih0, ih1⟩ := spec_Emit.mono_l k
 unfold spec_Emit.f
 repeat' (with_reducible first | exact ih0 .. | exact ih1 .. | exact spec_Base.mono .. | exact spec_InsOk.mono .. | exact LeO.refl _ | exact LeO.none _ | refine LeO.ite ?_ ?_ | refine LeO.bind ?_ (fun _ => ?_))
def spec_Emit.T18 : Bool × List (List Nat × List Nat) := (true, [([], []), ([0], [0]), ([], []), ([], []), ([3], [3]), ([2, 4], [2, 4]), ([5], [5]), ([1, 6], [1, 6]), ([7], [7]), ([8, 7, 0, 1, 2, 3, 4, 5, 6, 7, 8], [8])])
def spec_Emit.B18 : List Nat := [0, 1, 0, 0, 8, 28, 60, 127, 255, 511]
theorem spec_Emit.tab18 : rtab .any (opsOf Try.f23 18) = spec_Emit.T18 := by kernel_rfl
theorem spec_Emit.bits18 : waitsOk spec_Emit.T18.2 spec_Emit.B18 = true := by kernel_rfl
def spec_Emit.T27 : Bool × List (List Nat × List Nat) := (true, [([], []), ([], []), ([], []), ([], []), ([3], [3]), ([2, 4], [2, 4]), ([5], [5]), ([], []), ([0, 1, 6, 7], [0, 1, 6, 7]), ([8, 8, 0, 1, 2, 3, 4, 5, 6, 7, 8], [8])])
def spec_Emit.B27 : List Nat := [0, 0, 0, 0, 8, 28, 60, 0, 255, 511]
theorem spec_Emit.tab27 : rtab .any (opsOf Try.f23 27) = spec_Emit.T27 := by kernel_rfl
theorem spec_Emit.bits27 : waitsOk spec_Emit.T27.2 spec_Emit.B27 = true := by kernel_rfl
def spec_Emit.T30 : Bool × List (List Nat × List Nat) := (true, [([], []), ([], []), ([], []), ([], []), ([3], [3]), ([2, 4], [2, 4]), ([5], [5]), ([], []), ([0, 1, 6, 7], [0, 1, 6, 7]), ([8, 8, 0, 1, 2, 3, 4, 5, 6, 7, 8], [8])])
def spec_Emit.B30 : List Nat := [0, 0, 0, 0, 8, 28, 60, 0, 255, 511]
theorem spec_Emit.tab30 : rtab .any (opsOf Try.f23 30) = spec_Emit.T30 := by kernel_rfl
theorem spec_Emit.bits30 : waitsOk spec_Emit.T30.2 spec_Emit.B30 = true := by kernel_rfl
set_option maxHeartbeats 80000000 in
set_option maxRecDepth 100000 in
theorem spec_Emit.calls (k : Nat) (A0 : Option Addr) (c0 : Nat) (l0 : List Int) (a1_0 : Int) (a1_1 : Int) (a1_2 : Int) (a1_3 : Int) (a1_4 : Int) (a2 : Int) (A3 : Option Addr) (c3 : Nat) (l3 : List Int) (r : List (S46)) (w : World) (hr0 : Kd.C (Kd.int .i64) w A0 l0.length l0) (hc0 : l0.length ≤ c0) (hr3 : Kd.C (Kd.int .i64) w A3 l3.length l3) (hc3 : l3.length ≤ c3) (h : spec_Emit.f k l0 a1_0 a1_1 a1_2 a1_3 a1_4 a2 l3 = some r) :
  Calls Try.prog 23 #[.slice A0 l0.length c0, .agg #[.int .i64 a1_0, .int .i64 a1_1, .int .i64 a1_2, .int .i64 a1_3, .int .i64 a1_4], .int .i64 a2, .slice A3 l3.length c3] w fun e w' => ∃ v0_ : Value, e = .returned (v0_) ∧ Kd.R k46 46 w' w.heap.size (fun _ => True) v0_ r ∧ Below w.heap.size w w' := by
 have hu37 := Try.underlying37
 have hu46 := Try.underlying46
 have HR0 := Aside0.mk hr0
 have HC0 := Aside0.mk hc0
 clear hr0 hc0
 have HR3 := Aside0.mk hr3
 have HC3 := Aside0.mk hc3
 clear hr3 hc3
 have HB := Aside0.mk (Below.refl w.heap.size w)
 have H : ((some (([] : List (S46)) : List (S46))).bind fun y583 => ((spec_InsOk.f k a1_0 a1_1 a1_2 a1_3 a1_4 (l3.length : Int) (l0.length : Int)).bind fun t586 => (if t586 = true then (if a1_0 = 1 then ((spec_l10Set.f a1_1 a1_4).bind fun bt587 => (some (([(⟨bt587.1, bt587.2.1, bt587.2.2.1, bt587.2.2.2.1, bt587.2.2.2.2⟩ : S46)] : List (S46))))) else (if a1_0 = 2 then ((spec_l10Three.f 2 a1_1 a1_2 a1_3).bind fun bt595 => (some (([(⟨bt595.1, bt595.2.1, bt595.2.2.1, bt595.2.2.2.1, bt595.2.2.2.2⟩ : S46)] : List (S46))))) else (if a1_0 = 3 then ((spec_l10Three.f 3 a1_1 a1_2 a1_3).bind fun bt603 => (some (([(⟨bt603.1, bt603.2.1, bt603.2.2.1, bt603.2.2.2.1, bt603.2.2.2.2⟩ : S46)] : List (S46))))) else (if a1_0 = 4 then ((spec_l10Three.f 4 a1_1 a1_2 a1_3).bind fun bt611 => (some (([(⟨bt611.1, bt611.2.1, bt611.2.2.1, bt611.2.2.2.1, bt611.2.2.2.2⟩ : S46)] : List (S46))))) else (if a1_0 = 10 then (some (([(⟨9, 0, a1_2, 0, 0⟩ : S46)] : List (S46)))) else (if a1_0 = 11 then (if 0 ≤ a1_4 then (if a1_4 < (l3.length : Int) then ((spec_l10Jump.f (rd l3 a1_4)).bind fun bt623 => (some (([(⟨bt623.1, bt623.2.1, bt623.2.2.1, bt623.2.2.2.1, bt623.2.2.2.2⟩ : S46)] : List (S46))))) else (none)) else (none)) else (if a1_0 = 12 then (if 0 ≤ a1_4 then (if a1_4 < (l3.length : Int) then ((spec_l10Zero.f a1_2 (rd l3 a1_4)).bind fun bt632 => (some (([(⟨bt632.1, bt632.2.1, bt632.2.2.1, bt632.2.2.2.1, bt632.2.2.2.2⟩ : S46)] : List (S46))))) else (none)) else (none)) else (if a1_0 = 13 then (some (([(⟨12, 0, 0, 0, 0⟩ : S46)] : List (S46)))) else ((spec_Base.f k l0 a1_4).bind fun t643 => (if t643 < 0 then (some y583) else (if a1_0 = 5 then (spec_Emit.j0 k l0 a2 t643 a1_0 (a1_0 == 5) a1_0 a1_1 a1_2 a1_3 a1_4) else (spec_Emit.j0 k l0 a2 t643 a1_0 (a1_0 == 7) a1_0 a1_1 a1_2 a1_3 a1_4)))))))))))) else (some y583)))) = some r := h
 clear h
 obtain ⟨y583, hy583⟩ : ∃ y_ : List (S46), y_ = (([] : List (S46))) := ⟨_, rfl⟩
 replace H := yy_ H hy583
 have Ny583 := Aside0.mk hy583
 clear hy583
 replace H := Option.bind_eq_some_iff.mp H
 obtain ⟨t586, A50, H⟩ := H
 (try dsimp only at H)
 have A5 := Aside0.mk A50
 clear A50
 by_cases c6 : t586 = true
 ·subst c6
  rw [if_pos rfl] at H
  by_cases c7 : a1_0 = 1
  ·rw [if_pos c7] at H
   have c7b0 := beq_iff_eq.mpr c7
   have c7b1 := bne_eq_false_iff_eq.mpr c7
   clear c7
   replace H := Option.bind_eq_some_iff.mp H
   obtain ⟨⟨t587, t588, t589, t590, t591⟩, A80, H⟩ := H
   (try dsimp only at H)
   have A8 := Aside0.mk A80
   clear A80
   obtain ⟨y592, hy592⟩ : ∃ y_ : List (S46), y_ = (([(⟨t587, t588, t589, t590, t591⟩ : S46)] : List (S46))) := ⟨_, rfl⟩
   replace H : (some y592) = some r := by rw [hy592]; exact H
   have Ny592 := Aside0.mk hy592
   clear hy592
   obtain rfl := Option.some.inj H
   go_enter Try.func23, Try.ntmps23
   go_wp2_with (first | ((with_reducible refine gate_dst (N := 5) rfl ?_); refine box_event ?hg (N := 5) ?hd (cs := #[.int .i64 a1_0, .int .i64 a1_1, .int .i64 a1_2, .int .i64 a1_3, .int .i64 a1_4]) (t := 37) ?hr ?_; (case hd => rfl); (case hg => rfl); (case hr => first | (go_simp; done) | (go_simp; rfl)); intro gb582 hg w9 hbox hb; refine swap4_ (below_step atgB_ hb) (hbox) ((by rw [hg]; exact (below_size atgB_) : w.heap.size ≤ gb582)) ((by rw [hg]; exact (below_size atgB_) : w.heap.size ≤ gb582)) ?_; clear HB; intro HB BK582 GW582 GE582; clear hb hbox hg) | ((with_reducible refine gate_dst (N := 11) rfl ?_); refine Kd.R_lit k46 _ 46 ?hg (N := 11) ?hd (xs := ([] : List (S46))) (inner := []) (ok := fun _ => True) (okp := fun _ => True) ?hr ?hp (fun _ hk => hk) trivial (Below.refl _ _) (Nat.le_refl _) (by simp) ?_; (case hd => rfl); (case hg => rfl); (case hr => first | (go_simp; done) | (go_simp; rfl)); (case hp => exact (Reps.none _ _)); intro v584 w10 ho11 hb hg_ hnew_; clear hg_ hnew_; (first | rw [← Ny583.out] at ho11 | (simp only [Int.reduceToNat] at ho11; rw [← Ny583.out] at ho11)); refine swap3_ (Kd.R_lower ho11 (below_size att13_0_0)) (blk_below (g := gb582) (o := .cells #[.int .i64 a1_0, .int .i64 a1_1, .int .i64 a1_2, .int .i64 a1_3, .int .i64 a1_4] 37 (0, 0)) att13_0_1 hb) (below_step att13_0_0 hb) ?_; clear BK582 HB; intro HO585 BK582 HB; clear hb ho11; obtain ⟨hcz12_0, hcz12_1, hcz12_2, hcz12_3, hcz12_4, hfz12_0, hfz12_1, hfz12_2, hfz12_3, hfz12_4⟩ := blkB5_ BK582) | ((with_reducible refine gate_callee (f := 106) rfl ?_); refine goesL_ (some 17) rfl rfl Try.func106 (by kernel_rfl) rfl #[.agg #[.int .i64 a1_0, .int .i64 a1_1, .int .i64 a1_2, .int .i64 a1_3, .int .i64 a1_4], .int .i64 (l3.length : Int), .int .i64 (l0.length : Int)] rfl atgM_ ?_; (with_reducible refine (spec_InsOk.calls k a1_0 a1_1 a1_2 a1_3 a1_4 (l3.length : Int) (l0.length : Int) true _ A5.out).mono ?_); rintro e w13 ⟨rfl, hb⟩; refine ⟨_, rfl, ?_⟩; refine swap3_ (Kd.R_below att13_0_3 hb) (blk_below (g := gb582) (o := .cells #[.int .i64 a1_0, .int .i64 a1_1, .int .i64 a1_2, .int .i64 a1_3, .int .i64 a1_4] 37 (0, 0)) att13_0_1 hb) (below_step att13_0_0 hb) ?_; clear HO585 BK582 HB; intro HO585 BK582 HB; (try clear hb); (try clear hb2); (try clear hk); (try clear hi); obtain ⟨hcz14_0, hcz14_1, hcz14_2, hcz14_3, hcz14_4, hfz14_0, hfz14_1, hfz14_2, hfz14_3, hfz14_4⟩ := blkB5_ BK582) | ((with_reducible refine gate_callee (f := 107) rfl ?_); refine goesL_ (some 28) rfl rfl Try.func107 (by kernel_rfl) rfl #[.int .i64 a1_1, .int .i64 a1_4] rfl atgM_ ?_; (with_reducible refine (spec_l10Set.calls a1_1 a1_4 t587 t588 t589 t590 t591 _ A8.out).mono ?_); rintro e w15 ⟨rfl, hb⟩; refine ⟨_, rfl, ?_⟩; refine swap3_ (Kd.R_below att13_0_3 hb) (blk_below (g := gb582) (o := .cells #[.int .i64 a1_0, .int .i64 a1_1, .int .i64 a1_2, .int .i64 a1_3, .int .i64 a1_4] 37 (0, 0)) att13_0_1 hb) (below_step att13_0_0 hb) ?_; clear HO585 BK582 HB; intro HO585 BK582 HB; (try clear hb); (try clear hb2); (try clear hk); (try clear hi)) | ((with_reducible refine gate_dst (N := 29) rfl ?_); refine Kd.R_lit k46 _ 46 ?hg (N := 29) ?hd (xs := ([(⟨t587, t588, t589, t590, t591⟩ : S46)] : List (S46))) (inner := [.int .i64 t587, .int .i64 t588, .int .i64 t589, .int .i64 t590, .int .i64 t591]) (ok := fun _ => True) (okp := fun _ => True) ?hr ?hp (fun _ hk => hk) trivial (Below.refl _ _) (Nat.le_refl _) (by simp) ?_; (case hd => rfl); (case hg => rfl); (case hr => first | (go_simp; done) | (go_simp; rfl)); (case hp => exact (Reps.c5 (show Kd.M k46 _ _ _ (⟨t587, t588, t589, t590, t591⟩ : S46) [.int .i64 t587, .int .i64 t588, .int .i64 t589, .int .i64 t590, .int .i64 t591] from (k46_mkM _ _ _ (⟨t587, t588, t589, t590, t591⟩ : S46) )) (Reps.none _ _))); intro v593 w16 ho17 hb hg_ hnew_; clear hg_ hnew_; (first | rw [← Ny592.out] at ho17 | (simp only [Int.reduceToNat] at ho17; rw [← Ny592.out] at ho17)); refine swap4_ (Kd.R_elder' att13_0_3 (Kd.R_base ho17) hb) (Kd.R_lower (Kd.R_new' ho17 (Kd.R_lt att13_0_3)) (below_size att13_0_0)) (blk_below (g := gb582) (o := .cells #[.int .i64 a1_0, .int .i64 a1_1, .int .i64 a1_2, .int .i64 a1_3, .int .i64 a1_4] 37 (0, 0)) att13_0_1 hb) (below_step att13_0_0 hb) ?_; clear HO585 BK582 HB; intro HO585 HO594 BK582 HB; clear hb ho17))
   go_ret
   exact ⟨_, retT_, by exact toR_ (Kd.R_mono HO594.out (fun _ hk => trivial)), att13_0_0⟩
  ·rw [if_neg c7] at H
   have c7b0 := beq_eq_false_iff_ne.mpr c7
   have c7b1 := bne_iff_ne.mpr c7
   by_cases c18 : a1_0 = 2
   ·rw [if_pos c18] at H
    have c18b0 := beq_iff_eq.mpr c18
    have c18b1 := bne_eq_false_iff_eq.mpr c18
    clear c18
    replace H := Option.bind_eq_some_iff.mp H
    obtain ⟨⟨t595, t596, t597, t598, t599⟩, A190, H⟩ := H
    (try dsimp only at H)
    have A19 := Aside0.mk A190
    clear A190
    obtain ⟨y600, hy600⟩ : ∃ y_ : List (S46), y_ = (([(⟨t595, t596, t597, t598, t599⟩ : S46)] : List (S46))) := ⟨_, rfl⟩
    replace H : (some y600) = some r := by rw [hy600]; exact H
    have Ny600 := Aside0.mk hy600
    clear hy600
    obtain rfl := Option.some.inj H
    go_enter Try.func23, Try.ntmps23
    go_wp2_with (first | ((with_reducible refine gate_dst (N := 5) rfl ?_); refine box_event ?hg (N := 5) ?hd (cs := #[.int .i64 a1_0, .int .i64 a1_1, .int .i64 a1_2, .int .i64 a1_3, .int .i64 a1_4]) (t := 37) ?hr ?_; (case hd => rfl); (case hg => rfl); (case hr => first | (go_simp; done) | (go_simp; rfl)); intro gb582 hg w20 hbox hb; refine swap4_ (below_step atgB_ hb) (hbox) ((by rw [hg]; exact (below_size atgB_) : w.heap.size ≤ gb582)) ((by rw [hg]; exact (below_size atgB_) : w.heap.size ≤ gb582)) ?_; clear HB; intro HB BK582 GW582 GE582; clear hb hbox hg) | ((with_reducible refine gate_dst (N := 11) rfl ?_); refine Kd.R_lit k46 _ 46 ?hg (N := 11) ?hd (xs := ([] : List (S46))) (inner := []) (ok := fun _ => True) (okp := fun _ => True) ?hr ?hp (fun _ hk => hk) trivial (Below.refl _ _) (Nat.le_refl _) (by simp) ?_; (case hd => rfl); (case hg => rfl); (case hr => first | (go_simp; done) | (go_simp; rfl)); (case hp => exact (Reps.none _ _)); intro v584 w21 ho22 hb hg_ hnew_; clear hg_ hnew_; (first | rw [← Ny583.out] at ho22 | (simp only [Int.reduceToNat] at ho22; rw [← Ny583.out] at ho22)); refine swap3_ (Kd.R_lower ho22 (below_size att13_0_0)) (blk_below (g := gb582) (o := .cells #[.int .i64 a1_0, .int .i64 a1_1, .int .i64 a1_2, .int .i64 a1_3, .int .i64 a1_4] 37 (0, 0)) att13_0_1 hb) (below_step att13_0_0 hb) ?_; clear BK582 HB; intro HO585 BK582 HB; clear hb ho22; obtain ⟨hcz23_0, hcz23_1, hcz23_2, hcz23_3, hcz23_4, hfz23_0, hfz23_1, hfz23_2, hfz23_3, hfz23_4⟩ := blkB5_ BK582) | ((with_reducible refine gate_callee (f := 106) rfl ?_); refine goesL_ (some 17) rfl rfl Try.func106 (by kernel_rfl) rfl #[.agg #[.int .i64 a1_0, .int .i64 a1_1, .int .i64 a1_2, .int .i64 a1_3, .int .i64 a1_4], .int .i64 (l3.length : Int), .int .i64 (l0.length : Int)] rfl atgM_ ?_; (with_reducible refine (spec_InsOk.calls k a1_0 a1_1 a1_2 a1_3 a1_4 (l3.length : Int) (l0.length : Int) true _ A5.out).mono ?_); rintro e w24 ⟨rfl, hb⟩; refine ⟨_, rfl, ?_⟩; refine swap3_ (Kd.R_below att13_0_3 hb) (blk_below (g := gb582) (o := .cells #[.int .i64 a1_0, .int .i64 a1_1, .int .i64 a1_2, .int .i64 a1_3, .int .i64 a1_4] 37 (0, 0)) att13_0_1 hb) (below_step att13_0_0 hb) ?_; clear HO585 BK582 HB; intro HO585 BK582 HB; (try clear hb); (try clear hb2); (try clear hk); (try clear hi); obtain ⟨hcz25_0, hcz25_1, hcz25_2, hcz25_3, hcz25_4, hfz25_0, hfz25_1, hfz25_2, hfz25_3, hfz25_4⟩ := blkB5_ BK582) | ((with_reducible refine gate_callee (f := 108) rfl ?_); refine goesL_ (some 38) rfl rfl Try.func108 (by kernel_rfl) rfl #[.int .i64 2, .int .i64 a1_1, .int .i64 a1_2, .int .i64 a1_3] rfl atgM_ ?_; (with_reducible refine (spec_l10Three.calls 2 a1_1 a1_2 a1_3 t595 t596 t597 t598 t599 _ A19.out).mono ?_); rintro e w26 ⟨rfl, hb⟩; refine ⟨_, rfl, ?_⟩; refine swap3_ (Kd.R_below att13_0_3 hb) (blk_below (g := gb582) (o := .cells #[.int .i64 a1_0, .int .i64 a1_1, .int .i64 a1_2, .int .i64 a1_3, .int .i64 a1_4] 37 (0, 0)) att13_0_1 hb) (below_step att13_0_0 hb) ?_; clear HO585 BK582 HB; intro HO585 BK582 HB; (try clear hb); (try clear hb2); (try clear hk); (try clear hi)) | ((with_reducible refine gate_dst (N := 39) rfl ?_); refine Kd.R_lit k46 _ 46 ?hg (N := 39) ?hd (xs := ([(⟨t595, t596, t597, t598, t599⟩ : S46)] : List (S46))) (inner := [.int .i64 t595, .int .i64 t596, .int .i64 t597, .int .i64 t598, .int .i64 t599]) (ok := fun _ => True) (okp := fun _ => True) ?hr ?hp (fun _ hk => hk) trivial (Below.refl _ _) (Nat.le_refl _) (by simp) ?_; (case hd => rfl); (case hg => rfl); (case hr => first | (go_simp; done) | (go_simp; rfl)); (case hp => exact (Reps.c5 (show Kd.M k46 _ _ _ (⟨t595, t596, t597, t598, t599⟩ : S46) [.int .i64 t595, .int .i64 t596, .int .i64 t597, .int .i64 t598, .int .i64 t599] from (k46_mkM _ _ _ (⟨t595, t596, t597, t598, t599⟩ : S46) )) (Reps.none _ _))); intro v601 w27 ho28 hb hg_ hnew_; clear hg_ hnew_; (first | rw [← Ny600.out] at ho28 | (simp only [Int.reduceToNat] at ho28; rw [← Ny600.out] at ho28)); refine swap4_ (Kd.R_elder' att13_0_3 (Kd.R_base ho28) hb) (Kd.R_lower (Kd.R_new' ho28 (Kd.R_lt att13_0_3)) (below_size att13_0_0)) (blk_below (g := gb582) (o := .cells #[.int .i64 a1_0, .int .i64 a1_1, .int .i64 a1_2, .int .i64 a1_3, .int .i64 a1_4] 37 (0, 0)) att13_0_1 hb) (below_step att13_0_0 hb) ?_; clear HO585 BK582 HB; intro HO585 HO602 BK582 HB; clear hb ho28))
    go_ret
    exact ⟨_, retT_, by exact toR_ (Kd.R_mono HO602.out (fun _ hk => trivial)), att13_0_0⟩
   ·rw [if_neg c18] at H
    have c18b0 := beq_eq_false_iff_ne.mpr c18
    have c18b1 := bne_iff_ne.mpr c18
    by_cases c29 : a1_0 = 3
    ·rw [if_pos c29] at H
     have c29b0 := beq_iff_eq.mpr c29
     have c29b1 := bne_eq_false_iff_eq.mpr c29
     clear c29
     replace H := Option.bind_eq_some_iff.mp H
     obtain ⟨⟨t603, t604, t605, t606, t607⟩, A300, H⟩ := H
     (try dsimp only at H)
     have A30 := Aside0.mk A300
     clear A300
     obtain ⟨y608, hy608⟩ : ∃ y_ : List (S46), y_ = (([(⟨t603, t604, t605, t606, t607⟩ : S46)] : List (S46))) := ⟨_, rfl⟩
     replace H : (some y608) = some r := by rw [hy608]; exact H
     have Ny608 := Aside0.mk hy608
     clear hy608
     obtain rfl := Option.some.inj H
     go_enter Try.func23, Try.ntmps23
     go_wp2_with (first | ((with_reducible refine gate_dst (N := 5) rfl ?_); refine box_event ?hg (N := 5) ?hd (cs := #[.int .i64 a1_0, .int .i64 a1_1, .int .i64 a1_2, .int .i64 a1_3, .int .i64 a1_4]) (t := 37) ?hr ?_; (case hd => rfl); (case hg => rfl); (case hr => first | (go_simp; done) | (go_simp; rfl)); intro gb582 hg w31 hbox hb; refine swap4_ (below_step atgB_ hb) (hbox) ((by rw [hg]; exact (below_size atgB_) : w.heap.size ≤ gb582)) ((by rw [hg]; exact (below_size atgB_) : w.heap.size ≤ gb582)) ?_; clear HB; intro HB BK582 GW582 GE582; clear hb hbox hg) | ((with_reducible refine gate_dst (N := 11) rfl ?_); refine Kd.R_lit k46 _ 46 ?hg (N := 11) ?hd (xs := ([] : List (S46))) (inner := []) (ok := fun _ => True) (okp := fun _ => True) ?hr ?hp (fun _ hk => hk) trivial (Below.refl _ _) (Nat.le_refl _) (by simp) ?_; (case hd => rfl); (case hg => rfl); (case hr => first | (go_simp; done) | (go_simp; rfl)); (case hp => exact (Reps.none _ _)); intro v584 w32 ho33 hb hg_ hnew_; clear hg_ hnew_; (first | rw [← Ny583.out] at ho33 | (simp only [Int.reduceToNat] at ho33; rw [← Ny583.out] at ho33)); refine swap3_ (Kd.R_lower ho33 (below_size att13_0_0)) (blk_below (g := gb582) (o := .cells #[.int .i64 a1_0, .int .i64 a1_1, .int .i64 a1_2, .int .i64 a1_3, .int .i64 a1_4] 37 (0, 0)) att13_0_1 hb) (below_step att13_0_0 hb) ?_; clear BK582 HB; intro HO585 BK582 HB; clear hb ho33; obtain ⟨hcz34_0, hcz34_1, hcz34_2, hcz34_3, hcz34_4, hfz34_0, hfz34_1, hfz34_2, hfz34_3, hfz34_4⟩ := blkB5_ BK582) | ((with_reducible refine gate_callee (f := 106) rfl ?_); refine goesL_ (some 17) rfl rfl Try.func106 (by kernel_rfl) rfl #[.agg #[.int .i64 a1_0, .int .i64 a1_1, .int .i64 a1_2, .int .i64 a1_3, .int .i64 a1_4], .int .i64 (l3.length : Int), .int .i64 (l0.length : Int)] rfl atgM_ ?_; (with_reducible refine (spec_InsOk.calls k a1_0 a1_1 a1_2 a1_3 a1_4 (l3.length : Int) (l0.length : Int) true _ A5.out).mono ?_); rintro e w35 ⟨rfl, hb⟩; refine ⟨_, rfl, ?_⟩; refine swap3_ (Kd.R_below att13_0_3 hb) (blk_below (g := gb582) (o := .cells #[.int .i64 a1_0, .int .i64 a1_1, .int .i64 a1_2, .int .i64 a1_3, .int .i64 a1_4] 37 (0, 0)) att13_0_1 hb) (below_step att13_0_0 hb) ?_; clear HO585 BK582 HB; intro HO585 BK582 HB; (try clear hb); (try clear hb2); (try clear hk); (try clear hi); obtain ⟨hcz36_0, hcz36_1, hcz36_2, hcz36_3, hcz36_4, hfz36_0, hfz36_1, hfz36_2, hfz36_3, hfz36_4⟩ := blkB5_ BK582) | ((with_reducible refine gate_callee (f := 108) rfl ?_); refine goesL_ (some 48) rfl rfl Try.func108 (by kernel_rfl) rfl #[.int .i64 3, .int .i64 a1_1, .int .i64 a1_2, .int .i64 a1_3] rfl atgM_ ?_; (with_reducible refine (spec_l10Three.calls 3 a1_1 a1_2 a1_3 t603 t604 t605 t606 t607 _ A30.out).mono ?_); rintro e w37 ⟨rfl, hb⟩; refine ⟨_, rfl, ?_⟩; refine swap3_ (Kd.R_below att13_0_3 hb) (blk_below (g := gb582) (o := .cells #[.int .i64 a1_0, .int .i64 a1_1, .int .i64 a1_2, .int .i64 a1_3, .int .i64 a1_4] 37 (0, 0)) att13_0_1 hb) (below_step att13_0_0 hb) ?_; clear HO585 BK582 HB; intro HO585 BK582 HB; (try clear hb); (try clear hb2); (try clear hk); (try clear hi)) | ((with_reducible refine gate_dst (N := 49) rfl ?_); refine Kd.R_lit k46 _ 46 ?hg (N := 49) ?hd (xs := ([(⟨t603, t604, t605, t606, t607⟩ : S46)] : List (S46))) (inner := [.int .i64 t603, .int .i64 t604, .int .i64 t605, .int .i64 t606, .int .i64 t607]) (ok := fun _ => True) (okp := fun _ => True) ?hr ?hp (fun _ hk => hk) trivial (Below.refl _ _) (Nat.le_refl _) (by simp) ?_; (case hd => rfl); (case hg => rfl); (case hr => first | (go_simp; done) | (go_simp; rfl)); (case hp => exact (Reps.c5 (show Kd.M k46 _ _ _ (⟨t603, t604, t605, t606, t607⟩ : S46) [.int .i64 t603, .int .i64 t604, .int .i64 t605, .int .i64 t606, .int .i64 t607] from (k46_mkM _ _ _ (⟨t603, t604, t605, t606, t607⟩ : S46) )) (Reps.none _ _))); intro v609 w38 ho39 hb hg_ hnew_; clear hg_ hnew_; (first | rw [← Ny608.out] at ho39 | (simp only [Int.reduceToNat] at ho39; rw [← Ny608.out] at ho39)); refine swap4_ (Kd.R_elder' att13_0_3 (Kd.R_base ho39) hb) (Kd.R_lower (Kd.R_new' ho39 (Kd.R_lt att13_0_3)) (below_size att13_0_0)) (blk_below (g := gb582) (o := .cells #[.int .i64 a1_0, .int .i64 a1_1, .int .i64 a1_2, .int .i64 a1_3, .int .i64 a1_4] 37 (0, 0)) att13_0_1 hb) (below_step att13_0_0 hb) ?_; clear HO585 BK582 HB; intro HO585 HO610 BK582 HB; clear hb ho39))
     go_ret
     exact ⟨_, retT_, by exact toR_ (Kd.R_mono HO610.out (fun _ hk => trivial)), att13_0_0⟩
    ·rw [if_neg c29] at H
     have c29b0 := beq_eq_false_iff_ne.mpr c29
     have c29b1 := bne_iff_ne.mpr c29
     by_cases c40 : a1_0 = 4
     ·rw [if_pos c40] at H
      have c40b0 := beq_iff_eq.mpr c40
      have c40b1 := bne_eq_false_iff_eq.mpr c40
      clear c40
      replace H := Option.bind_eq_some_iff.mp H
      obtain ⟨⟨t611, t612, t613, t614, t615⟩, A410, H⟩ := H
      (try dsimp only at H)
      have A41 := Aside0.mk A410
      clear A410
      obtain ⟨y616, hy616⟩ : ∃ y_ : List (S46), y_ = (([(⟨t611, t612, t613, t614, t615⟩ : S46)] : List (S46))) := ⟨_, rfl⟩
      replace H : (some y616) = some r := by rw [hy616]; exact H
      have Ny616 := Aside0.mk hy616
      clear hy616
      obtain rfl := Option.some.inj H
      go_enter Try.func23, Try.ntmps23
      go_wp2_with (first | ((with_reducible refine gate_dst (N := 5) rfl ?_); refine box_event ?hg (N := 5) ?hd (cs := #[.int .i64 a1_0, .int .i64 a1_1, .int .i64 a1_2, .int .i64 a1_3, .int .i64 a1_4]) (t := 37) ?hr ?_; (case hd => rfl); (case hg => rfl); (case hr => first | (go_simp; done) | (go_simp; rfl)); intro gb582 hg w42 hbox hb; refine swap4_ (below_step atgB_ hb) (hbox) ((by rw [hg]; exact (below_size atgB_) : w.heap.size ≤ gb582)) ((by rw [hg]; exact (below_size atgB_) : w.heap.size ≤ gb582)) ?_; clear HB; intro HB BK582 GW582 GE582; clear hb hbox hg) | ((with_reducible refine gate_dst (N := 11) rfl ?_); refine Kd.R_lit k46 _ 46 ?hg (N := 11) ?hd (xs := ([] : List (S46))) (inner := []) (ok := fun _ => True) (okp := fun _ => True) ?hr ?hp (fun _ hk => hk) trivial (Below.refl _ _) (Nat.le_refl _) (by simp) ?_; (case hd => rfl); (case hg => rfl); (case hr => first | (go_simp; done) | (go_simp; rfl)); (case hp => exact (Reps.none _ _)); intro v584 w43 ho44 hb hg_ hnew_; clear hg_ hnew_; (first | rw [← Ny583.out] at ho44 | (simp only [Int.reduceToNat] at ho44; rw [← Ny583.out] at ho44)); refine swap3_ (Kd.R_lower ho44 (below_size att13_0_0)) (blk_below (g := gb582) (o := .cells #[.int .i64 a1_0, .int .i64 a1_1, .int .i64 a1_2, .int .i64 a1_3, .int .i64 a1_4] 37 (0, 0)) att13_0_1 hb) (below_step att13_0_0 hb) ?_; clear BK582 HB; intro HO585 BK582 HB; clear hb ho44; obtain ⟨hcz45_0, hcz45_1, hcz45_2, hcz45_3, hcz45_4, hfz45_0, hfz45_1, hfz45_2, hfz45_3, hfz45_4⟩ := blkB5_ BK582) | ((with_reducible refine gate_callee (f := 106) rfl ?_); refine goesL_ (some 17) rfl rfl Try.func106 (by kernel_rfl) rfl #[.agg #[.int .i64 a1_0, .int .i64 a1_1, .int .i64 a1_2, .int .i64 a1_3, .int .i64 a1_4], .int .i64 (l3.length : Int), .int .i64 (l0.length : Int)] rfl atgM_ ?_; (with_reducible refine (spec_InsOk.calls k a1_0 a1_1 a1_2 a1_3 a1_4 (l3.length : Int) (l0.length : Int) true _ A5.out).mono ?_); rintro e w46 ⟨rfl, hb⟩; refine ⟨_, rfl, ?_⟩; refine swap3_ (Kd.R_below att13_0_3 hb) (blk_below (g := gb582) (o := .cells #[.int .i64 a1_0, .int .i64 a1_1, .int .i64 a1_2, .int .i64 a1_3, .int .i64 a1_4] 37 (0, 0)) att13_0_1 hb) (below_step att13_0_0 hb) ?_; clear HO585 BK582 HB; intro HO585 BK582 HB; (try clear hb); (try clear hb2); (try clear hk); (try clear hi); obtain ⟨hcz47_0, hcz47_1, hcz47_2, hcz47_3, hcz47_4, hfz47_0, hfz47_1, hfz47_2, hfz47_3, hfz47_4⟩ := blkB5_ BK582) | ((with_reducible refine gate_callee (f := 108) rfl ?_); refine goesL_ (some 58) rfl rfl Try.func108 (by kernel_rfl) rfl #[.int .i64 4, .int .i64 a1_1, .int .i64 a1_2, .int .i64 a1_3] rfl atgM_ ?_; (with_reducible refine (spec_l10Three.calls 4 a1_1 a1_2 a1_3 t611 t612 t613 t614 t615 _ A41.out).mono ?_); rintro e w48 ⟨rfl, hb⟩; refine ⟨_, rfl, ?_⟩; refine swap3_ (Kd.R_below att13_0_3 hb) (blk_below (g := gb582) (o := .cells #[.int .i64 a1_0, .int .i64 a1_1, .int .i64 a1_2, .int .i64 a1_3, .int .i64 a1_4] 37 (0, 0)) att13_0_1 hb) (below_step att13_0_0 hb) ?_; clear HO585 BK582 HB; intro HO585 BK582 HB; (try clear hb); (try clear hb2); (try clear hk); (try clear hi)) | ((with_reducible refine gate_dst (N := 59) rfl ?_); refine Kd.R_lit k46 _ 46 ?hg (N := 59) ?hd (xs := ([(⟨t611, t612, t613, t614, t615⟩ : S46)] : List (S46))) (inner := [.int .i64 t611, .int .i64 t612, .int .i64 t613, .int .i64 t614, .int .i64 t615]) (ok := fun _ => True) (okp := fun _ => True) ?hr ?hp (fun _ hk => hk) trivial (Below.refl _ _) (Nat.le_refl _) (by simp) ?_; (case hd => rfl); (case hg => rfl); (case hr => first | (go_simp; done) | (go_simp; rfl)); (case hp => exact (Reps.c5 (show Kd.M k46 _ _ _ (⟨t611, t612, t613, t614, t615⟩ : S46) [.int .i64 t611, .int .i64 t612, .int .i64 t613, .int .i64 t614, .int .i64 t615] from (k46_mkM _ _ _ (⟨t611, t612, t613, t614, t615⟩ : S46) )) (Reps.none _ _))); intro v617 w49 ho50 hb hg_ hnew_; clear hg_ hnew_; (first | rw [← Ny616.out] at ho50 | (simp only [Int.reduceToNat] at ho50; rw [← Ny616.out] at ho50)); refine swap4_ (Kd.R_elder' att13_0_3 (Kd.R_base ho50) hb) (Kd.R_lower (Kd.R_new' ho50 (Kd.R_lt att13_0_3)) (below_size att13_0_0)) (blk_below (g := gb582) (o := .cells #[.int .i64 a1_0, .int .i64 a1_1, .int .i64 a1_2, .int .i64 a1_3, .int .i64 a1_4] 37 (0, 0)) att13_0_1 hb) (below_step att13_0_0 hb) ?_; clear HO585 BK582 HB; intro HO585 HO618 BK582 HB; clear hb ho50))
      go_ret
      exact ⟨_, retT_, by exact toR_ (Kd.R_mono HO618.out (fun _ hk => trivial)), att13_0_0⟩
     ·rw [if_neg c40] at H
      have c40b0 := beq_eq_false_iff_ne.mpr c40
      have c40b1 := bne_iff_ne.mpr c40
      by_cases c51 : a1_0 = 10
      ·rw [if_pos c51] at H
       have c51b0 := beq_iff_eq.mpr c51
       have c51b1 := bne_eq_false_iff_eq.mpr c51
       clear c51
       obtain ⟨y619, hy619⟩ : ∃ y_ : List (S46), y_ = (([(⟨9, 0, a1_2, 0, 0⟩ : S46)] : List (S46))) := ⟨_, rfl⟩
       replace H : (some y619) = some r := by rw [hy619]; exact H
       have Ny619 := Aside0.mk hy619
       clear hy619
       obtain rfl := Option.some.inj H
       go_enter Try.func23, Try.ntmps23
       go_wp2_with (first | ((with_reducible refine gate_dst (N := 5) rfl ?_); refine box_event ?hg (N := 5) ?hd (cs := #[.int .i64 a1_0, .int .i64 a1_1, .int .i64 a1_2, .int .i64 a1_3, .int .i64 a1_4]) (t := 37) ?hr ?_; (case hd => rfl); (case hg => rfl); (case hr => first | (go_simp; done) | (go_simp; rfl)); intro gb582 hg w52 hbox hb; refine swap4_ (below_step atgB_ hb) (hbox) ((by rw [hg]; exact (below_size atgB_) : w.heap.size ≤ gb582)) ((by rw [hg]; exact (below_size atgB_) : w.heap.size ≤ gb582)) ?_; clear HB; intro HB BK582 GW582 GE582; clear hb hbox hg) | ((with_reducible refine gate_dst (N := 11) rfl ?_); refine Kd.R_lit k46 _ 46 ?hg (N := 11) ?hd (xs := ([] : List (S46))) (inner := []) (ok := fun _ => True) (okp := fun _ => True) ?hr ?hp (fun _ hk => hk) trivial (Below.refl _ _) (Nat.le_refl _) (by simp) ?_; (case hd => rfl); (case hg => rfl); (case hr => first | (go_simp; done) | (go_simp; rfl)); (case hp => exact (Reps.none _ _)); intro v584 w53 ho54 hb hg_ hnew_; clear hg_ hnew_; (first | rw [← Ny583.out] at ho54 | (simp only [Int.reduceToNat] at ho54; rw [← Ny583.out] at ho54)); refine swap3_ (Kd.R_lower ho54 (below_size att13_0_0)) (blk_below (g := gb582) (o := .cells #[.int .i64 a1_0, .int .i64 a1_1, .int .i64 a1_2, .int .i64 a1_3, .int .i64 a1_4] 37 (0, 0)) att13_0_1 hb) (below_step att13_0_0 hb) ?_; clear BK582 HB; intro HO585 BK582 HB; clear hb ho54; obtain ⟨hcz55_0, hcz55_1, hcz55_2, hcz55_3, hcz55_4, hfz55_0, hfz55_1, hfz55_2, hfz55_3, hfz55_4⟩ := blkB5_ BK582) | ((with_reducible refine gate_callee (f := 106) rfl ?_); refine goesL_ (some 17) rfl rfl Try.func106 (by kernel_rfl) rfl #[.agg #[.int .i64 a1_0, .int .i64 a1_1, .int .i64 a1_2, .int .i64 a1_3, .int .i64 a1_4], .int .i64 (l3.length : Int), .int .i64 (l0.length : Int)] rfl atgM_ ?_; (with_reducible refine (spec_InsOk.calls k a1_0 a1_1 a1_2 a1_3 a1_4 (l3.length : Int) (l0.length : Int) true _ A5.out).mono ?_); rintro e w56 ⟨rfl, hb⟩; refine ⟨_, rfl, ?_⟩; refine swap3_ (Kd.R_below att13_0_3 hb) (blk_below (g := gb582) (o := .cells #[.int .i64 a1_0, .int .i64 a1_1, .int .i64 a1_2, .int .i64 a1_3, .int .i64 a1_4] 37 (0, 0)) att13_0_1 hb) (below_step att13_0_0 hb) ?_; clear HO585 BK582 HB; intro HO585 BK582 HB; (try clear hb); (try clear hb2); (try clear hk); (try clear hi); obtain ⟨hcz57_0, hcz57_1, hcz57_2, hcz57_3, hcz57_4, hfz57_0, hfz57_1, hfz57_2, hfz57_3, hfz57_4⟩ := blkB5_ BK582) | ((with_reducible refine gate_dst (N := 65) rfl ?_); refine Kd.R_lit k46 _ 46 ?hg (N := 65) ?hd (xs := ([(⟨9, 0, a1_2, 0, 0⟩ : S46)] : List (S46))) (inner := [.int .i64 9, .int .i64 0, .int .i64 a1_2, .int .i64 0, .int .i64 0]) (ok := fun _ => True) (okp := fun _ => True) ?hr ?hp (fun _ hk => hk) trivial (Below.refl _ _) (Nat.le_refl _) (by simp) ?_; (case hd => rfl); (case hg => rfl); (case hr => first | (go_simp; done) | (go_simp; rfl)); (case hp => exact (Reps.c5 (show Kd.M k46 _ _ _ (⟨9, 0, a1_2, 0, 0⟩ : S46) [.int .i64 9, .int .i64 0, .int .i64 a1_2, .int .i64 0, .int .i64 0] from (k46_mkM _ _ _ (⟨9, 0, a1_2, 0, 0⟩ : S46) )) (Reps.none _ _))); intro v620 w58 ho59 hb hg_ hnew_; clear hg_ hnew_; (first | rw [← Ny619.out] at ho59 | (simp only [Int.reduceToNat] at ho59; rw [← Ny619.out] at ho59)); refine swap4_ (Kd.R_elder' att13_0_3 (Kd.R_base ho59) hb) (Kd.R_lower (Kd.R_new' ho59 (Kd.R_lt att13_0_3)) (below_size att13_0_0)) (blk_below (g := gb582) (o := .cells #[.int .i64 a1_0, .int .i64 a1_1, .int .i64 a1_2, .int .i64 a1_3, .int .i64 a1_4] 37 (0, 0)) att13_0_1 hb) (below_step att13_0_0 hb) ?_; clear HO585 BK582 HB; intro HO585 HO621 BK582 HB; clear hb ho59))
       go_ret
       exact ⟨_, retT_, by exact toR_ (Kd.R_mono HO621.out (fun _ hk => trivial)), att13_0_0⟩
      ·rw [if_neg c51] at H
       have c51b0 := beq_eq_false_iff_ne.mpr c51
       have c51b1 := bne_iff_ne.mpr c51
       by_cases c60 : a1_0 = 11
       ·rw [if_pos c60] at H
        have c60b0 := beq_iff_eq.mpr c60
        have c60b1 := bne_eq_false_iff_eq.mpr c60
        clear c60
        by_cases c61 : 0 ≤ a1_4
        ·rw [if_pos c61] at H
         have c61b0 := decide_eq_true c61
         clear c61
         by_cases c62 : a1_4 < (l3.length : Int)
         ·rw [if_pos c62] at H
          have c62b0 := decide_eq_true c62
          clear c62
          replace H := Option.bind_eq_some_iff.mp H
          obtain ⟨⟨t623, t624, t625, t626, t627⟩, A630, H⟩ := H
          (try dsimp only at H)
          have A63 := Aside0.mk A630
          clear A630
          obtain ⟨y628, hy628⟩ : ∃ y_ : List (S46), y_ = (([(⟨t623, t624, t625, t626, t627⟩ : S46)] : List (S46))) := ⟨_, rfl⟩
          replace H : (some y628) = some r := by rw [hy628]; exact H
          have Ny628 := Aside0.mk hy628
          clear hy628
          obtain rfl := Option.some.inj H
          go_enter Try.func23, Try.ntmps23
          go_wp2_with (first | ((with_reducible refine gate_dst (N := 5) rfl ?_); refine box_event ?hg (N := 5) ?hd (cs := #[.int .i64 a1_0, .int .i64 a1_1, .int .i64 a1_2, .int .i64 a1_3, .int .i64 a1_4]) (t := 37) ?hr ?_; (case hd => rfl); (case hg => rfl); (case hr => first | (go_simp; done) | (go_simp; rfl)); intro gb582 hg w64 hbox hb; refine swap4_ (below_step atgB_ hb) (hbox) ((by rw [hg]; exact (below_size atgB_) : w.heap.size ≤ gb582)) ((by rw [hg]; exact (below_size atgB_) : w.heap.size ≤ gb582)) ?_; clear HB; intro HB BK582 GW582 GE582; clear hb hbox hg) | ((with_reducible refine gate_dst (N := 11) rfl ?_); refine Kd.R_lit k46 _ 46 ?hg (N := 11) ?hd (xs := ([] : List (S46))) (inner := []) (ok := fun _ => True) (okp := fun _ => True) ?hr ?hp (fun _ hk => hk) trivial (Below.refl _ _) (Nat.le_refl _) (by simp) ?_; (case hd => rfl); (case hg => rfl); (case hr => first | (go_simp; done) | (go_simp; rfl)); (case hp => exact (Reps.none _ _)); intro v584 w65 ho66 hb hg_ hnew_; clear hg_ hnew_; (first | rw [← Ny583.out] at ho66 | (simp only [Int.reduceToNat] at ho66; rw [← Ny583.out] at ho66)); refine swap3_ (Kd.R_lower ho66 (below_size att13_0_0)) (blk_below (g := gb582) (o := .cells #[.int .i64 a1_0, .int .i64 a1_1, .int .i64 a1_2, .int .i64 a1_3, .int .i64 a1_4] 37 (0, 0)) att13_0_1 hb) (below_step att13_0_0 hb) ?_; clear BK582 HB; intro HO585 BK582 HB; clear hb ho66; obtain ⟨hcz67_0, hcz67_1, hcz67_2, hcz67_3, hcz67_4, hfz67_0, hfz67_1, hfz67_2, hfz67_3, hfz67_4⟩ := blkB5_ BK582) | ((with_reducible refine gate_callee (f := 106) rfl ?_); refine goesL_ (some 17) rfl rfl Try.func106 (by kernel_rfl) rfl #[.agg #[.int .i64 a1_0, .int .i64 a1_1, .int .i64 a1_2, .int .i64 a1_3, .int .i64 a1_4], .int .i64 (l3.length : Int), .int .i64 (l0.length : Int)] rfl atgM_ ?_; (with_reducible refine (spec_InsOk.calls k a1_0 a1_1 a1_2 a1_3 a1_4 (l3.length : Int) (l0.length : Int) true _ A5.out).mono ?_); rintro e w68 ⟨rfl, hb⟩; refine ⟨_, rfl, ?_⟩; refine swap3_ (Kd.R_below att13_0_3 hb) (blk_below (g := gb582) (o := .cells #[.int .i64 a1_0, .int .i64 a1_1, .int .i64 a1_2, .int .i64 a1_3, .int .i64 a1_4] 37 (0, 0)) att13_0_1 hb) (below_step att13_0_0 hb) ?_; clear HO585 BK582 HB; intro HO585 BK582 HB; (try clear hb); (try clear hb2); (try clear hk); (try clear hi); obtain ⟨hcz69_0, hcz69_1, hcz69_2, hcz69_3, hcz69_4, hfz69_0, hfz69_1, hfz69_2, hfz69_3, hfz69_4⟩ := blkB5_ BK582; have p622 : 0 ≤ (a1_4 : Int) := of_decide_eq_true atgA_; have q622 : a1_4 < (l3.length : Int) := of_decide_eq_true atgA_; obtain ⟨ad622, e622, hx622_0⟩ := Kd.at_int HR3.out a1_4 p622 q622; cases e622; replace hx622_0 := blc_ HB hx622_0; replace p622 := eq_true p622; replace q622 := eq_true q622) | ((with_reducible refine gate_callee (f := 109) rfl ?_); refine goesL_ (some 73) rfl rfl Try.func109 (by kernel_rfl) rfl #[.int .i64 (rd l3 a1_4)] rfl atgM_ ?_; (with_reducible refine (spec_l10Jump.calls (rd l3 a1_4) t623 t624 t625 t626 t627 _ A63.out).mono ?_); rintro e w70 ⟨rfl, hb⟩; refine ⟨_, rfl, ?_⟩; refine swap3_ (Kd.R_below att13_0_3 hb) (blk_below (g := gb582) (o := .cells #[.int .i64 a1_0, .int .i64 a1_1, .int .i64 a1_2, .int .i64 a1_3, .int .i64 a1_4] 37 (0, 0)) att13_0_1 hb) (below_step att13_0_0 hb) ?_; clear HO585 BK582 HB; intro HO585 BK582 HB; (try clear hb); (try clear hb2); (try clear hk); (try clear hi)) | ((with_reducible refine gate_dst (N := 74) rfl ?_); refine Kd.R_lit k46 _ 46 ?hg (N := 74) ?hd (xs := ([(⟨t623, t624, t625, t626, t627⟩ : S46)] : List (S46))) (inner := [.int .i64 t623, .int .i64 t624, .int .i64 t625, .int .i64 t626, .int .i64 t627]) (ok := fun _ => True) (okp := fun _ => True) ?hr ?hp (fun _ hk => hk) trivial (Below.refl _ _) (Nat.le_refl _) (by simp) ?_; (case hd => rfl); (case hg => rfl); (case hr => first | (go_simp; done) | (go_simp; rfl)); (case hp => exact (Reps.c5 (show Kd.M k46 _ _ _ (⟨t623, t624, t625, t626, t627⟩ : S46) [.int .i64 t623, .int .i64 t624, .int .i64 t625, .int .i64 t626, .int .i64 t627] from (k46_mkM _ _ _ (⟨t623, t624, t625, t626, t627⟩ : S46) )) (Reps.none _ _))); intro v629 w71 ho72 hb hg_ hnew_; clear hg_ hnew_; (first | rw [← Ny628.out] at ho72 | (simp only [Int.reduceToNat] at ho72; rw [← Ny628.out] at ho72)); refine swap4_ (Kd.R_elder' att13_0_3 (Kd.R_base ho72) hb) (Kd.R_lower (Kd.R_new' ho72 (Kd.R_lt att13_0_3)) (below_size att13_0_0)) (blk_below (g := gb582) (o := .cells #[.int .i64 a1_0, .int .i64 a1_1, .int .i64 a1_2, .int .i64 a1_3, .int .i64 a1_4] 37 (0, 0)) att13_0_1 hb) (below_step att13_0_0 hb) ?_; clear HO585 BK582 HB; intro HO585 HO630 BK582 HB; clear hb ho72))
          go_ret
          exact ⟨_, retT_, by exact toR_ (Kd.R_mono HO630.out (fun _ hk => trivial)), att13_0_0⟩
         ·rw [if_neg c62] at H
          exact absurd H (by simp)
        ·rw [if_neg c61] at H
         exact absurd H (by simp)
       ·rw [if_neg c60] at H
        have c60b0 := beq_eq_false_iff_ne.mpr c60
        have c60b1 := bne_iff_ne.mpr c60
        by_cases c73 : a1_0 = 12
        ·rw [if_pos c73] at H
         have c73b0 := beq_iff_eq.mpr c73
         have c73b1 := bne_eq_false_iff_eq.mpr c73
         clear c73
         by_cases c74 : 0 ≤ a1_4
         ·rw [if_pos c74] at H
          have c74b0 := decide_eq_true c74
          clear c74
          by_cases c75 : a1_4 < (l3.length : Int)
          ·rw [if_pos c75] at H
           have c75b0 := decide_eq_true c75
           clear c75
           replace H := Option.bind_eq_some_iff.mp H
           obtain ⟨⟨t632, t633, t634, t635, t636⟩, A760, H⟩ := H
           (try dsimp only at H)
           have A76 := Aside0.mk A760
           clear A760
           obtain ⟨y637, hy637⟩ : ∃ y_ : List (S46), y_ = (([(⟨t632, t633, t634, t635, t636⟩ : S46)] : List (S46))) := ⟨_, rfl⟩
           replace H : (some y637) = some r := by rw [hy637]; exact H
           have Ny637 := Aside0.mk hy637
           clear hy637
           obtain rfl := Option.some.inj H
           go_enter Try.func23, Try.ntmps23
           try go_wp2_with (first | ((with_reducible refine gate_dst (N := 5) rfl ?_); refine box_event ?hg (N := 5) ?hd (cs := #[.int .i64 a1_0, .int .i64 a1_1, .int .i64 a1_2, .int .i64 a1_3, .int .i64 a1_4]) (t := 37) ?hr ?_; (case hd => rfl); (case hg => rfl); (case hr => first | (go_simp; done) | (go_simp; rfl)); intro gb582 hg w77 hbox hb; refine swap4_ (below_step atgB_ hb) (hbox) ((by rw [hg]; exact (below_size atgB_) : w.heap.size ≤ gb582)) ((by rw [hg]; exact (below_size atgB_) : w.heap.size ≤ gb582)) ?_; clear HB; intro HB BK582 GW582 GE582; clear hb hbox hg) | ((with_reducible refine gate_dst (N := 11) rfl ?_); refine Kd.R_lit k46 _ 46 ?hg (N := 11) ?hd (xs := ([] : List (S46))) (inner := []) (ok := fun _ => True) (okp := fun _ => True) ?hr ?hp (fun _ hk => hk) trivial (Below.refl _ _) (Nat.le_refl _) (by simp) ?_; (case hd => rfl); (case hg => rfl); (case hr => first | (go_simp; done) | (go_simp; rfl)); (case hp => exact (Reps.none _ _)); intro v584 w78 ho79 hb hg_ hnew_; clear hg_ hnew_; (first | rw [← Ny583.out] at ho79 | (simp only [Int.reduceToNat] at ho79; rw [← Ny583.out] at ho79)); refine swap3_ (Kd.R_lower ho79 (below_size att13_0_0)) (blk_below (g := gb582) (o := .cells #[.int .i64 a1_0, .int .i64 a1_1, .int .i64 a1_2, .int .i64 a1_3, .int .i64 a1_4] 37 (0, 0)) att13_0_1 hb) (below_step att13_0_0 hb) ?_; clear BK582 HB; intro HO585 BK582 HB; clear hb ho79; obtain ⟨hcz80_0, hcz80_1, hcz80_2, hcz80_3, hcz80_4, hfz80_0, hfz80_1, hfz80_2, hfz80_3, hfz80_4⟩ := blkB5_ BK582) | ((with_reducible refine gate_callee (f := 106) rfl ?_); refine goesL_ (some 17) rfl rfl Try.func106 (by kernel_rfl) rfl #[.agg #[.int .i64 a1_0, .int .i64 a1_1, .int .i64 a1_2, .int .i64 a1_3, .int .i64 a1_4], .int .i64 (l3.length : Int), .int .i64 (l0.length : Int)] rfl atgM_ ?_; (with_reducible refine (spec_InsOk.calls k a1_0 a1_1 a1_2 a1_3 a1_4 (l3.length : Int) (l0.length : Int) true _ A5.out).mono ?_); rintro e w81 ⟨rfl, hb⟩; refine ⟨_, rfl, ?_⟩; refine swap3_ (Kd.R_below att13_0_3 hb) (blk_below (g := gb582) (o := .cells #[.int .i64 a1_0, .int .i64 a1_1, .int .i64 a1_2, .int .i64 a1_3, .int .i64 a1_4] 37 (0, 0)) att13_0_1 hb) (below_step att13_0_0 hb) ?_; clear HO585 BK582 HB; intro HO585 BK582 HB; (try clear hb); (try clear hb2); (try clear hk); (try clear hi); obtain ⟨hcz82_0, hcz82_1, hcz82_2, hcz82_3, hcz82_4, hfz82_0, hfz82_1, hfz82_2, hfz82_3, hfz82_4⟩ := blkB5_ BK582))
           have n0_ := Aside0.mk (Kd.R_drew HO585.out)
           have n1_ := Aside0.mk (blk_drew BK582.out)
           have n2_ := Aside0.mk (below_drew1 HB.out)
           clear HO585
           clear BK582
           clear HB
           have HO585 := n0_
           have BK582 := n1_
           have HB := n2_
           clear n0_ n1_ n2_
           have p631 : 0 ≤ (a1_4 : Int) := of_decide_eq_true atgA_
           have q631 : a1_4 < (l3.length : Int) := of_decide_eq_true atgA_
           obtain ⟨ad631, e631, hx631_0⟩ := Kd.at_int HR3.out a1_4 p631 q631
           have hw631_0 := hx631_0
           cases e631
           replace hx631_0 := blc_ HB hx631_0
           replace p631 := eq_true p631
           replace q631 := eq_true q631
           refine start_ (n := 10) (S := fun w' => w'.cell? ⟨gb582, 0, none⟩ = some (.int .i64 a1_0) ∧ w'.cell? ⟨gb582, 1, none⟩ = some (.int .i64 a1_1) ∧ w'.cell? ⟨gb582, 2, none⟩ = some (.int .i64 a1_2) ∧ w'.cell? ⟨gb582, 3, none⟩ = some (.int .i64 a1_3) ∧ w'.cell? ⟨gb582, 4, none⟩ = some (.int .i64 a1_4) ∧ w'.cell? (ad631.add (a1_4).toNat) = some (.int .i64 (rd l3 a1_4))) (ds := []) (tf_ 0 10) (by kernel_rfl) rfl rfl ⟨(blk_cell BK582.out 0).trans rfl, (blk_cell BK582.out 1).trans rfl, (blk_cell BK582.out 2).trans rfl, (blk_cell BK582.out 3).trans rfl, (blk_cell BK582.out 4).trans rfl, ((HB.out.cell (World.block_lt_of_cell? w _ hw631_0)).trans hw631_0)⟩ (fun hHeld => ?_); refine with_tabW spec_Emit.tab18 spec_Emit.bits18 (fun HT_ HW_ => ?_)
           generalize w81.drew = w83 at HO585 BK582 HB hx631_0 hHeld ⊢
           refine pureQ_ (i := 0) (N := some 77) (tf_ 1 9) (h := ?_)
           refine pureQ_ (i := 2) (N := some 79) #[true, false, true, false, false, false, false, false, false, false] (h := ?_)
           refine pureQ_ (i := 3) (N := some 80) #[true, false, true, true, false, false, false, false, false, false] (h := ?_)
           refine takeQ_ (i := 1) (N := some 78) (tf_ 4 6) hHeld (hy := Or.inl ⟨by rfl, att13_0_5⟩) (h := ?_)
           refine takeQ_ (i := 4) (N := some 81) (tf_ 5 5) hHeld (hy := Or.inl ⟨by rfl, att13_0_5⟩) (h := ?_)
           refine pureQ_ (i := 5) (N := some 82) (tf_ 6 4) (h := ?_)
           refine takeQ_ (i := 6) (N := some 83) (tf_ 7 3) hHeld (hy := Or.inl ⟨by rfl, att13_0_5⟩) (h := ?_)
           refine one_ (i := 7) (N := some 84) (tf_ 8 2) rfl rfl (one_of HT_.out (by kernel_rfl)) (by decide) (fun K hK => ?_)
           refine goes_ Try.func110 (by kernel_rfl) rfl #[.int .i64 a1_2, .int .i64 (rd l3 a1_4)] (by rfl) rfl rfl atgM_ ?_
           with_reducible refine (spec_l10Zero.calls a1_2 (rd l3 a1_4) t632 t633 t634 t635 t636 _ A76.out).mono ?_
           rintro e w84 ⟨rfl, hb⟩
           refine ⟨_, rfl, ?_⟩
           have n0_ := Aside0.mk (Kd.R_below att13_0_3 hb)
           have n1_ := Aside0.mk (blk_below (g := gb582) (o := .cells #[.int .i64 a1_0, .int .i64 a1_1, .int .i64 a1_2, .int .i64 a1_3, .int .i64 a1_4] 37 (0, 0)) att13_0_1 hb)
           have n2_ := Aside0.mk (below_step att13_0_0 hb)
           clear HO585
           clear BK582
           clear HB
           have HO585 := n0_
           have BK582 := n1_
           have HB := n2_
           clear n0_ n1_ n2_
           (try clear hb)
           (try clear hb2)
           (try clear hk)
           (try clear hi)
           refine hK.out _ _ ⟨(blk_cell BK582.out 0).trans rfl, (blk_cell BK582.out 1).trans rfl, (blk_cell BK582.out 2).trans rfl, (blk_cell BK582.out 3).trans rfl, (blk_cell BK582.out 4).trans rfl, ((HB.out.cell (World.block_lt_of_cell? w _ hw631_0)).trans hw631_0)⟩ (fun hHeld => ?_)
           clear hK K
           refine normS_ (N := some 84) (h := ?_)
           refine one_ (i := 8) (N := some 85) (tf_ 9 1) rfl rfl (one_of HT_.out (by kernel_rfl)) (by decide) (fun K hK => ?_)
           refine Kd.R_lit_step k46 _ 46 ?hg (N := 85) ?hd (xs := ([(⟨t632, t633, t634, t635, t636⟩ : S46)] : List (S46))) (inner := [.int .i64 t632, .int .i64 t633, .int .i64 t634, .int .i64 t635, .int .i64 t636]) (ok := fun _ => True) (okp := fun _ => True) ?hr ?hp (fun _ hk => hk) trivial (Below.refl _ _) (Nat.le_refl _) (by simp) ?_; (case hd => rfl); (case hg => rfl); (case hr => first | (go_simp; done) | (go_simp; rfl)); (case hp => exact (Reps.c5 (show Kd.M k46 _ _ _ (⟨t632, t633, t634, t635, t636⟩ : S46) [.int .i64 t632, .int .i64 t633, .int .i64 t634, .int .i64 t635, .int .i64 t636] from (k46_mkM _ _ _ (⟨t632, t633, t634, t635, t636⟩ : S46) )) (Reps.none _ _)))
           intro v638 w85 ho86 hb hg_ hnew_
           clear hg_ hnew_
           (first | rw [← Ny637.out] at ho86 | (simp only [Int.reduceToNat] at ho86; rw [← Ny637.out] at ho86))
           have n0_ := Aside0.mk (Kd.R_elder' att13_0_3 (Kd.R_base ho86) hb)
           have n1_ := Aside0.mk (Kd.R_lower (Kd.R_new' ho86 (Kd.R_lt att13_0_3)) (below_size att13_0_0))
           have n2_ := Aside0.mk (blk_below (g := gb582) (o := .cells #[.int .i64 a1_0, .int .i64 a1_1, .int .i64 a1_2, .int .i64 a1_3, .int .i64 a1_4] 37 (0, 0)) att13_0_1 hb)
           have n3_ := Aside0.mk (below_step att13_0_0 hb)
           clear HO585
           clear BK582
           clear HB
           have HO585 := n0_
           have HO639 := n1_
           have BK582 := n2_
           have HB := n3_
           clear n0_ n1_ n2_ n3_
           clear hb ho86
           refine hK.out _ _ ⟨(blk_cell BK582.out 0).trans rfl, (blk_cell BK582.out 1).trans rfl, (blk_cell BK582.out 2).trans rfl, (blk_cell BK582.out 3).trans rfl, (blk_cell BK582.out 4).trans rfl, ((HB.out.cell (World.block_lt_of_cell? w _ hw631_0)).trans hw631_0)⟩ (fun hHeld => ?_)
           clear hK K
           refine normS_ (N := some 85) (h := ?_)
           refine pureQ_ (i := 9) (N := some 8) (tf_ 10 0) (h := ?_)
           refine done_ (done_of HT_.out (by kernel_rfl)) ?_
           try go_wp2
           go_ret
           exact ⟨_, retT_, by exact toR_ (Kd.R_mono HO639.out (fun _ hk => trivial)), att13_0_0⟩
          ·rw [if_neg c75] at H
           exact absurd H (by simp)
         ·rw [if_neg c74] at H
          exact absurd H (by simp)
        ·rw [if_neg c73] at H
         have c73b0 := beq_eq_false_iff_ne.mpr c73
         have c73b1 := bne_iff_ne.mpr c73
         by_cases c87 : a1_0 = 13
         ·rw [if_pos c87] at H
          have c87b0 := beq_iff_eq.mpr c87
          have c87b1 := bne_eq_false_iff_eq.mpr c87
          clear c87
          obtain ⟨y640, hy640⟩ : ∃ y_ : List (S46), y_ = (([(⟨12, 0, 0, 0, 0⟩ : S46)] : List (S46))) := ⟨_, rfl⟩
          replace H : (some y640) = some r := by rw [hy640]; exact H
          have Ny640 := Aside0.mk hy640
          clear hy640
          obtain rfl := Option.some.inj H
          go_enter Try.func23, Try.ntmps23
          go_wp2_with (first | ((with_reducible refine gate_dst (N := 5) rfl ?_); refine box_event ?hg (N := 5) ?hd (cs := #[.int .i64 a1_0, .int .i64 a1_1, .int .i64 a1_2, .int .i64 a1_3, .int .i64 a1_4]) (t := 37) ?hr ?_; (case hd => rfl); (case hg => rfl); (case hr => first | (go_simp; done) | (go_simp; rfl)); intro gb582 hg w88 hbox hb; refine swap4_ (below_step atgB_ hb) (hbox) ((by rw [hg]; exact (below_size atgB_) : w.heap.size ≤ gb582)) ((by rw [hg]; exact (below_size atgB_) : w.heap.size ≤ gb582)) ?_; clear HB; intro HB BK582 GW582 GE582; clear hb hbox hg) | ((with_reducible refine gate_dst (N := 11) rfl ?_); refine Kd.R_lit k46 _ 46 ?hg (N := 11) ?hd (xs := ([] : List (S46))) (inner := []) (ok := fun _ => True) (okp := fun _ => True) ?hr ?hp (fun _ hk => hk) trivial (Below.refl _ _) (Nat.le_refl _) (by simp) ?_; (case hd => rfl); (case hg => rfl); (case hr => first | (go_simp; done) | (go_simp; rfl)); (case hp => exact (Reps.none _ _)); intro v584 w89 ho90 hb hg_ hnew_; clear hg_ hnew_; (first | rw [← Ny583.out] at ho90 | (simp only [Int.reduceToNat] at ho90; rw [← Ny583.out] at ho90)); refine swap3_ (Kd.R_lower ho90 (below_size att13_0_0)) (blk_below (g := gb582) (o := .cells #[.int .i64 a1_0, .int .i64 a1_1, .int .i64 a1_2, .int .i64 a1_3, .int .i64 a1_4] 37 (0, 0)) att13_0_1 hb) (below_step att13_0_0 hb) ?_; clear BK582 HB; intro HO585 BK582 HB; clear hb ho90; obtain ⟨hcz91_0, hcz91_1, hcz91_2, hcz91_3, hcz91_4, hfz91_0, hfz91_1, hfz91_2, hfz91_3, hfz91_4⟩ := blkB5_ BK582) | ((with_reducible refine gate_callee (f := 106) rfl ?_); refine goesL_ (some 17) rfl rfl Try.func106 (by kernel_rfl) rfl #[.agg #[.int .i64 a1_0, .int .i64 a1_1, .int .i64 a1_2, .int .i64 a1_3, .int .i64 a1_4], .int .i64 (l3.length : Int), .int .i64 (l0.length : Int)] rfl atgM_ ?_; (with_reducible refine (spec_InsOk.calls k a1_0 a1_1 a1_2 a1_3 a1_4 (l3.length : Int) (l0.length : Int) true _ A5.out).mono ?_); rintro e w92 ⟨rfl, hb⟩; refine ⟨_, rfl, ?_⟩; refine swap3_ (Kd.R_below att13_0_3 hb) (blk_below (g := gb582) (o := .cells #[.int .i64 a1_0, .int .i64 a1_1, .int .i64 a1_2, .int .i64 a1_3, .int .i64 a1_4] 37 (0, 0)) att13_0_1 hb) (below_step att13_0_0 hb) ?_; clear HO585 BK582 HB; intro HO585 BK582 HB; (try clear hb); (try clear hb2); (try clear hk); (try clear hi); obtain ⟨hcz93_0, hcz93_1, hcz93_2, hcz93_3, hcz93_4, hfz93_0, hfz93_1, hfz93_2, hfz93_3, hfz93_4⟩ := blkB5_ BK582) | ((with_reducible refine gate_dst (N := 89) rfl ?_); refine Kd.R_lit k46 _ 46 ?hg (N := 89) ?hd (xs := ([(⟨12, 0, 0, 0, 0⟩ : S46)] : List (S46))) (inner := [.int .i64 12, .int .i64 0, .int .i64 0, .int .i64 0, .int .i64 0]) (ok := fun _ => True) (okp := fun _ => True) ?hr ?hp (fun _ hk => hk) trivial (Below.refl _ _) (Nat.le_refl _) (by simp) ?_; (case hd => rfl); (case hg => rfl); (case hr => first | (go_simp; done) | (go_simp; rfl)); (case hp => exact (Reps.c5 (show Kd.M k46 _ _ _ (⟨12, 0, 0, 0, 0⟩ : S46) [.int .i64 12, .int .i64 0, .int .i64 0, .int .i64 0, .int .i64 0] from (k46_mkM _ _ _ (⟨12, 0, 0, 0, 0⟩ : S46) )) (Reps.none _ _))); intro v641 w94 ho95 hb hg_ hnew_; clear hg_ hnew_; (first | rw [← Ny640.out] at ho95 | (simp only [Int.reduceToNat] at ho95; rw [← Ny640.out] at ho95)); refine swap4_ (Kd.R_elder' att13_0_3 (Kd.R_base ho95) hb) (Kd.R_lower (Kd.R_new' ho95 (Kd.R_lt att13_0_3)) (below_size att13_0_0)) (blk_below (g := gb582) (o := .cells #[.int .i64 a1_0, .int .i64 a1_1, .int .i64 a1_2, .int .i64 a1_3, .int .i64 a1_4] 37 (0, 0)) att13_0_1 hb) (below_step att13_0_0 hb) ?_; clear HO585 BK582 HB; intro HO585 HO642 BK582 HB; clear hb ho95))
          go_ret
          exact ⟨_, retT_, by exact toR_ (Kd.R_mono HO642.out (fun _ hk => trivial)), att13_0_0⟩
         ·rw [if_neg c87] at H
          have c87b0 := beq_eq_false_iff_ne.mpr c87
          have c87b1 := bne_iff_ne.mpr c87
          replace H := Option.bind_eq_some_iff.mp H
          obtain ⟨t643, A960, H⟩ := H
          (try dsimp only at H)
          have A96 := Aside0.mk A960
          clear A960
          by_cases c97 : t643 < 0
          ·rw [if_pos c97] at H
           have c97b0 := decide_eq_true c97
           clear c97
           obtain rfl := Option.some.inj H
           go_enter Try.func23, Try.ntmps23
           go_wp2_with (first | ((with_reducible refine gate_dst (N := 5) rfl ?_); refine box_event ?hg (N := 5) ?hd (cs := #[.int .i64 a1_0, .int .i64 a1_1, .int .i64 a1_2, .int .i64 a1_3, .int .i64 a1_4]) (t := 37) ?hr ?_; (case hd => rfl); (case hg => rfl); (case hr => first | (go_simp; done) | (go_simp; rfl)); intro gb582 hg w98 hbox hb; refine swap4_ (below_step atgB_ hb) (hbox) ((by rw [hg]; exact (below_size atgB_) : w.heap.size ≤ gb582)) ((by rw [hg]; exact (below_size atgB_) : w.heap.size ≤ gb582)) ?_; clear HB; intro HB BK582 GW582 GE582; clear hb hbox hg) | ((with_reducible refine gate_dst (N := 11) rfl ?_); refine Kd.R_lit k46 _ 46 ?hg (N := 11) ?hd (xs := ([] : List (S46))) (inner := []) (ok := fun _ => True) (okp := fun _ => True) ?hr ?hp (fun _ hk => hk) trivial (Below.refl _ _) (Nat.le_refl _) (by simp) ?_; (case hd => rfl); (case hg => rfl); (case hr => first | (go_simp; done) | (go_simp; rfl)); (case hp => exact (Reps.none _ _)); intro v584 w99 ho100 hb hg_ hnew_; clear hg_ hnew_; (first | rw [← Ny583.out] at ho100 | (simp only [Int.reduceToNat] at ho100; rw [← Ny583.out] at ho100)); refine swap3_ (Kd.R_lower ho100 (below_size att13_0_0)) (blk_below (g := gb582) (o := .cells #[.int .i64 a1_0, .int .i64 a1_1, .int .i64 a1_2, .int .i64 a1_3, .int .i64 a1_4] 37 (0, 0)) att13_0_1 hb) (below_step att13_0_0 hb) ?_; clear BK582 HB; intro HO585 BK582 HB; clear hb ho100; obtain ⟨hcz101_0, hcz101_1, hcz101_2, hcz101_3, hcz101_4, hfz101_0, hfz101_1, hfz101_2, hfz101_3, hfz101_4⟩ := blkB5_ BK582) | ((with_reducible refine gate_callee (f := 106) rfl ?_); refine goesL_ (some 17) rfl rfl Try.func106 (by kernel_rfl) rfl #[.agg #[.int .i64 a1_0, .int .i64 a1_1, .int .i64 a1_2, .int .i64 a1_3, .int .i64 a1_4], .int .i64 (l3.length : Int), .int .i64 (l0.length : Int)] rfl atgM_ ?_; (with_reducible refine (spec_InsOk.calls k a1_0 a1_1 a1_2 a1_3 a1_4 (l3.length : Int) (l0.length : Int) true _ A5.out).mono ?_); rintro e w102 ⟨rfl, hb⟩; refine ⟨_, rfl, ?_⟩; refine swap3_ (Kd.R_below att13_0_3 hb) (blk_below (g := gb582) (o := .cells #[.int .i64 a1_0, .int .i64 a1_1, .int .i64 a1_2, .int .i64 a1_3, .int .i64 a1_4] 37 (0, 0)) att13_0_1 hb) (below_step att13_0_0 hb) ?_; clear HO585 BK582 HB; intro HO585 BK582 HB; (try clear hb); (try clear hb2); (try clear hk); (try clear hi); obtain ⟨hcz103_0, hcz103_1, hcz103_2, hcz103_3, hcz103_4, hfz103_0, hfz103_1, hfz103_2, hfz103_3, hfz103_4⟩ := blkB5_ BK582) | ((with_reducible refine gate_callee (f := 111) rfl ?_); refine goesL_ (some 93) rfl rfl Try.func111 (by kernel_rfl) rfl #[.slice A0 l0.length c0, .int .i64 a1_4] rfl atgM_ ?_; (with_reducible refine (spec_Base.calls k _ _ l0 a1_4 t643 _ ?side1 ?side2 A96.out).mono ?_); (case side1 => repeat (first | exact (Kd.C_below HR0.out HB.out) | (with_reducible refine Kd.C_alloc ?_ _) | (with_reducible refine Kd.C_drewN ?_ _) | (with_reducible refine Kd.C_drew ?_))); (case side2 => exact HC0.out); rintro e w' ⟨rfl, ⟨nd, rfl⟩⟩; refine ⟨_, rfl, ?_⟩))
           go_ret
           exact ⟨_, retT_, by exact toR_ (HO585.out), att13_0_0⟩
          ·rw [if_neg c97] at H
           have c97b0 := decide_eq_false c97
           clear c97
           have HC104 := Aside0.mk H
           clear H
           go_enter Try.func23, Try.ntmps23
           go_upto_if 99 with (first | ((with_reducible refine gate_dst (N := 5) rfl ?_); refine box_event ?hg (N := 5) ?hd (cs := #[.int .i64 a1_0, .int .i64 a1_1, .int .i64 a1_2, .int .i64 a1_3, .int .i64 a1_4]) (t := 37) ?hr ?_; (case hd => rfl); (case hg => rfl); (case hr => first | (go_simp; done) | (go_simp; rfl)); intro gb582 hg w105 hbox hb; refine swap4_ (below_step atgB_ hb) (hbox) ((by rw [hg]; exact (below_size atgB_) : w.heap.size ≤ gb582)) ((by rw [hg]; exact (below_size atgB_) : w.heap.size ≤ gb582)) ?_; clear HB; intro HB BK582 GW582 GE582; clear hb hbox hg) | ((with_reducible refine gate_dst (N := 11) rfl ?_); refine Kd.R_lit k46 _ 46 ?hg (N := 11) ?hd (xs := ([] : List (S46))) (inner := []) (ok := fun _ => True) (okp := fun _ => True) ?hr ?hp (fun _ hk => hk) trivial (Below.refl _ _) (Nat.le_refl _) (by simp) ?_; (case hd => rfl); (case hg => rfl); (case hr => first | (go_simp; done) | (go_simp; rfl)); (case hp => exact (Reps.none _ _)); intro v584 w106 ho107 hb hg_ hnew_; clear hg_ hnew_; (first | rw [← Ny583.out] at ho107 | (simp only [Int.reduceToNat] at ho107; rw [← Ny583.out] at ho107)); refine swap3_ (Kd.R_lower ho107 (below_size att13_0_0)) (blk_below (g := gb582) (o := .cells #[.int .i64 a1_0, .int .i64 a1_1, .int .i64 a1_2, .int .i64 a1_3, .int .i64 a1_4] 37 (0, 0)) att13_0_1 hb) (below_step att13_0_0 hb) ?_; clear BK582 HB; intro HO585 BK582 HB; clear hb ho107; obtain ⟨hcz108_0, hcz108_1, hcz108_2, hcz108_3, hcz108_4, hfz108_0, hfz108_1, hfz108_2, hfz108_3, hfz108_4⟩ := blkB5_ BK582) | ((with_reducible refine gate_callee (f := 106) rfl ?_); refine goesL_ (some 17) rfl rfl Try.func106 (by kernel_rfl) rfl #[.agg #[.int .i64 a1_0, .int .i64 a1_1, .int .i64 a1_2, .int .i64 a1_3, .int .i64 a1_4], .int .i64 (l3.length : Int), .int .i64 (l0.length : Int)] rfl atgM_ ?_; (with_reducible refine (spec_InsOk.calls k a1_0 a1_1 a1_2 a1_3 a1_4 (l3.length : Int) (l0.length : Int) true _ A5.out).mono ?_); rintro e w109 ⟨rfl, hb⟩; refine ⟨_, rfl, ?_⟩; refine swap3_ (Kd.R_below att13_0_3 hb) (blk_below (g := gb582) (o := .cells #[.int .i64 a1_0, .int .i64 a1_1, .int .i64 a1_2, .int .i64 a1_3, .int .i64 a1_4] 37 (0, 0)) att13_0_1 hb) (below_step att13_0_0 hb) ?_; clear HO585 BK582 HB; intro HO585 BK582 HB; (try clear hb); (try clear hb2); (try clear hk); (try clear hi); obtain ⟨hcz110_0, hcz110_1, hcz110_2, hcz110_3, hcz110_4, hfz110_0, hfz110_1, hfz110_2, hfz110_3, hfz110_4⟩ := blkB5_ BK582) | ((with_reducible refine gate_callee (f := 111) rfl ?_); refine goesL_ (some 93) rfl rfl Try.func111 (by kernel_rfl) rfl #[.slice A0 l0.length c0, .int .i64 a1_4] rfl atgM_ ?_; (with_reducible refine (spec_Base.calls k _ _ l0 a1_4 t643 _ ?side1 ?side2 A96.out).mono ?_); (case side1 => repeat (first | exact (Kd.C_below HR0.out HB.out) | (with_reducible refine Kd.C_alloc ?_ _) | (with_reducible refine Kd.C_drewN ?_ _) | (with_reducible refine Kd.C_drew ?_))); (case side2 => exact HC0.out); rintro e w' ⟨rfl, ⟨nd, rfl⟩⟩; refine ⟨_, rfl, ?_⟩))
           (try simp only [Act.put, List.setIfInBounds_toArray, List.set_cons_zero, List.set_cons_succ])
           go_cut [99] (fun v99 wc => ∃ (kq : Nat) (x99_103 : Bool), v99 = .bool x99_103 ∧ Aside0 (spec_Emit.j0 kq l0 a2 t643 a1_0 x99_103 a1_0 a1_1 a1_2 a1_3 a1_4 = some r) ∧ Aside0 (kq ≤ k) ∧ Aside0 (wc.heap[gb582]? = some (.cells #[.int .i64 a1_0, .int .i64 a1_1, .int .i64 a1_2, .int .i64 a1_3, .int .i64 a1_4] 37 (0, 0))) ∧ Aside0 (Below w.heap.size w wc))
           case first =>
            have H := HC104.out
            clear HC104
            by_cases c111 : a1_0 = 5
            ·rw [if_pos c111] at H
             have c111b0 := beq_iff_eq.mpr c111
             have c111b1 := bne_eq_false_iff_eq.mpr c111
             clear c111
             (first | rw [c111b0] | (simp only [i64_w, i32_w]; rw [c111b0]) | skip)
             have H' := Aside0.mk H
             clear H
             go_wp2
             go_meet
             case rel => exact ⟨_, ((a1_0 == 5)), atgR_, H', ⟨by first | omega | exact Nat.le_refl _⟩, ⟨att13_0_1⟩, ⟨att13_0_0⟩⟩
            ·rw [if_neg c111] at H
             have c111b0 := beq_eq_false_iff_ne.mpr c111
             have c111b1 := bne_iff_ne.mpr c111
             (first | rw [c111b0] | (simp only [i64_w, i32_w]; rw [c111b0]) | skip)
             have H' := Aside0.mk H
             clear H
             go_wp2
             go_meet
             case rel => exact ⟨_, ((a1_0 == 7)), atgR_, H', ⟨by first | omega | exact Nat.le_refl _⟩, ⟨att13_0_1⟩, ⟨att13_0_0⟩⟩
           case rest =>
            clear HC104
            try clear c1
            try clear c2
            try clear p2
            try clear c3
            try clear c4
            try clear c5
            try clear c6
            try clear p6
            try clear q6
            try clear hx6
            try clear c7
            try clear c7b0
            try clear c7b1
            try clear c8
            try clear c9
            try clear c10
            try clear c11
            try clear c18
            try clear c18b0
            try clear c18b1
            try clear c23
            try clear c29
            try clear c29b0
            try clear c29b1
            try clear c40
            try clear c40b0
            try clear c40b1
            try clear c51
            try clear c51b0
            try clear c51b1
            try clear c60
            try clear c60b0
            try clear c60b1
            try clear c61
            try clear c61b0
            try clear c62
            try clear c62b0
            try clear p62
            try clear q62
            try clear hx62
            try clear p63
            try clear q63
            try clear hx63
            try clear c73
            try clear c73b0
            try clear c73b1
            try clear c74
            try clear c74b0
            try clear c75
            try clear c75b0
            try clear c87
            try clear c87b0
            try clear c87b1
            try clear c97
            try clear c97b0
            try clear c106
            try clear c107
            try clear c108
            try clear c109
            try clear c110
            try clear c111
            try clear c111b0
            try clear c111b1
            try clear hcz101_0 hcz101_1 hcz101_2 hcz101_3 hcz101_4
            try clear hcz103_0 hcz103_1 hcz103_2 hcz103_3 hcz103_4
            try clear hcz108_0 hcz108_1 hcz108_2 hcz108_3 hcz108_4
            try clear hcz110_0 hcz110_1 hcz110_2 hcz110_3 hcz110_4
            try clear hcz12_0 hcz12_1 hcz12_2 hcz12_3 hcz12_4
            try clear hcz14_0 hcz14_1 hcz14_2 hcz14_3 hcz14_4
            try clear hcz23_0 hcz23_1 hcz23_2 hcz23_3 hcz23_4
            try clear hcz25_0 hcz25_1 hcz25_2 hcz25_3 hcz25_4
            try clear hcz34_0 hcz34_1 hcz34_2 hcz34_3 hcz34_4
            try clear hcz36_0 hcz36_1 hcz36_2 hcz36_3 hcz36_4
            try clear hcz45_0 hcz45_1 hcz45_2 hcz45_3 hcz45_4
            try clear hcz47_0 hcz47_1 hcz47_2 hcz47_3 hcz47_4
            try clear hcz55_0 hcz55_1 hcz55_2 hcz55_3 hcz55_4
            try clear hcz57_0 hcz57_1 hcz57_2 hcz57_3 hcz57_4
            try clear hcz67_0 hcz67_1 hcz67_2 hcz67_3 hcz67_4
            try clear hcz69_0 hcz69_1 hcz69_2 hcz69_3 hcz69_4
            try clear hcz80_0 hcz80_1 hcz80_2 hcz80_3 hcz80_4
            try clear hcz82_0 hcz82_1 hcz82_2 hcz82_3 hcz82_4
            try clear hcz91_0 hcz91_1 hcz91_2 hcz91_3 hcz91_4
            try clear hcz93_0 hcz93_1 hcz93_2 hcz93_3 hcz93_4
            try clear hfz101_0 hfz101_1 hfz101_2 hfz101_3 hfz101_4
            try clear hfz103_0 hfz103_1 hfz103_2 hfz103_3 hfz103_4
            try clear hfz108_0 hfz108_1 hfz108_2 hfz108_3 hfz108_4
            try clear hfz110_0 hfz110_1 hfz110_2 hfz110_3 hfz110_4
            try clear hfz12_0 hfz12_1 hfz12_2 hfz12_3 hfz12_4
            try clear hfz14_0 hfz14_1 hfz14_2 hfz14_3 hfz14_4
            try clear hfz23_0 hfz23_1 hfz23_2 hfz23_3 hfz23_4
            try clear hfz25_0 hfz25_1 hfz25_2 hfz25_3 hfz25_4
            try clear hfz34_0 hfz34_1 hfz34_2 hfz34_3 hfz34_4
            try clear hfz36_0 hfz36_1 hfz36_2 hfz36_3 hfz36_4
            try clear hfz45_0 hfz45_1 hfz45_2 hfz45_3 hfz45_4
            try clear hfz47_0 hfz47_1 hfz47_2 hfz47_3 hfz47_4
            try clear hfz55_0 hfz55_1 hfz55_2 hfz55_3 hfz55_4
            try clear hfz57_0 hfz57_1 hfz57_2 hfz57_3 hfz57_4
            try clear hfz67_0 hfz67_1 hfz67_2 hfz67_3 hfz67_4
            try clear hfz69_0 hfz69_1 hfz69_2 hfz69_3 hfz69_4
            try clear hfz80_0 hfz80_1 hfz80_2 hfz80_3 hfz80_4
            try clear hfz82_0 hfz82_1 hfz82_2 hfz82_3 hfz82_4
            try clear hfz91_0 hfz91_1 hfz91_2 hfz91_3 hfz91_4
            try clear hfz93_0 hfz93_1 hfz93_2 hfz93_3 hfz93_4
            try clear hx622_0
            try clear hx631_0
            try clear p622
            try clear p631
            try clear q622
            try clear q631
            obtain ⟨kq, x99_103, rfl, HA, HJ103, BK582, HB⟩ := hcut
            cases kq with
            | zero => exact absurd HA.out (by simp [spec_Emit.j0])
            | succ kj103 =>
             have H := HA.out
             clear HA
             simp only [spec_Emit.j0] at H
             by_cases c112 : x99_103 = true
             ·subst c112
              rw [if_pos rfl] at H
              by_cases c113 : 0 ≤ a1_4
              ·rw [if_pos c113] at H
               have c113b0 := decide_eq_true c113
               clear c113
               by_cases c114 : a1_4 < (l0.length : Int)
               ·rw [if_pos c114] at H
                have c114b0 := decide_eq_true c114
                clear c114
                replace H := Option.bind_eq_some_iff.mp H
                obtain ⟨t645, A1150, H⟩ := H
                (try dsimp only at H)
                have A115 := Aside0.mk A1150
                clear A1150
                obtain rfl := Option.some.inj H
                try go_wp2
                have n0_ := Aside0.mk (blk_drew BK582.out)
                have n1_ := Aside0.mk (below_drew1 HB.out)
                clear BK582
                clear HB
                have BK582 := n0_
                have HB := n1_
                clear n0_ n1_
                have p644 : 0 ≤ (a1_4 : Int) := of_decide_eq_true atgA_
                have q644 : a1_4 < (l0.length : Int) := of_decide_eq_true atgA_
                obtain ⟨ad644, e644, hx644_0⟩ := Kd.at_int HR0.out a1_4 p644 q644
                have hw644_0 := hx644_0
                cases e644
                replace hx644_0 := blc_ HB hx644_0
                replace p644 := eq_true p644
                replace q644 := eq_true q644
                refine start_ (n := 10) (S := fun w' => w'.cell? ⟨gb582, 0, none⟩ = some (.int .i64 a1_0) ∧ w'.cell? ⟨gb582, 1, none⟩ = some (.int .i64 a1_1) ∧ w'.cell? ⟨gb582, 2, none⟩ = some (.int .i64 a1_2) ∧ w'.cell? ⟨gb582, 3, none⟩ = some (.int .i64 a1_3) ∧ w'.cell? ⟨gb582, 4, none⟩ = some (.int .i64 a1_4) ∧ w'.cell? (ad644.add (a1_4).toNat) = some (.int .i64 (rd l0 a1_4))) (ds := []) (tf_ 0 10) (by kernel_rfl) rfl rfl ⟨(blk_cell BK582.out 0).trans rfl, (blk_cell BK582.out 1).trans rfl, (blk_cell BK582.out 2).trans rfl, (blk_cell BK582.out 3).trans rfl, (blk_cell BK582.out 4).trans rfl, ((HB.out.cell (World.block_lt_of_cell? w _ hw644_0)).trans hw644_0)⟩ (fun hHeld => ?_); refine with_tabW spec_Emit.tab27 spec_Emit.bits27 (fun HT_ HW_ => ?_)
                generalize wc.drew = w116 at BK582 HB hx644_0 hHeld ⊢
                refine pureQ_ (i := 1) (N := some 103) #[false, true, false, false, false, false, false, false, false, false] (h := ?_)
                refine pureQ_ (i := 2) (N := some 104) #[false, true, true, false, false, false, false, false, false, false] (h := ?_)
                refine pureQ_ (i := 3) (N := some 105) #[false, true, true, true, false, false, false, false, false, false] (h := ?_)
                refine pureQ_ (i := 7) (N := some 109) #[false, true, true, true, false, false, false, true, false, false] (h := ?_)
                refine takeQ_ (i := 0) (N := some 102) #[true, true, true, true, false, false, false, true, false, false] hHeld (hy := Or.inl ⟨by rfl, att13_0_5⟩) (h := ?_)
                refine takeQ_ (i := 4) (N := some 106) #[true, true, true, true, true, false, false, true, false, false] hHeld (hy := Or.inl ⟨by rfl, att13_0_5⟩) (h := ?_)
                refine pureQ_ (i := 5) (N := some 107) #[true, true, true, true, true, true, false, true, false, false] (h := ?_)
                refine takeQ_ (i := 6) (N := some 108) (tf_ 8 2) hHeld (hy := Or.inl ⟨by rfl, att13_0_5⟩) (h := ?_)
                refine one_ (i := 8) (N := some 110) (tf_ 9 1) rfl rfl (one_of HT_.out (by kernel_rfl)) (by decide) (fun K hK => ?_)
                refine goes_ Try.func112 (by kernel_rfl) rfl #[.agg #[.int .i64 a1_0, .int .i64 a1_1, .int .i64 a1_2, .int .i64 a1_3, .int .i64 a1_4], .int .i64 t643, .int .i64 (rd l0 a1_4), .int .i64 a2] (by rfl) rfl rfl atgM_ ?_
                with_reducible refine (spec_l10Send.calls a1_0 a1_1 a1_2 a1_3 a1_4 t643 (rd l0 a1_4) a2 t645 _ A115.out).mono ?_
                rintro e w117 ⟨v646, rfl, ho0, hb⟩
                refine ⟨_, rfl, ?_⟩
                have n0_ := Aside0.mk (Kd.R_lower ho0 (below_size att13_0_0))
                have n1_ := Aside0.mk (blk_below (g := gb582) (o := .cells #[.int .i64 a1_0, .int .i64 a1_1, .int .i64 a1_2, .int .i64 a1_3, .int .i64 a1_4] 37 (0, 0)) att13_0_1 hb)
                have n2_ := Aside0.mk (below_step att13_0_0 hb)
                clear BK582
                clear HB
                have HO647 := n0_
                have BK582 := n1_
                have HB := n2_
                clear n0_ n1_ n2_
                (try clear hb)
                (try clear hb2)
                (try clear hk)
                (try clear hi)
                (try clear ho0)
                refine hK.out _ _ ⟨(blk_cell BK582.out 0).trans rfl, (blk_cell BK582.out 1).trans rfl, (blk_cell BK582.out 2).trans rfl, (blk_cell BK582.out 3).trans rfl, (blk_cell BK582.out 4).trans rfl, ((HB.out.cell (World.block_lt_of_cell? w _ hw644_0)).trans hw644_0)⟩ (fun hHeld => ?_)
                clear hK K
                refine normS_ (N := some 110) (h := ?_)
                refine pureQ_ (i := 9) (N := some 8) (tf_ 10 0) (h := ?_)
                refine done_ (done_of HT_.out (by kernel_rfl)) ?_
                try go_wp2
                go_ret
                exact ⟨_, retT_, by exact toR_ (HO647.out), att13_0_0⟩
               ·rw [if_neg c114] at H
                exact absurd H (by simp)
              ·rw [if_neg c113] at H
               exact absurd H (by simp)
             ·replace c112 := Bool.eq_false_iff.mpr c112
              subst c112
              rw [if_neg (show ¬ (false = true) by decide)] at H
              have HC118 := Aside0.mk H
              clear H
              go_upto_if 111 with (fail)
              go_cut [111] (fun v111 wc => ∃ (kq : Nat) (x111_117 : Bool), v111 = .bool x111_117 ∧ Aside0 (spec_Emit.j1 kq l0 a2 t643 x111_117 a1_0 a1_1 a1_2 a1_3 a1_4 = some r) ∧ Aside0 (kq ≤ kj103) ∧ Aside0 (wc.heap[gb582]? = some (.cells #[.int .i64 a1_0, .int .i64 a1_1, .int .i64 a1_2, .int .i64 a1_3, .int .i64 a1_4] 37 (0, 0))) ∧ Aside0 (Below w.heap.size w wc))
              case first =>
               have H := HC118.out
               clear HC118
               by_cases c119 : a1_0 = 6
               ·rw [if_pos c119] at H
                have c119b0 := beq_iff_eq.mpr c119
                have c119b1 := bne_eq_false_iff_eq.mpr c119
                clear c119
                (first | rw [c119b0] | (simp only [i64_w, i32_w]; rw [c119b0]) | skip)
                have H' := Aside0.mk H
                clear H
                go_wp2
                go_meet
                case rel => exact ⟨_, ((a1_0 == 6)), atgR_, H', ⟨by have := HJ103.out; first | omega | exact Nat.le_refl _⟩, ⟨att13_0_1⟩, ⟨att13_0_0⟩⟩
               ·rw [if_neg c119] at H
                have c119b0 := beq_eq_false_iff_ne.mpr c119
                have c119b1 := bne_iff_ne.mpr c119
                (first | rw [c119b0] | (simp only [i64_w, i32_w]; rw [c119b0]) | skip)
                have H' := Aside0.mk H
                clear H
                go_wp2
                go_meet
                case rel => exact ⟨_, ((a1_0 == 8)), atgR_, H', ⟨by have := HJ103.out; first | omega | exact Nat.le_refl _⟩, ⟨att13_0_1⟩, ⟨att13_0_0⟩⟩
              case rest =>
               clear HC118
               try clear c1
               try clear c2
               try clear p2
               try clear c3
               try clear c4
               try clear c5
               try clear c6
               try clear p6
               try clear q6
               try clear hx6
               try clear c7
               try clear c7b0
               try clear c7b1
               try clear c8
               try clear c9
               try clear c10
               try clear c11
               try clear c18
               try clear c18b0
               try clear c18b1
               try clear c23
               try clear c29
               try clear c29b0
               try clear c29b1
               try clear c40
               try clear c40b0
               try clear c40b1
               try clear c51
               try clear c51b0
               try clear c51b1
               try clear c60
               try clear c60b0
               try clear c60b1
               try clear c61
               try clear c61b0
               try clear c62
               try clear c62b0
               try clear p62
               try clear q62
               try clear hx62
               try clear p63
               try clear q63
               try clear hx63
               try clear p64
               try clear q64
               try clear hx64
               try clear c73
               try clear c73b0
               try clear c73b1
               try clear c74
               try clear c74b0
               try clear c75
               try clear c75b0
               try clear c87
               try clear c87b0
               try clear c87b1
               try clear c97
               try clear c97b0
               try clear c106
               try clear c107
               try clear c108
               try clear c109
               try clear c110
               try clear c111
               try clear c111b0
               try clear c111b1
               try clear c112
               try clear c113
               try clear c113b0
               try clear c114
               try clear c114b0
               try clear c119
               try clear c119b0
               try clear c119b1
               try clear hcz101_0 hcz101_1 hcz101_2 hcz101_3 hcz101_4
               try clear hcz103_0 hcz103_1 hcz103_2 hcz103_3 hcz103_4
               try clear hcz108_0 hcz108_1 hcz108_2 hcz108_3 hcz108_4
               try clear hcz110_0 hcz110_1 hcz110_2 hcz110_3 hcz110_4
               try clear hcz12_0 hcz12_1 hcz12_2 hcz12_3 hcz12_4
               try clear hcz14_0 hcz14_1 hcz14_2 hcz14_3 hcz14_4
               try clear hcz23_0 hcz23_1 hcz23_2 hcz23_3 hcz23_4
               try clear hcz25_0 hcz25_1 hcz25_2 hcz25_3 hcz25_4
               try clear hcz34_0 hcz34_1 hcz34_2 hcz34_3 hcz34_4
               try clear hcz36_0 hcz36_1 hcz36_2 hcz36_3 hcz36_4
               try clear hcz45_0 hcz45_1 hcz45_2 hcz45_3 hcz45_4
               try clear hcz47_0 hcz47_1 hcz47_2 hcz47_3 hcz47_4
               try clear hcz55_0 hcz55_1 hcz55_2 hcz55_3 hcz55_4
               try clear hcz57_0 hcz57_1 hcz57_2 hcz57_3 hcz57_4
               try clear hcz67_0 hcz67_1 hcz67_2 hcz67_3 hcz67_4
               try clear hcz69_0 hcz69_1 hcz69_2 hcz69_3 hcz69_4
               try clear hcz80_0 hcz80_1 hcz80_2 hcz80_3 hcz80_4
               try clear hcz82_0 hcz82_1 hcz82_2 hcz82_3 hcz82_4
               try clear hcz91_0 hcz91_1 hcz91_2 hcz91_3 hcz91_4
               try clear hcz93_0 hcz93_1 hcz93_2 hcz93_3 hcz93_4
               try clear hfz101_0 hfz101_1 hfz101_2 hfz101_3 hfz101_4
               try clear hfz103_0 hfz103_1 hfz103_2 hfz103_3 hfz103_4
               try clear hfz108_0 hfz108_1 hfz108_2 hfz108_3 hfz108_4
               try clear hfz110_0 hfz110_1 hfz110_2 hfz110_3 hfz110_4
               try clear hfz12_0 hfz12_1 hfz12_2 hfz12_3 hfz12_4
               try clear hfz14_0 hfz14_1 hfz14_2 hfz14_3 hfz14_4
               try clear hfz23_0 hfz23_1 hfz23_2 hfz23_3 hfz23_4
               try clear hfz25_0 hfz25_1 hfz25_2 hfz25_3 hfz25_4
               try clear hfz34_0 hfz34_1 hfz34_2 hfz34_3 hfz34_4
               try clear hfz36_0 hfz36_1 hfz36_2 hfz36_3 hfz36_4
               try clear hfz45_0 hfz45_1 hfz45_2 hfz45_3 hfz45_4
               try clear hfz47_0 hfz47_1 hfz47_2 hfz47_3 hfz47_4
               try clear hfz55_0 hfz55_1 hfz55_2 hfz55_3 hfz55_4
               try clear hfz57_0 hfz57_1 hfz57_2 hfz57_3 hfz57_4
               try clear hfz67_0 hfz67_1 hfz67_2 hfz67_3 hfz67_4
               try clear hfz69_0 hfz69_1 hfz69_2 hfz69_3 hfz69_4
               try clear hfz80_0 hfz80_1 hfz80_2 hfz80_3 hfz80_4
               try clear hfz82_0 hfz82_1 hfz82_2 hfz82_3 hfz82_4
               try clear hfz91_0 hfz91_1 hfz91_2 hfz91_3 hfz91_4
               try clear hfz93_0 hfz93_1 hfz93_2 hfz93_3 hfz93_4
               try clear hx622_0
               try clear hx631_0
               try clear hx644_0
               try clear p2
               try clear p6
               try clear p62
               try clear p622
               try clear p63
               try clear p631
               try clear p644
               try clear q6
               try clear q62
               try clear q622
               try clear q63
               try clear q631
               try clear q644
               obtain ⟨kq, x111_117, rfl, HA, HJ117, BK582, HB⟩ := hcut
               cases kq with
               | zero => exact absurd HA.out (by simp [spec_Emit.j1])
               | succ kj117 =>
                have H := HA.out
                clear HA
                simp only [spec_Emit.j1] at H
                by_cases c120 : x111_117 = true
                ·subst c120
                 rw [if_pos rfl] at H
                 by_cases c121 : 0 ≤ a1_4
                 ·rw [if_pos c121] at H
                  have c121b0 := decide_eq_true c121
                  clear c121
                  by_cases c122 : a1_4 < (l0.length : Int)
                  ·rw [if_pos c122] at H
                   have c122b0 := decide_eq_true c122
                   clear c122
                   replace H := Option.bind_eq_some_iff.mp H
                   obtain ⟨t649, A1230, H⟩ := H
                   (try dsimp only at H)
                   have A123 := Aside0.mk A1230
                   clear A1230
                   obtain rfl := Option.some.inj H
                   try go_wp2
                   have n0_ := Aside0.mk (blk_drew BK582.out)
                   have n1_ := Aside0.mk (below_drew1 HB.out)
                   clear BK582
                   clear HB
                   have BK582 := n0_
                   have HB := n1_
                   clear n0_ n1_
                   have p648 : 0 ≤ (a1_4 : Int) := of_decide_eq_true atgA_
                   have q648 : a1_4 < (l0.length : Int) := of_decide_eq_true atgA_
                   obtain ⟨ad648, e648, hx648_0⟩ := Kd.at_int HR0.out a1_4 p648 q648
                   have hw648_0 := hx648_0
                   cases e648
                   replace hx648_0 := blc_ HB hx648_0
                   replace p648 := eq_true p648
                   replace q648 := eq_true q648
                   refine start_ (n := 10) (S := fun w' => w'.cell? ⟨gb582, 0, none⟩ = some (.int .i64 a1_0) ∧ w'.cell? ⟨gb582, 1, none⟩ = some (.int .i64 a1_1) ∧ w'.cell? ⟨gb582, 2, none⟩ = some (.int .i64 a1_2) ∧ w'.cell? ⟨gb582, 3, none⟩ = some (.int .i64 a1_3) ∧ w'.cell? ⟨gb582, 4, none⟩ = some (.int .i64 a1_4) ∧ w'.cell? (ad648.add (a1_4).toNat) = some (.int .i64 (rd l0 a1_4))) (ds := []) (tf_ 0 10) (by kernel_rfl) rfl rfl ⟨(blk_cell BK582.out 0).trans rfl, (blk_cell BK582.out 1).trans rfl, (blk_cell BK582.out 2).trans rfl, (blk_cell BK582.out 3).trans rfl, (blk_cell BK582.out 4).trans rfl, ((HB.out.cell (World.block_lt_of_cell? w _ hw648_0)).trans hw648_0)⟩ (fun hHeld => ?_); refine with_tabW spec_Emit.tab30 spec_Emit.bits30 (fun HT_ HW_ => ?_)
                   generalize wc.drew = w124 at BK582 HB hx648_0 hHeld ⊢
                   refine pureQ_ (i := 1) (N := some 115) #[false, true, false, false, false, false, false, false, false, false] (h := ?_)
                   refine pureQ_ (i := 2) (N := some 116) #[false, true, true, false, false, false, false, false, false, false] (h := ?_)
                   refine pureQ_ (i := 3) (N := some 117) #[false, true, true, true, false, false, false, false, false, false] (h := ?_)
                   refine pureQ_ (i := 7) (N := some 121) #[false, true, true, true, false, false, false, true, false, false] (h := ?_)
                   refine takeQ_ (i := 0) (N := some 114) #[true, true, true, true, false, false, false, true, false, false] hHeld (hy := Or.inl ⟨by rfl, att13_0_5⟩) (h := ?_)
                   refine takeQ_ (i := 4) (N := some 118) #[true, true, true, true, true, false, false, true, false, false] hHeld (hy := Or.inl ⟨by rfl, att13_0_5⟩) (h := ?_)
                   refine pureQ_ (i := 5) (N := some 119) #[true, true, true, true, true, true, false, true, false, false] (h := ?_)
                   refine takeQ_ (i := 6) (N := some 120) (tf_ 8 2) hHeld (hy := Or.inl ⟨by rfl, att13_0_5⟩) (h := ?_)
                   refine one_ (i := 8) (N := some 122) (tf_ 9 1) rfl rfl (one_of HT_.out (by kernel_rfl)) (by decide) (fun K hK => ?_)
                   refine goes_ Try.func113 (by kernel_rfl) rfl #[.agg #[.int .i64 a1_0, .int .i64 a1_1, .int .i64 a1_2, .int .i64 a1_3, .int .i64 a1_4], .int .i64 t643, .int .i64 (rd l0 a1_4), .int .i64 a2] (by rfl) rfl rfl atgM_ ?_
                   with_reducible refine (spec_l10Take.calls a1_0 a1_1 a1_2 a1_3 a1_4 t643 (rd l0 a1_4) a2 t649 _ A123.out).mono ?_
                   rintro e w125 ⟨v650, rfl, ho0, hb⟩
                   refine ⟨_, rfl, ?_⟩
                   have n0_ := Aside0.mk (Kd.R_lower ho0 (below_size att13_0_0))
                   have n1_ := Aside0.mk (blk_below (g := gb582) (o := .cells #[.int .i64 a1_0, .int .i64 a1_1, .int .i64 a1_2, .int .i64 a1_3, .int .i64 a1_4] 37 (0, 0)) att13_0_1 hb)
                   have n2_ := Aside0.mk (below_step att13_0_0 hb)
                   clear BK582
                   clear HB
                   have HO651 := n0_
                   have BK582 := n1_
                   have HB := n2_
                   clear n0_ n1_ n2_
                   (try clear hb)
                   (try clear hb2)
                   (try clear hk)
                   (try clear hi)
                   (try clear ho0)
                   refine hK.out _ _ ⟨(blk_cell BK582.out 0).trans rfl, (blk_cell BK582.out 1).trans rfl, (blk_cell BK582.out 2).trans rfl, (blk_cell BK582.out 3).trans rfl, (blk_cell BK582.out 4).trans rfl, ((HB.out.cell (World.block_lt_of_cell? w _ hw648_0)).trans hw648_0)⟩ (fun hHeld => ?_)
                   clear hK K
                   refine normS_ (N := some 122) (h := ?_)
                   refine pureQ_ (i := 9) (N := some 8) (tf_ 10 0) (h := ?_)
                   refine done_ (done_of HT_.out (by kernel_rfl)) ?_
                   try go_wp2
                   go_ret
                   exact ⟨_, retT_, by exact toR_ (HO651.out), att13_0_0⟩
                  ·rw [if_neg c122] at H
                   exact absurd H (by simp)
                 ·rw [if_neg c121] at H
                  exact absurd H (by simp)
                ·replace c120 := Bool.eq_false_iff.mpr c120
                 subst c120
                 rw [if_neg (show ¬ (false = true) by decide)] at H
                 replace H := Option.bind_eq_some_iff.mp H
                 obtain ⟨t652, A1260, H⟩ := H
                 (try dsimp only at H)
                 have A126 := Aside0.mk A1260
                 clear A1260
                 obtain rfl := Option.some.inj H
                 go_wp2_with (first | ((with_reducible refine gate_callee (f := 114) rfl ?_); refine goesL_ (some 125) rfl rfl Try.func114 (by kernel_rfl) rfl #[.int .i64 t643, .int .i64 a2] rfl atgM_ ?_; (with_reducible refine (spec_l10Close.calls t643 a2 t652 _ A126.out).mono ?_); rintro e w127 ⟨v653, rfl, ho0, hb⟩; refine ⟨_, rfl, ?_⟩; refine swap3_ (Kd.R_lower ho0 (below_size att13_0_0)) (blk_below (g := gb582) (o := .cells #[.int .i64 a1_0, .int .i64 a1_1, .int .i64 a1_2, .int .i64 a1_3, .int .i64 a1_4] 37 (0, 0)) att13_0_1 hb) (below_step att13_0_0 hb) ?_; clear BK582 HB; intro HO654 BK582 HB; (try clear hb); (try clear hb2); (try clear hk); (try clear hi); (try clear ho0)))
                 go_ret
                 exact ⟨_, retT_, by exact toR_ (HO654.out), att13_0_0⟩
 ·replace c6 := Bool.eq_false_iff.mpr c6
  subst c6
  rw [if_neg (show ¬ (false = true) by decide)] at H
  obtain rfl := Option.some.inj H
  go_enter Try.func23, Try.ntmps23
  go_wp2_with (first | ((with_reducible refine gate_dst (N := 5) rfl ?_); refine box_event ?hg (N := 5) ?hd (cs := #[.int .i64 a1_0, .int .i64 a1_1, .int .i64 a1_2, .int .i64 a1_3, .int .i64 a1_4]) (t := 37) ?hr ?_; (case hd => rfl); (case hg => rfl); (case hr => first | (go_simp; done) | (go_simp; rfl)); intro gb582 hg w128 hbox hb; refine swap4_ (below_step atgB_ hb) (hbox) ((by rw [hg]; exact (below_size atgB_) : w.heap.size ≤ gb582)) ((by rw [hg]; exact (below_size atgB_) : w.heap.size ≤ gb582)) ?_; clear HB; intro HB BK582 GW582 GE582; clear hb hbox hg) | ((with_reducible refine gate_dst (N := 11) rfl ?_); refine Kd.R_lit k46 _ 46 ?hg (N := 11) ?hd (xs := ([] : List (S46))) (inner := []) (ok := fun _ => True) (okp := fun _ => True) ?hr ?hp (fun _ hk => hk) trivial (Below.refl _ _) (Nat.le_refl _) (by simp) ?_; (case hd => rfl); (case hg => rfl); (case hr => first | (go_simp; done) | (go_simp; rfl)); (case hp => exact (Reps.none _ _)); intro v584 w129 ho130 hb hg_ hnew_; clear hg_ hnew_; (first | rw [← Ny583.out] at ho130 | (simp only [Int.reduceToNat] at ho130; rw [← Ny583.out] at ho130)); refine swap3_ (Kd.R_lower ho130 (below_size att13_0_0)) (blk_below (g := gb582) (o := .cells #[.int .i64 a1_0, .int .i64 a1_1, .int .i64 a1_2, .int .i64 a1_3, .int .i64 a1_4] 37 (0, 0)) att13_0_1 hb) (below_step att13_0_0 hb) ?_; clear BK582 HB; intro HO585 BK582 HB; clear hb ho130; obtain ⟨hcz131_0, hcz131_1, hcz131_2, hcz131_3, hcz131_4, hfz131_0, hfz131_1, hfz131_2, hfz131_3, hfz131_4⟩ := blkB5_ BK582) | ((with_reducible refine gate_callee (f := 106) rfl ?_); refine goesL_ (some 17) rfl rfl Try.func106 (by kernel_rfl) rfl #[.agg #[.int .i64 a1_0, .int .i64 a1_1, .int .i64 a1_2, .int .i64 a1_3, .int .i64 a1_4], .int .i64 (l3.length : Int), .int .i64 (l0.length : Int)] rfl atgM_ ?_; (with_reducible refine (spec_InsOk.calls k a1_0 a1_1 a1_2 a1_3 a1_4 (l3.length : Int) (l0.length : Int) false _ A5.out).mono ?_); rintro e w132 ⟨rfl, hb⟩; refine ⟨_, rfl, ?_⟩; refine swap3_ (Kd.R_below att13_0_3 hb) (blk_below (g := gb582) (o := .cells #[.int .i64 a1_0, .int .i64 a1_1, .int .i64 a1_2, .int .i64 a1_3, .int .i64 a1_4] 37 (0, 0)) att13_0_1 hb) (below_step att13_0_0 hb) ?_; clear HO585 BK582 HB; intro HO585 BK582 HB; (try clear hb); (try clear hb2); (try clear hk); (try clear hi)))
  go_ret
  exact ⟨_, retT_, by exact toR_ (HO585.out), att13_0_0⟩

end Go.Proofs.Ytonlhgkpmjefkaa.XFnExactEmit
