/- Each Go function that the law reaches as a Lean function, and that Go comes to just its answer; written by this session's xprint.py over the kit's printer. -/
import Derived.Test.YtonlhgkpmjefkaaXFnEmittedx0
import Derived.Test.YtonlhgkpmjefkaaXFnEmittedx10
import Derived.Test.YtonlhgkpmjefkaaXFnEmittedx11
import Derived.Test.YtonlhgkpmjefkaaXFnEmittedx12
import Derived.Test.YtonlhgkpmjefkaaXFnEmittedx13
namespace Go.Proofs.Ytonlhgkpmjefkaa.XFnEmitted
open Go.RowKit Go.Proofs.YtonlhgkpmjefkaaW.PrintWords Go.Proofs.YtonlhgkpmjefkaaW.PrintLast Go.Proofs.YtonlhgkpmjefkaaW.PrintMore
attribute [local go_sem] max2_int min2_int max_two min_two max_three min_three max_four min_four   -- for this text's walks alone
set_option linter.unusedVariables false
set_option linter.unusedSimpArgs false

theorem att15_0_0 {p : Prop} (h : p := by repeat (first | (with_reducible first | exact HB.out | apply below_alloc | apply pw_below_drewN | apply below_drew1 | refine below_set ?_ GE381.out) | exact HB.out)) : p := h
theorem att15_0_1 {p : Prop} (h : p := by (with_reducible repeat (first | refine blk_drewN ?_ _ | refine blk_drew ?_ | refine blk_alloc ?_ _)); exact BK381.out) : p := h
theorem att15_0_3 {p : Prop} (h : p := by exact toR_ (HO384.out)) : p := h
theorem att15_0_5 {p : Prop} (h : p := by rintro w' ⟨s0, s1, s2, s3, s4, s5⟩; go_simp; with_reducible rfl) : p := h
/-! ### spec_Emit: function 23 -/
mutual
def spec_Emit.j0 : Nat → List Int → Int → Int → Int → Bool → Int → Int → Int → Int → Int → Option ((List (S46)))
 | 0, _, _, _, _, _, _, _, _, _, _ => none
 | k + 1, x0, x2, x10, x98, x99, x382000, x382001, x382002, x382003, x382004 => if x99 = true then (if 0 ≤ x382004 then (if x382004 < (x0.length : Int) then ((spec_l10Send.f x382000 x382001 x382002 x382003 x382004 x10 (rd x0 x382004) x2).bind fun t444 => (some t444)) else (none)) else (none)) else (if x98 = 6 then (spec_Emit.j1 k x0 x2 x10 (x98 == 6) x382000 x382001 x382002 x382003 x382004) else (spec_Emit.j1 k x0 x2 x10 (x98 == 8) x382000 x382001 x382002 x382003 x382004))
def spec_Emit.j1 : Nat → List Int → Int → Int → Bool → Int → Int → Int → Int → Int → Option ((List (S46)))
 | 0, _, _, _, _, _, _, _, _, _ => none
 | k + 1, x0, x2, x10, x111, x382000, x382001, x382002, x382003, x382004 => if x111 = true then (if 0 ≤ x382004 then (if x382004 < (x0.length : Int) then ((spec_l10Take.f x382000 x382001 x382002 x382003 x382004 x10 (rd x0 x382004) x2).bind fun t448 => (some t448)) else (none)) else (none)) else ((spec_l10Close.f x10 x2).bind fun t451 => (some t451))
end
def spec_Emit.f (k : Nat) (l0 : List Int) (a1_0 : Int) (a1_1 : Int) (a1_2 : Int) (a1_3 : Int) (a1_4 : Int) (a2 : Int) (l3 : List Int) : Option ((List (S46))) := (some (([] : List (S46)) : List (S46))).bind fun y382 => ((spec_InsOk.f k a1_0 a1_1 a1_2 a1_3 a1_4 (l3.length : Int) (l0.length : Int)).bind fun t385 => (if t385 = true then (if a1_0 = 1 then ((spec_l10Set.f a1_1 a1_4).bind fun bt386 => (some (([(⟨bt386.1, bt386.2.1, bt386.2.2.1, bt386.2.2.2.1, bt386.2.2.2.2⟩ : S46)] : List (S46))))) else (if a1_0 = 2 then ((spec_l10Three.f 2 a1_1 a1_2 a1_3).bind fun bt394 => (some (([(⟨bt394.1, bt394.2.1, bt394.2.2.1, bt394.2.2.2.1, bt394.2.2.2.2⟩ : S46)] : List (S46))))) else (if a1_0 = 3 then ((spec_l10Three.f 3 a1_1 a1_2 a1_3).bind fun bt402 => (some (([(⟨bt402.1, bt402.2.1, bt402.2.2.1, bt402.2.2.2.1, bt402.2.2.2.2⟩ : S46)] : List (S46))))) else (if a1_0 = 4 then ((spec_l10Three.f 4 a1_1 a1_2 a1_3).bind fun bt410 => (some (([(⟨bt410.1, bt410.2.1, bt410.2.2.1, bt410.2.2.2.1, bt410.2.2.2.2⟩ : S46)] : List (S46))))) else (if a1_0 = 10 then (some (([(⟨9, 0, a1_2, 0, 0⟩ : S46)] : List (S46)))) else (if a1_0 = 11 then (if 0 ≤ a1_4 then (if a1_4 < (l3.length : Int) then ((spec_l10Jump.f (rd l3 a1_4)).bind fun bt422 => (some (([(⟨bt422.1, bt422.2.1, bt422.2.2.1, bt422.2.2.2.1, bt422.2.2.2.2⟩ : S46)] : List (S46))))) else (none)) else (none)) else (if a1_0 = 12 then (if 0 ≤ a1_4 then (if a1_4 < (l3.length : Int) then ((spec_l10Zero.f a1_2 (rd l3 a1_4)).bind fun bt431 => (some (([(⟨bt431.1, bt431.2.1, bt431.2.2.1, bt431.2.2.2.1, bt431.2.2.2.2⟩ : S46)] : List (S46))))) else (none)) else (none)) else (if a1_0 = 13 then (some (([(⟨12, 0, 0, 0, 0⟩ : S46)] : List (S46)))) else ((spec_Base.f k l0 a1_4).bind fun t442 => (if t442 < 0 then (some y382) else (if a1_0 = 5 then (spec_Emit.j0 k l0 a2 t442 a1_0 (a1_0 == 5) a1_0 a1_1 a1_2 a1_3 a1_4) else (spec_Emit.j0 k l0 a2 t442 a1_0 (a1_0 == 7) a1_0 a1_1 a1_2 a1_3 a1_4)))))))))))) else (some y382)))
theorem spec_Emit.mono_l : ∀ k, (∀ y0 y1 y2 y3 y4 y5 y6 y7 y8 y9, LeO (spec_Emit.j0 k y0 y1 y2 y3 y4 y5 y6 y7 y8 y9) (spec_Emit.j0 (k + 1) y0 y1 y2 y3 y4 y5 y6 y7 y8 y9)) ∧ (∀ y0 y1 y2 y3 y4 y5 y6 y7 y8, LeO (spec_Emit.j1 k y0 y1 y2 y3 y4 y5 y6 y7 y8) (spec_Emit.j1 (k + 1) y0 y1 y2 y3 y4 y5 y6 y7 y8))
 | 0 => ⟨fun _ _ _ _ _ _ _ _ _ _ r h => by simp [spec_Emit.j0] at h, fun _ _ _ _ _ _ _ _ _ r h => by simp [spec_Emit.j1] at h⟩
 | k + 1 => by
  obtain ⟨ih0, ih1⟩ := spec_Emit.mono_l k
  refine ⟨?_, ?_⟩
  all_goals intros
  all_goals first | unfold spec_Emit.j0 | unfold spec_Emit.j1
  all_goals repeat' (with_reducible first | exact ih0 .. | exact ih1 .. | exact spec_Base.mono .. | exact spec_InsOk.mono .. | exact LeO.refl _ | exact LeO.none _ | refine LeO.ite ?_ ?_ | refine LeO.bind ?_ (fun _ => ?_))
theorem spec_Emit.mono : ∀ a0 a1 a2 a3 a4 a5 a6 a7 k, LeO (spec_Emit.f k a0 a1 a2 a3 a4 a5 a6 a7) (spec_Emit.f (k + 1) a0 a1 a2 a3 a4 a5 a6 a7) := by
 intro a0 a1 a2 a3 a4 a5 a6 a7 k
 obtain ⟨ih0, ih1⟩ := spec_Emit.mono_l k
 unfold spec_Emit.f
 repeat' (with_reducible first | exact ih0 .. | exact ih1 .. | exact spec_Base.mono .. | exact spec_InsOk.mono .. | exact LeO.refl _ | exact LeO.none _ | refine LeO.ite ?_ ?_ | refine LeO.bind ?_ (fun _ => ?_))
def spec_Emit.T18 : Bool × List (List Nat × List Nat) := (true, [([], []), ([0], [0]), ([], []), ([], []), ([3], [3]), ([2, 4], [2, 4]), ([5], [5]), ([1, 6], [1, 6]), ([7], [7]), ([8, 7, 0, 1, 2, 3, 4, 5, 6, 7, 8], [8])])
def spec_Emit.B18 : List Nat := [0, 1, 0, 0, 8, 28, 60, 127, 255, 511]
theorem spec_Emit.tab18 : rtab .any (opsOf Try.f23 18) = spec_Emit.T18 := by kernel_rfl
theorem spec_Emit.bits18 : waitsOk spec_Emit.T18.2 spec_Emit.B18 = true := by kernel_rfl
def spec_Emit.T27 : Bool × List (List Nat × List Nat) := (true, [([], []), ([], []), ([], []), ([], []), ([3], [3]), ([2, 4], [2, 4]), ([5], [5]), ([], []), ([0, 1, 6, 7], [0, 1, 6, 7]), ([8, 8, 0, 1, 2, 3, 4, 5, 6, 7, 8], [8])])
def spec_Emit.B27 : List Nat := [0, 0, 0, 0, 8, 28, 60, 0, 255, 511]
theorem spec_Emit.tab27 : rtab .any (opsOf Try.f23 27) = spec_Emit.T27 := by kernel_rfl
theorem spec_Emit.bits27 : waitsOk spec_Emit.T27.2 spec_Emit.B27 = true := by kernel_rfl
def spec_Emit.T30 : Bool × List (List Nat × List Nat) := (true, [([], []), ([], []), ([], []), ([], []), ([3], [3]), ([2, 4], [2, 4]), ([5], [5]), ([], []), ([0, 1, 6, 7], [0, 1, 6, 7]), ([8, 8, 0, 1, 2, 3, 4, 5, 6, 7, 8], [8])])
def spec_Emit.B30 : List Nat := [0, 0, 0, 0, 8, 28, 60, 0, 255, 511]
theorem spec_Emit.tab30 : rtab .any (opsOf Try.f23 30) = spec_Emit.T30 := by kernel_rfl
theorem spec_Emit.bits30 : waitsOk spec_Emit.T30.2 spec_Emit.B30 = true := by kernel_rfl
set_option maxHeartbeats 80000000 in
set_option maxRecDepth 100000 in
theorem spec_Emit.calls (k : Nat) (A0 : Option Addr) (c0 : Nat) (l0 : List Int) (a1_0 : Int) (a1_1 : Int) (a1_2 : Int) (a1_3 : Int) (a1_4 : Int) (a2 : Int) (A3 : Option Addr) (c3 : Nat) (l3 : List Int) (r : List (S46)) (w : World) (hr0 : Kd.C (Kd.int .i64) w A0 l0.length l0) (hc0 : l0.length ≤ c0) (hr3 : Kd.C (Kd.int .i64) w A3 l3.length l3) (hc3 : l3.length ≤ c3) (h : spec_Emit.f k l0 a1_0 a1_1 a1_2 a1_3 a1_4 a2 l3 = some r) :
  Calls Try.prog 23 #[.slice A0 l0.length c0, .agg #[.int .i64 a1_0, .int .i64 a1_1, .int .i64 a1_2, .int .i64 a1_3, .int .i64 a1_4], .int .i64 a2, .slice A3 l3.length c3] w fun e w' => ∃ v0_ : Value, e = .returned (v0_) ∧ Kd.R k46 46 w' w.heap.size (fun _ => True) v0_ r ∧ Below w.heap.size w w' := by
 have hu37 := Try.underlying37
 have hu46 := Try.underlying46
 have HR0 := Aside0.mk hr0
 have HC0 := Aside0.mk hc0
 clear hr0 hc0
 have HR3 := Aside0.mk hr3
 have HC3 := Aside0.mk hc3
 clear hr3 hc3
 have HB := Aside0.mk (Below.refl w.heap.size w)
 have H : ((some (([] : List (S46)) : List (S46))).bind fun y382 => ((spec_InsOk.f k a1_0 a1_1 a1_2 a1_3 a1_4 (l3.length : Int) (l0.length : Int)).bind fun t385 => (if t385 = true then (if a1_0 = 1 then ((spec_l10Set.f a1_1 a1_4).bind fun bt386 => (some (([(⟨bt386.1, bt386.2.1, bt386.2.2.1, bt386.2.2.2.1, bt386.2.2.2.2⟩ : S46)] : List (S46))))) else (if a1_0 = 2 then ((spec_l10Three.f 2 a1_1 a1_2 a1_3).bind fun bt394 => (some (([(⟨bt394.1, bt394.2.1, bt394.2.2.1, bt394.2.2.2.1, bt394.2.2.2.2⟩ : S46)] : List (S46))))) else (if a1_0 = 3 then ((spec_l10Three.f 3 a1_1 a1_2 a1_3).bind fun bt402 => (some (([(⟨bt402.1, bt402.2.1, bt402.2.2.1, bt402.2.2.2.1, bt402.2.2.2.2⟩ : S46)] : List (S46))))) else (if a1_0 = 4 then ((spec_l10Three.f 4 a1_1 a1_2 a1_3).bind fun bt410 => (some (([(⟨bt410.1, bt410.2.1, bt410.2.2.1, bt410.2.2.2.1, bt410.2.2.2.2⟩ : S46)] : List (S46))))) else (if a1_0 = 10 then (some (([(⟨9, 0, a1_2, 0, 0⟩ : S46)] : List (S46)))) else (if a1_0 = 11 then (if 0 ≤ a1_4 then (if a1_4 < (l3.length : Int) then ((spec_l10Jump.f (rd l3 a1_4)).bind fun bt422 => (some (([(⟨bt422.1, bt422.2.1, bt422.2.2.1, bt422.2.2.2.1, bt422.2.2.2.2⟩ : S46)] : List (S46))))) else (none)) else (none)) else (if a1_0 = 12 then (if 0 ≤ a1_4 then (if a1_4 < (l3.length : Int) then ((spec_l10Zero.f a1_2 (rd l3 a1_4)).bind fun bt431 => (some (([(⟨bt431.1, bt431.2.1, bt431.2.2.1, bt431.2.2.2.1, bt431.2.2.2.2⟩ : S46)] : List (S46))))) else (none)) else (none)) else (if a1_0 = 13 then (some (([(⟨12, 0, 0, 0, 0⟩ : S46)] : List (S46)))) else ((spec_Base.f k l0 a1_4).bind fun t442 => (if t442 < 0 then (some y382) else (if a1_0 = 5 then (spec_Emit.j0 k l0 a2 t442 a1_0 (a1_0 == 5) a1_0 a1_1 a1_2 a1_3 a1_4) else (spec_Emit.j0 k l0 a2 t442 a1_0 (a1_0 == 7) a1_0 a1_1 a1_2 a1_3 a1_4)))))))))))) else (some y382)))) = some r := h
 clear h
 obtain ⟨y382, hy382⟩ : ∃ y_ : List (S46), y_ = (([] : List (S46))) := ⟨_, rfl⟩
 replace H := yy_ H hy382
 have Ny382 := Aside0.mk hy382
 clear hy382
 replace H := Option.bind_eq_some_iff.mp H
 obtain ⟨t385, A50, H⟩ := H
 (try dsimp only at H)
 have A5 := Aside0.mk A50
 clear A50
 by_cases c6 : t385 = true
 ·subst c6
  rw [if_pos rfl] at H
  by_cases c7 : a1_0 = 1
  ·rw [if_pos c7] at H
   have c7b0 := beq_iff_eq.mpr c7
   have c7b1 := bne_eq_false_iff_eq.mpr c7
   clear c7
   replace H := Option.bind_eq_some_iff.mp H
   obtain ⟨⟨t386, t387, t388, t389, t390⟩, A80, H⟩ := H
   (try dsimp only at H)
   have A8 := Aside0.mk A80
   clear A80
   obtain ⟨y391, hy391⟩ : ∃ y_ : List (S46), y_ = (([(⟨t386, t387, t388, t389, t390⟩ : S46)] : List (S46))) := ⟨_, rfl⟩
   replace H : (some y391) = some r := by rw [hy391]; exact H
   have Ny391 := Aside0.mk hy391
   clear hy391
   obtain rfl := Option.some.inj H
   go_enter Try.func23, Try.ntmps23
   go_wp2_with (first | ((with_reducible refine gate_dst (N := 5) rfl ?_); refine box_event ?hg (N := 5) ?hd (cs := #[.int .i64 a1_0, .int .i64 a1_1, .int .i64 a1_2, .int .i64 a1_3, .int .i64 a1_4]) (t := 37) ?hr ?_; (case hd => rfl); (case hg => rfl); (case hr => first | (go_simp; done) | (go_simp; rfl)); intro gb381 hg w9 hbox hb; refine swap4_ (below_step atgB_ hb) (hbox) ((by rw [hg]; exact (below_size atgB_) : w.heap.size ≤ gb381)) ((by rw [hg]; exact (below_size atgB_) : w.heap.size ≤ gb381)) ?_; clear HB; intro HB BK381 GW381 GE381; clear hb hbox hg) | ((with_reducible refine gate_dst (N := 11) rfl ?_); refine Kd.R_lit k46 _ 46 ?hg (N := 11) ?hd (xs := ([] : List (S46))) (inner := []) (ok := fun _ => True) (okp := fun _ => True) ?hr ?hp (fun _ hk => hk) trivial (Below.refl _ _) (Nat.le_refl _) (by simp) ?_; (case hd => rfl); (case hg => rfl); (case hr => first | (go_simp; done) | (go_simp; rfl)); (case hp => exact (Reps.none _ _)); intro v383 w10 ho11 hb hg_ hnew_; clear hg_ hnew_; (first | rw [← Ny382.out] at ho11 | (simp only [Int.reduceToNat] at ho11; rw [← Ny382.out] at ho11)); refine swap3_ (Kd.R_lower ho11 (below_size att15_0_0)) (blk_below (g := gb381) (o := .cells #[.int .i64 a1_0, .int .i64 a1_1, .int .i64 a1_2, .int .i64 a1_3, .int .i64 a1_4] 37 (0, 0)) att15_0_1 hb) (below_step att15_0_0 hb) ?_; clear BK381 HB; intro HO384 BK381 HB; clear hb ho11; obtain ⟨hcz12_0, hcz12_1, hcz12_2, hcz12_3, hcz12_4, hfz12_0, hfz12_1, hfz12_2, hfz12_3, hfz12_4⟩ := blkB5_ BK381) | ((with_reducible refine gate_callee (f := 106) rfl ?_); refine goesL_ (some 17) rfl rfl Try.func106 (by kernel_rfl) rfl #[.agg #[.int .i64 a1_0, .int .i64 a1_1, .int .i64 a1_2, .int .i64 a1_3, .int .i64 a1_4], .int .i64 (l3.length : Int), .int .i64 (l0.length : Int)] rfl atgM_ ?_; (with_reducible refine (spec_InsOk.calls k a1_0 a1_1 a1_2 a1_3 a1_4 (l3.length : Int) (l0.length : Int) true _ A5.out).mono ?_); rintro e w13 ⟨rfl, hb⟩; refine ⟨_, rfl, ?_⟩; refine swap3_ (Kd.R_below att15_0_3 hb) (blk_below (g := gb381) (o := .cells #[.int .i64 a1_0, .int .i64 a1_1, .int .i64 a1_2, .int .i64 a1_3, .int .i64 a1_4] 37 (0, 0)) att15_0_1 hb) (below_step att15_0_0 hb) ?_; clear HO384 BK381 HB; intro HO384 BK381 HB; (try clear hb); (try clear hb2); (try clear hk); (try clear hi); obtain ⟨hcz14_0, hcz14_1, hcz14_2, hcz14_3, hcz14_4, hfz14_0, hfz14_1, hfz14_2, hfz14_3, hfz14_4⟩ := blkB5_ BK381) | ((with_reducible refine gate_callee (f := 107) rfl ?_); refine goesL_ (some 28) rfl rfl Try.func107 (by kernel_rfl) rfl #[.int .i64 a1_1, .int .i64 a1_4] rfl atgM_ ?_; (with_reducible refine (spec_l10Set.calls a1_1 a1_4 t386 t387 t388 t389 t390 _ A8.out).mono ?_); rintro e w15 ⟨rfl, hb⟩; refine ⟨_, rfl, ?_⟩; refine swap3_ (Kd.R_below att15_0_3 hb) (blk_below (g := gb381) (o := .cells #[.int .i64 a1_0, .int .i64 a1_1, .int .i64 a1_2, .int .i64 a1_3, .int .i64 a1_4] 37 (0, 0)) att15_0_1 hb) (below_step att15_0_0 hb) ?_; clear HO384 BK381 HB; intro HO384 BK381 HB; (try clear hb); (try clear hb2); (try clear hk); (try clear hi)) | ((with_reducible refine gate_dst (N := 29) rfl ?_); refine Kd.R_lit k46 _ 46 ?hg (N := 29) ?hd (xs := ([(⟨t386, t387, t388, t389, t390⟩ : S46)] : List (S46))) (inner := [.int .i64 t386, .int .i64 t387, .int .i64 t388, .int .i64 t389, .int .i64 t390]) (ok := fun _ => True) (okp := fun _ => True) ?hr ?hp (fun _ hk => hk) trivial (Below.refl _ _) (Nat.le_refl _) (by simp) ?_; (case hd => rfl); (case hg => rfl); (case hr => first | (go_simp; done) | (go_simp; rfl)); (case hp => exact (Reps.c5 (show Kd.M k46 _ _ _ (⟨t386, t387, t388, t389, t390⟩ : S46) [.int .i64 t386, .int .i64 t387, .int .i64 t388, .int .i64 t389, .int .i64 t390] from (k46_mkM _ _ _ (⟨t386, t387, t388, t389, t390⟩ : S46) )) (Reps.none _ _))); intro v392 w16 ho17 hb hg_ hnew_; clear hg_ hnew_; (first | rw [← Ny391.out] at ho17 | (simp only [Int.reduceToNat] at ho17; rw [← Ny391.out] at ho17)); refine swap4_ (Kd.R_elder' att15_0_3 (Kd.R_base ho17) hb) (Kd.R_lower (Kd.R_new' ho17 (Kd.R_lt att15_0_3)) (below_size att15_0_0)) (blk_below (g := gb381) (o := .cells #[.int .i64 a1_0, .int .i64 a1_1, .int .i64 a1_2, .int .i64 a1_3, .int .i64 a1_4] 37 (0, 0)) att15_0_1 hb) (below_step att15_0_0 hb) ?_; clear HO384 BK381 HB; intro HO384 HO393 BK381 HB; clear hb ho17))
   go_ret
   exact ⟨_, retT_, by exact toR_ (Kd.R_mono HO393.out (fun _ hk => trivial)), att15_0_0⟩
  ·rw [if_neg c7] at H
   have c7b0 := beq_eq_false_iff_ne.mpr c7
   have c7b1 := bne_iff_ne.mpr c7
   by_cases c18 : a1_0 = 2
   ·rw [if_pos c18] at H
    have c18b0 := beq_iff_eq.mpr c18
    have c18b1 := bne_eq_false_iff_eq.mpr c18
    clear c18
    replace H := Option.bind_eq_some_iff.mp H
    obtain ⟨⟨t394, t395, t396, t397, t398⟩, A190, H⟩ := H
    (try dsimp only at H)
    have A19 := Aside0.mk A190
    clear A190
    obtain ⟨y399, hy399⟩ : ∃ y_ : List (S46), y_ = (([(⟨t394, t395, t396, t397, t398⟩ : S46)] : List (S46))) := ⟨_, rfl⟩
    replace H : (some y399) = some r := by rw [hy399]; exact H
    have Ny399 := Aside0.mk hy399
    clear hy399
    obtain rfl := Option.some.inj H
    go_enter Try.func23, Try.ntmps23
    go_wp2_with (first | ((with_reducible refine gate_dst (N := 5) rfl ?_); refine box_event ?hg (N := 5) ?hd (cs := #[.int .i64 a1_0, .int .i64 a1_1, .int .i64 a1_2, .int .i64 a1_3, .int .i64 a1_4]) (t := 37) ?hr ?_; (case hd => rfl); (case hg => rfl); (case hr => first | (go_simp; done) | (go_simp; rfl)); intro gb381 hg w20 hbox hb; refine swap4_ (below_step atgB_ hb) (hbox) ((by rw [hg]; exact (below_size atgB_) : w.heap.size ≤ gb381)) ((by rw [hg]; exact (below_size atgB_) : w.heap.size ≤ gb381)) ?_; clear HB; intro HB BK381 GW381 GE381; clear hb hbox hg) | ((with_reducible refine gate_dst (N := 11) rfl ?_); refine Kd.R_lit k46 _ 46 ?hg (N := 11) ?hd (xs := ([] : List (S46))) (inner := []) (ok := fun _ => True) (okp := fun _ => True) ?hr ?hp (fun _ hk => hk) trivial (Below.refl _ _) (Nat.le_refl _) (by simp) ?_; (case hd => rfl); (case hg => rfl); (case hr => first | (go_simp; done) | (go_simp; rfl)); (case hp => exact (Reps.none _ _)); intro v383 w21 ho22 hb hg_ hnew_; clear hg_ hnew_; (first | rw [← Ny382.out] at ho22 | (simp only [Int.reduceToNat] at ho22; rw [← Ny382.out] at ho22)); refine swap3_ (Kd.R_lower ho22 (below_size att15_0_0)) (blk_below (g := gb381) (o := .cells #[.int .i64 a1_0, .int .i64 a1_1, .int .i64 a1_2, .int .i64 a1_3, .int .i64 a1_4] 37 (0, 0)) att15_0_1 hb) (below_step att15_0_0 hb) ?_; clear BK381 HB; intro HO384 BK381 HB; clear hb ho22; obtain ⟨hcz23_0, hcz23_1, hcz23_2, hcz23_3, hcz23_4, hfz23_0, hfz23_1, hfz23_2, hfz23_3, hfz23_4⟩ := blkB5_ BK381) | ((with_reducible refine gate_callee (f := 106) rfl ?_); refine goesL_ (some 17) rfl rfl Try.func106 (by kernel_rfl) rfl #[.agg #[.int .i64 a1_0, .int .i64 a1_1, .int .i64 a1_2, .int .i64 a1_3, .int .i64 a1_4], .int .i64 (l3.length : Int), .int .i64 (l0.length : Int)] rfl atgM_ ?_; (with_reducible refine (spec_InsOk.calls k a1_0 a1_1 a1_2 a1_3 a1_4 (l3.length : Int) (l0.length : Int) true _ A5.out).mono ?_); rintro e w24 ⟨rfl, hb⟩; refine ⟨_, rfl, ?_⟩; refine swap3_ (Kd.R_below att15_0_3 hb) (blk_below (g := gb381) (o := .cells #[.int .i64 a1_0, .int .i64 a1_1, .int .i64 a1_2, .int .i64 a1_3, .int .i64 a1_4] 37 (0, 0)) att15_0_1 hb) (below_step att15_0_0 hb) ?_; clear HO384 BK381 HB; intro HO384 BK381 HB; (try clear hb); (try clear hb2); (try clear hk); (try clear hi); obtain ⟨hcz25_0, hcz25_1, hcz25_2, hcz25_3, hcz25_4, hfz25_0, hfz25_1, hfz25_2, hfz25_3, hfz25_4⟩ := blkB5_ BK381) | ((with_reducible refine gate_callee (f := 108) rfl ?_); refine goesL_ (some 38) rfl rfl Try.func108 (by kernel_rfl) rfl #[.int .i64 2, .int .i64 a1_1, .int .i64 a1_2, .int .i64 a1_3] rfl atgM_ ?_; (with_reducible refine (spec_l10Three.calls 2 a1_1 a1_2 a1_3 t394 t395 t396 t397 t398 _ A19.out).mono ?_); rintro e w26 ⟨rfl, hb⟩; refine ⟨_, rfl, ?_⟩; refine swap3_ (Kd.R_below att15_0_3 hb) (blk_below (g := gb381) (o := .cells #[.int .i64 a1_0, .int .i64 a1_1, .int .i64 a1_2, .int .i64 a1_3, .int .i64 a1_4] 37 (0, 0)) att15_0_1 hb) (below_step att15_0_0 hb) ?_; clear HO384 BK381 HB; intro HO384 BK381 HB; (try clear hb); (try clear hb2); (try clear hk); (try clear hi)) | ((with_reducible refine gate_dst (N := 39) rfl ?_); refine Kd.R_lit k46 _ 46 ?hg (N := 39) ?hd (xs := ([(⟨t394, t395, t396, t397, t398⟩ : S46)] : List (S46))) (inner := [.int .i64 t394, .int .i64 t395, .int .i64 t396, .int .i64 t397, .int .i64 t398]) (ok := fun _ => True) (okp := fun _ => True) ?hr ?hp (fun _ hk => hk) trivial (Below.refl _ _) (Nat.le_refl _) (by simp) ?_; (case hd => rfl); (case hg => rfl); (case hr => first | (go_simp; done) | (go_simp; rfl)); (case hp => exact (Reps.c5 (show Kd.M k46 _ _ _ (⟨t394, t395, t396, t397, t398⟩ : S46) [.int .i64 t394, .int .i64 t395, .int .i64 t396, .int .i64 t397, .int .i64 t398] from (k46_mkM _ _ _ (⟨t394, t395, t396, t397, t398⟩ : S46) )) (Reps.none _ _))); intro v400 w27 ho28 hb hg_ hnew_; clear hg_ hnew_; (first | rw [← Ny399.out] at ho28 | (simp only [Int.reduceToNat] at ho28; rw [← Ny399.out] at ho28)); refine swap4_ (Kd.R_elder' att15_0_3 (Kd.R_base ho28) hb) (Kd.R_lower (Kd.R_new' ho28 (Kd.R_lt att15_0_3)) (below_size att15_0_0)) (blk_below (g := gb381) (o := .cells #[.int .i64 a1_0, .int .i64 a1_1, .int .i64 a1_2, .int .i64 a1_3, .int .i64 a1_4] 37 (0, 0)) att15_0_1 hb) (below_step att15_0_0 hb) ?_; clear HO384 BK381 HB; intro HO384 HO401 BK381 HB; clear hb ho28))
    go_ret
    exact ⟨_, retT_, by exact toR_ (Kd.R_mono HO401.out (fun _ hk => trivial)), att15_0_0⟩
   ·rw [if_neg c18] at H
    have c18b0 := beq_eq_false_iff_ne.mpr c18
    have c18b1 := bne_iff_ne.mpr c18
    by_cases c29 : a1_0 = 3
    ·rw [if_pos c29] at H
     have c29b0 := beq_iff_eq.mpr c29
     have c29b1 := bne_eq_false_iff_eq.mpr c29
     clear c29
     replace H := Option.bind_eq_some_iff.mp H
     obtain ⟨⟨t402, t403, t404, t405, t406⟩, A300, H⟩ := H
     (try dsimp only at H)
     have A30 := Aside0.mk A300
     clear A300
     obtain ⟨y407, hy407⟩ : ∃ y_ : List (S46), y_ = (([(⟨t402, t403, t404, t405, t406⟩ : S46)] : List (S46))) := ⟨_, rfl⟩
     replace H : (some y407) = some r := by rw [hy407]; exact H
     have Ny407 := Aside0.mk hy407
     clear hy407
     obtain rfl := Option.some.inj H
     go_enter Try.func23, Try.ntmps23
     go_wp2_with (first | ((with_reducible refine gate_dst (N := 5) rfl ?_); refine box_event ?hg (N := 5) ?hd (cs := #[.int .i64 a1_0, .int .i64 a1_1, .int .i64 a1_2, .int .i64 a1_3, .int .i64 a1_4]) (t := 37) ?hr ?_; (case hd => rfl); (case hg => rfl); (case hr => first | (go_simp; done) | (go_simp; rfl)); intro gb381 hg w31 hbox hb; refine swap4_ (below_step atgB_ hb) (hbox) ((by rw [hg]; exact (below_size atgB_) : w.heap.size ≤ gb381)) ((by rw [hg]; exact (below_size atgB_) : w.heap.size ≤ gb381)) ?_; clear HB; intro HB BK381 GW381 GE381; clear hb hbox hg) | ((with_reducible refine gate_dst (N := 11) rfl ?_); refine Kd.R_lit k46 _ 46 ?hg (N := 11) ?hd (xs := ([] : List (S46))) (inner := []) (ok := fun _ => True) (okp := fun _ => True) ?hr ?hp (fun _ hk => hk) trivial (Below.refl _ _) (Nat.le_refl _) (by simp) ?_; (case hd => rfl); (case hg => rfl); (case hr => first | (go_simp; done) | (go_simp; rfl)); (case hp => exact (Reps.none _ _)); intro v383 w32 ho33 hb hg_ hnew_; clear hg_ hnew_; (first | rw [← Ny382.out] at ho33 | (simp only [Int.reduceToNat] at ho33; rw [← Ny382.out] at ho33)); refine swap3_ (Kd.R_lower ho33 (below_size att15_0_0)) (blk_below (g := gb381) (o := .cells #[.int .i64 a1_0, .int .i64 a1_1, .int .i64 a1_2, .int .i64 a1_3, .int .i64 a1_4] 37 (0, 0)) att15_0_1 hb) (below_step att15_0_0 hb) ?_; clear BK381 HB; intro HO384 BK381 HB; clear hb ho33; obtain ⟨hcz34_0, hcz34_1, hcz34_2, hcz34_3, hcz34_4, hfz34_0, hfz34_1, hfz34_2, hfz34_3, hfz34_4⟩ := blkB5_ BK381) | ((with_reducible refine gate_callee (f := 106) rfl ?_); refine goesL_ (some 17) rfl rfl Try.func106 (by kernel_rfl) rfl #[.agg #[.int .i64 a1_0, .int .i64 a1_1, .int .i64 a1_2, .int .i64 a1_3, .int .i64 a1_4], .int .i64 (l3.length : Int), .int .i64 (l0.length : Int)] rfl atgM_ ?_; (with_reducible refine (spec_InsOk.calls k a1_0 a1_1 a1_2 a1_3 a1_4 (l3.length : Int) (l0.length : Int) true _ A5.out).mono ?_); rintro e w35 ⟨rfl, hb⟩; refine ⟨_, rfl, ?_⟩; refine swap3_ (Kd.R_below att15_0_3 hb) (blk_below (g := gb381) (o := .cells #[.int .i64 a1_0, .int .i64 a1_1, .int .i64 a1_2, .int .i64 a1_3, .int .i64 a1_4] 37 (0, 0)) att15_0_1 hb) (below_step att15_0_0 hb) ?_; clear HO384 BK381 HB; intro HO384 BK381 HB; (try clear hb); (try clear hb2); (try clear hk); (try clear hi); obtain ⟨hcz36_0, hcz36_1, hcz36_2, hcz36_3, hcz36_4, hfz36_0, hfz36_1, hfz36_2, hfz36_3, hfz36_4⟩ := blkB5_ BK381) | ((with_reducible refine gate_callee (f := 108) rfl ?_); refine goesL_ (some 48) rfl rfl Try.func108 (by kernel_rfl) rfl #[.int .i64 3, .int .i64 a1_1, .int .i64 a1_2, .int .i64 a1_3] rfl atgM_ ?_; (with_reducible refine (spec_l10Three.calls 3 a1_1 a1_2 a1_3 t402 t403 t404 t405 t406 _ A30.out).mono ?_); rintro e w37 ⟨rfl, hb⟩; refine ⟨_, rfl, ?_⟩; refine swap3_ (Kd.R_below att15_0_3 hb) (blk_below (g := gb381) (o := .cells #[.int .i64 a1_0, .int .i64 a1_1, .int .i64 a1_2, .int .i64 a1_3, .int .i64 a1_4] 37 (0, 0)) att15_0_1 hb) (below_step att15_0_0 hb) ?_; clear HO384 BK381 HB; intro HO384 BK381 HB; (try clear hb); (try clear hb2); (try clear hk); (try clear hi)) | ((with_reducible refine gate_dst (N := 49) rfl ?_); refine Kd.R_lit k46 _ 46 ?hg (N := 49) ?hd (xs := ([(⟨t402, t403, t404, t405, t406⟩ : S46)] : List (S46))) (inner := [.int .i64 t402, .int .i64 t403, .int .i64 t404, .int .i64 t405, .int .i64 t406]) (ok := fun _ => True) (okp := fun _ => True) ?hr ?hp (fun _ hk => hk) trivial (Below.refl _ _) (Nat.le_refl _) (by simp) ?_; (case hd => rfl); (case hg => rfl); (case hr => first | (go_simp; done) | (go_simp; rfl)); (case hp => exact (Reps.c5 (show Kd.M k46 _ _ _ (⟨t402, t403, t404, t405, t406⟩ : S46) [.int .i64 t402, .int .i64 t403, .int .i64 t404, .int .i64 t405, .int .i64 t406] from (k46_mkM _ _ _ (⟨t402, t403, t404, t405, t406⟩ : S46) )) (Reps.none _ _))); intro v408 w38 ho39 hb hg_ hnew_; clear hg_ hnew_; (first | rw [← Ny407.out] at ho39 | (simp only [Int.reduceToNat] at ho39; rw [← Ny407.out] at ho39)); refine swap4_ (Kd.R_elder' att15_0_3 (Kd.R_base ho39) hb) (Kd.R_lower (Kd.R_new' ho39 (Kd.R_lt att15_0_3)) (below_size att15_0_0)) (blk_below (g := gb381) (o := .cells #[.int .i64 a1_0, .int .i64 a1_1, .int .i64 a1_2, .int .i64 a1_3, .int .i64 a1_4] 37 (0, 0)) att15_0_1 hb) (below_step att15_0_0 hb) ?_; clear HO384 BK381 HB; intro HO384 HO409 BK381 HB; clear hb ho39))
     go_ret
     exact ⟨_, retT_, by exact toR_ (Kd.R_mono HO409.out (fun _ hk => trivial)), att15_0_0⟩
    ·rw [if_neg c29] at H
     have c29b0 := beq_eq_false_iff_ne.mpr c29
     have c29b1 := bne_iff_ne.mpr c29
     by_cases c40 : a1_0 = 4
     ·rw [if_pos c40] at H
      have c40b0 := beq_iff_eq.mpr c40
      have c40b1 := bne_eq_false_iff_eq.mpr c40
      clear c40
      replace H := Option.bind_eq_some_iff.mp H
      obtain ⟨⟨t410, t411, t412, t413, t414⟩, A410, H⟩ := H
      (try dsimp only at H)
      have A41 := Aside0.mk A410
      clear A410
      obtain ⟨y415, hy415⟩ : ∃ y_ : List (S46), y_ = (([(⟨t410, t411, t412, t413, t414⟩ : S46)] : List (S46))) := ⟨_, rfl⟩
      replace H : (some y415) = some r := by rw [hy415]; exact H
      have Ny415 := Aside0.mk hy415
      clear hy415
      obtain rfl := Option.some.inj H
      go_enter Try.func23, Try.ntmps23
      go_wp2_with (first | ((with_reducible refine gate_dst (N := 5) rfl ?_); refine box_event ?hg (N := 5) ?hd (cs := #[.int .i64 a1_0, .int .i64 a1_1, .int .i64 a1_2, .int .i64 a1_3, .int .i64 a1_4]) (t := 37) ?hr ?_; (case hd => rfl); (case hg => rfl); (case hr => first | (go_simp; done) | (go_simp; rfl)); intro gb381 hg w42 hbox hb; refine swap4_ (below_step atgB_ hb) (hbox) ((by rw [hg]; exact (below_size atgB_) : w.heap.size ≤ gb381)) ((by rw [hg]; exact (below_size atgB_) : w.heap.size ≤ gb381)) ?_; clear HB; intro HB BK381 GW381 GE381; clear hb hbox hg) | ((with_reducible refine gate_dst (N := 11) rfl ?_); refine Kd.R_lit k46 _ 46 ?hg (N := 11) ?hd (xs := ([] : List (S46))) (inner := []) (ok := fun _ => True) (okp := fun _ => True) ?hr ?hp (fun _ hk => hk) trivial (Below.refl _ _) (Nat.le_refl _) (by simp) ?_; (case hd => rfl); (case hg => rfl); (case hr => first | (go_simp; done) | (go_simp; rfl)); (case hp => exact (Reps.none _ _)); intro v383 w43 ho44 hb hg_ hnew_; clear hg_ hnew_; (first | rw [← Ny382.out] at ho44 | (simp only [Int.reduceToNat] at ho44; rw [← Ny382.out] at ho44)); refine swap3_ (Kd.R_lower ho44 (below_size att15_0_0)) (blk_below (g := gb381) (o := .cells #[.int .i64 a1_0, .int .i64 a1_1, .int .i64 a1_2, .int .i64 a1_3, .int .i64 a1_4] 37 (0, 0)) att15_0_1 hb) (below_step att15_0_0 hb) ?_; clear BK381 HB; intro HO384 BK381 HB; clear hb ho44; obtain ⟨hcz45_0, hcz45_1, hcz45_2, hcz45_3, hcz45_4, hfz45_0, hfz45_1, hfz45_2, hfz45_3, hfz45_4⟩ := blkB5_ BK381) | ((with_reducible refine gate_callee (f := 106) rfl ?_); refine goesL_ (some 17) rfl rfl Try.func106 (by kernel_rfl) rfl #[.agg #[.int .i64 a1_0, .int .i64 a1_1, .int .i64 a1_2, .int .i64 a1_3, .int .i64 a1_4], .int .i64 (l3.length : Int), .int .i64 (l0.length : Int)] rfl atgM_ ?_; (with_reducible refine (spec_InsOk.calls k a1_0 a1_1 a1_2 a1_3 a1_4 (l3.length : Int) (l0.length : Int) true _ A5.out).mono ?_); rintro e w46 ⟨rfl, hb⟩; refine ⟨_, rfl, ?_⟩; refine swap3_ (Kd.R_below att15_0_3 hb) (blk_below (g := gb381) (o := .cells #[.int .i64 a1_0, .int .i64 a1_1, .int .i64 a1_2, .int .i64 a1_3, .int .i64 a1_4] 37 (0, 0)) att15_0_1 hb) (below_step att15_0_0 hb) ?_; clear HO384 BK381 HB; intro HO384 BK381 HB; (try clear hb); (try clear hb2); (try clear hk); (try clear hi); obtain ⟨hcz47_0, hcz47_1, hcz47_2, hcz47_3, hcz47_4, hfz47_0, hfz47_1, hfz47_2, hfz47_3, hfz47_4⟩ := blkB5_ BK381) | ((with_reducible refine gate_callee (f := 108) rfl ?_); refine goesL_ (some 58) rfl rfl Try.func108 (by kernel_rfl) rfl #[.int .i64 4, .int .i64 a1_1, .int .i64 a1_2, .int .i64 a1_3] rfl atgM_ ?_; (with_reducible refine (spec_l10Three.calls 4 a1_1 a1_2 a1_3 t410 t411 t412 t413 t414 _ A41.out).mono ?_); rintro e w48 ⟨rfl, hb⟩; refine ⟨_, rfl, ?_⟩; refine swap3_ (Kd.R_below att15_0_3 hb) (blk_below (g := gb381) (o := .cells #[.int .i64 a1_0, .int .i64 a1_1, .int .i64 a1_2, .int .i64 a1_3, .int .i64 a1_4] 37 (0, 0)) att15_0_1 hb) (below_step att15_0_0 hb) ?_; clear HO384 BK381 HB; intro HO384 BK381 HB; (try clear hb); (try clear hb2); (try clear hk); (try clear hi)) | ((with_reducible refine gate_dst (N := 59) rfl ?_); refine Kd.R_lit k46 _ 46 ?hg (N := 59) ?hd (xs := ([(⟨t410, t411, t412, t413, t414⟩ : S46)] : List (S46))) (inner := [.int .i64 t410, .int .i64 t411, .int .i64 t412, .int .i64 t413, .int .i64 t414]) (ok := fun _ => True) (okp := fun _ => True) ?hr ?hp (fun _ hk => hk) trivial (Below.refl _ _) (Nat.le_refl _) (by simp) ?_; (case hd => rfl); (case hg => rfl); (case hr => first | (go_simp; done) | (go_simp; rfl)); (case hp => exact (Reps.c5 (show Kd.M k46 _ _ _ (⟨t410, t411, t412, t413, t414⟩ : S46) [.int .i64 t410, .int .i64 t411, .int .i64 t412, .int .i64 t413, .int .i64 t414] from (k46_mkM _ _ _ (⟨t410, t411, t412, t413, t414⟩ : S46) )) (Reps.none _ _))); intro v416 w49 ho50 hb hg_ hnew_; clear hg_ hnew_; (first | rw [← Ny415.out] at ho50 | (simp only [Int.reduceToNat] at ho50; rw [← Ny415.out] at ho50)); refine swap4_ (Kd.R_elder' att15_0_3 (Kd.R_base ho50) hb) (Kd.R_lower (Kd.R_new' ho50 (Kd.R_lt att15_0_3)) (below_size att15_0_0)) (blk_below (g := gb381) (o := .cells #[.int .i64 a1_0, .int .i64 a1_1, .int .i64 a1_2, .int .i64 a1_3, .int .i64 a1_4] 37 (0, 0)) att15_0_1 hb) (below_step att15_0_0 hb) ?_; clear HO384 BK381 HB; intro HO384 HO417 BK381 HB; clear hb ho50))
      go_ret
      exact ⟨_, retT_, by exact toR_ (Kd.R_mono HO417.out (fun _ hk => trivial)), att15_0_0⟩
     ·rw [if_neg c40] at H
      have c40b0 := beq_eq_false_iff_ne.mpr c40
      have c40b1 := bne_iff_ne.mpr c40
      by_cases c51 : a1_0 = 10
      ·rw [if_pos c51] at H
       have c51b0 := beq_iff_eq.mpr c51
       have c51b1 := bne_eq_false_iff_eq.mpr c51
       clear c51
       obtain ⟨y418, hy418⟩ : ∃ y_ : List (S46), y_ = (([(⟨9, 0, a1_2, 0, 0⟩ : S46)] : List (S46))) := ⟨_, rfl⟩
       replace H : (some y418) = some r := by rw [hy418]; exact H
       have Ny418 := Aside0.mk hy418
       clear hy418
       obtain rfl := Option.some.inj H
       go_enter Try.func23, Try.ntmps23
       go_wp2_with (first | ((with_reducible refine gate_dst (N := 5) rfl ?_); refine box_event ?hg (N := 5) ?hd (cs := #[.int .i64 a1_0, .int .i64 a1_1, .int .i64 a1_2, .int .i64 a1_3, .int .i64 a1_4]) (t := 37) ?hr ?_; (case hd => rfl); (case hg => rfl); (case hr => first | (go_simp; done) | (go_simp; rfl)); intro gb381 hg w52 hbox hb; refine swap4_ (below_step atgB_ hb) (hbox) ((by rw [hg]; exact (below_size atgB_) : w.heap.size ≤ gb381)) ((by rw [hg]; exact (below_size atgB_) : w.heap.size ≤ gb381)) ?_; clear HB; intro HB BK381 GW381 GE381; clear hb hbox hg) | ((with_reducible refine gate_dst (N := 11) rfl ?_); refine Kd.R_lit k46 _ 46 ?hg (N := 11) ?hd (xs := ([] : List (S46))) (inner := []) (ok := fun _ => True) (okp := fun _ => True) ?hr ?hp (fun _ hk => hk) trivial (Below.refl _ _) (Nat.le_refl _) (by simp) ?_; (case hd => rfl); (case hg => rfl); (case hr => first | (go_simp; done) | (go_simp; rfl)); (case hp => exact (Reps.none _ _)); intro v383 w53 ho54 hb hg_ hnew_; clear hg_ hnew_; (first | rw [← Ny382.out] at ho54 | (simp only [Int.reduceToNat] at ho54; rw [← Ny382.out] at ho54)); refine swap3_ (Kd.R_lower ho54 (below_size att15_0_0)) (blk_below (g := gb381) (o := .cells #[.int .i64 a1_0, .int .i64 a1_1, .int .i64 a1_2, .int .i64 a1_3, .int .i64 a1_4] 37 (0, 0)) att15_0_1 hb) (below_step att15_0_0 hb) ?_; clear BK381 HB; intro HO384 BK381 HB; clear hb ho54; obtain ⟨hcz55_0, hcz55_1, hcz55_2, hcz55_3, hcz55_4, hfz55_0, hfz55_1, hfz55_2, hfz55_3, hfz55_4⟩ := blkB5_ BK381) | ((with_reducible refine gate_callee (f := 106) rfl ?_); refine goesL_ (some 17) rfl rfl Try.func106 (by kernel_rfl) rfl #[.agg #[.int .i64 a1_0, .int .i64 a1_1, .int .i64 a1_2, .int .i64 a1_3, .int .i64 a1_4], .int .i64 (l3.length : Int), .int .i64 (l0.length : Int)] rfl atgM_ ?_; (with_reducible refine (spec_InsOk.calls k a1_0 a1_1 a1_2 a1_3 a1_4 (l3.length : Int) (l0.length : Int) true _ A5.out).mono ?_); rintro e w56 ⟨rfl, hb⟩; refine ⟨_, rfl, ?_⟩; refine swap3_ (Kd.R_below att15_0_3 hb) (blk_below (g := gb381) (o := .cells #[.int .i64 a1_0, .int .i64 a1_1, .int .i64 a1_2, .int .i64 a1_3, .int .i64 a1_4] 37 (0, 0)) att15_0_1 hb) (below_step att15_0_0 hb) ?_; clear HO384 BK381 HB; intro HO384 BK381 HB; (try clear hb); (try clear hb2); (try clear hk); (try clear hi); obtain ⟨hcz57_0, hcz57_1, hcz57_2, hcz57_3, hcz57_4, hfz57_0, hfz57_1, hfz57_2, hfz57_3, hfz57_4⟩ := blkB5_ BK381) | ((with_reducible refine gate_dst (N := 65) rfl ?_); refine Kd.R_lit k46 _ 46 ?hg (N := 65) ?hd (xs := ([(⟨9, 0, a1_2, 0, 0⟩ : S46)] : List (S46))) (inner := [.int .i64 9, .int .i64 0, .int .i64 a1_2, .int .i64 0, .int .i64 0]) (ok := fun _ => True) (okp := fun _ => True) ?hr ?hp (fun _ hk => hk) trivial (Below.refl _ _) (Nat.le_refl _) (by simp) ?_; (case hd => rfl); (case hg => rfl); (case hr => first | (go_simp; done) | (go_simp; rfl)); (case hp => exact (Reps.c5 (show Kd.M k46 _ _ _ (⟨9, 0, a1_2, 0, 0⟩ : S46) [.int .i64 9, .int .i64 0, .int .i64 a1_2, .int .i64 0, .int .i64 0] from (k46_mkM _ _ _ (⟨9, 0, a1_2, 0, 0⟩ : S46) )) (Reps.none _ _))); intro v419 w58 ho59 hb hg_ hnew_; clear hg_ hnew_; (first | rw [← Ny418.out] at ho59 | (simp only [Int.reduceToNat] at ho59; rw [← Ny418.out] at ho59)); refine swap4_ (Kd.R_elder' att15_0_3 (Kd.R_base ho59) hb) (Kd.R_lower (Kd.R_new' ho59 (Kd.R_lt att15_0_3)) (below_size att15_0_0)) (blk_below (g := gb381) (o := .cells #[.int .i64 a1_0, .int .i64 a1_1, .int .i64 a1_2, .int .i64 a1_3, .int .i64 a1_4] 37 (0, 0)) att15_0_1 hb) (below_step att15_0_0 hb) ?_; clear HO384 BK381 HB; intro HO384 HO420 BK381 HB; clear hb ho59))
       go_ret
       exact ⟨_, retT_, by exact toR_ (Kd.R_mono HO420.out (fun _ hk => trivial)), att15_0_0⟩
      ·rw [if_neg c51] at H
       have c51b0 := beq_eq_false_iff_ne.mpr c51
       have c51b1 := bne_iff_ne.mpr c51
       by_cases c60 : a1_0 = 11
       ·rw [if_pos c60] at H
        have c60b0 := beq_iff_eq.mpr c60
        have c60b1 := bne_eq_false_iff_eq.mpr c60
        clear c60
        by_cases c61 : 0 ≤ a1_4
        ·rw [if_pos c61] at H
         have c61b0 := decide_eq_true c61
         clear c61
         by_cases c62 : a1_4 < (l3.length : Int)
         ·rw [if_pos c62] at H
          have c62b0 := decide_eq_true c62
          clear c62
          replace H := Option.bind_eq_some_iff.mp H
          obtain ⟨⟨t422, t423, t424, t425, t426⟩, A630, H⟩ := H
          (try dsimp only at H)
          have A63 := Aside0.mk A630
          clear A630
          obtain ⟨y427, hy427⟩ : ∃ y_ : List (S46), y_ = (([(⟨t422, t423, t424, t425, t426⟩ : S46)] : List (S46))) := ⟨_, rfl⟩
          replace H : (some y427) = some r := by rw [hy427]; exact H
          have Ny427 := Aside0.mk hy427
          clear hy427
          obtain rfl := Option.some.inj H
          go_enter Try.func23, Try.ntmps23
          go_wp2_with (first | ((with_reducible refine gate_dst (N := 5) rfl ?_); refine box_event ?hg (N := 5) ?hd (cs := #[.int .i64 a1_0, .int .i64 a1_1, .int .i64 a1_2, .int .i64 a1_3, .int .i64 a1_4]) (t := 37) ?hr ?_; (case hd => rfl); (case hg => rfl); (case hr => first | (go_simp; done) | (go_simp; rfl)); intro gb381 hg w64 hbox hb; refine swap4_ (below_step atgB_ hb) (hbox) ((by rw [hg]; exact (below_size atgB_) : w.heap.size ≤ gb381)) ((by rw [hg]; exact (below_size atgB_) : w.heap.size ≤ gb381)) ?_; clear HB; intro HB BK381 GW381 GE381; clear hb hbox hg) | ((with_reducible refine gate_dst (N := 11) rfl ?_); refine Kd.R_lit k46 _ 46 ?hg (N := 11) ?hd (xs := ([] : List (S46))) (inner := []) (ok := fun _ => True) (okp := fun _ => True) ?hr ?hp (fun _ hk => hk) trivial (Below.refl _ _) (Nat.le_refl _) (by simp) ?_; (case hd => rfl); (case hg => rfl); (case hr => first | (go_simp; done) | (go_simp; rfl)); (case hp => exact (Reps.none _ _)); intro v383 w65 ho66 hb hg_ hnew_; clear hg_ hnew_; (first | rw [← Ny382.out] at ho66 | (simp only [Int.reduceToNat] at ho66; rw [← Ny382.out] at ho66)); refine swap3_ (Kd.R_lower ho66 (below_size att15_0_0)) (blk_below (g := gb381) (o := .cells #[.int .i64 a1_0, .int .i64 a1_1, .int .i64 a1_2, .int .i64 a1_3, .int .i64 a1_4] 37 (0, 0)) att15_0_1 hb) (below_step att15_0_0 hb) ?_; clear BK381 HB; intro HO384 BK381 HB; clear hb ho66; obtain ⟨hcz67_0, hcz67_1, hcz67_2, hcz67_3, hcz67_4, hfz67_0, hfz67_1, hfz67_2, hfz67_3, hfz67_4⟩ := blkB5_ BK381) | ((with_reducible refine gate_callee (f := 106) rfl ?_); refine goesL_ (some 17) rfl rfl Try.func106 (by kernel_rfl) rfl #[.agg #[.int .i64 a1_0, .int .i64 a1_1, .int .i64 a1_2, .int .i64 a1_3, .int .i64 a1_4], .int .i64 (l3.length : Int), .int .i64 (l0.length : Int)] rfl atgM_ ?_; (with_reducible refine (spec_InsOk.calls k a1_0 a1_1 a1_2 a1_3 a1_4 (l3.length : Int) (l0.length : Int) true _ A5.out).mono ?_); rintro e w68 ⟨rfl, hb⟩; refine ⟨_, rfl, ?_⟩; refine swap3_ (Kd.R_below att15_0_3 hb) (blk_below (g := gb381) (o := .cells #[.int .i64 a1_0, .int .i64 a1_1, .int .i64 a1_2, .int .i64 a1_3, .int .i64 a1_4] 37 (0, 0)) att15_0_1 hb) (below_step att15_0_0 hb) ?_; clear HO384 BK381 HB; intro HO384 BK381 HB; (try clear hb); (try clear hb2); (try clear hk); (try clear hi); obtain ⟨hcz69_0, hcz69_1, hcz69_2, hcz69_3, hcz69_4, hfz69_0, hfz69_1, hfz69_2, hfz69_3, hfz69_4⟩ := blkB5_ BK381; have p421 : 0 ≤ (a1_4 : Int) := of_decide_eq_true atgA_; have q421 : a1_4 < (l3.length : Int) := of_decide_eq_true atgA_; obtain ⟨ad421, e421, hx421_0⟩ := Kd.at_int HR3.out a1_4 p421 q421; cases e421; replace hx421_0 := blc_ HB hx421_0; replace p421 := eq_true p421; replace q421 := eq_true q421) | ((with_reducible refine gate_callee (f := 109) rfl ?_); refine goesL_ (some 73) rfl rfl Try.func109 (by kernel_rfl) rfl #[.int .i64 (rd l3 a1_4)] rfl atgM_ ?_; (with_reducible refine (spec_l10Jump.calls (rd l3 a1_4) t422 t423 t424 t425 t426 _ A63.out).mono ?_); rintro e w70 ⟨rfl, hb⟩; refine ⟨_, rfl, ?_⟩; refine swap3_ (Kd.R_below att15_0_3 hb) (blk_below (g := gb381) (o := .cells #[.int .i64 a1_0, .int .i64 a1_1, .int .i64 a1_2, .int .i64 a1_3, .int .i64 a1_4] 37 (0, 0)) att15_0_1 hb) (below_step att15_0_0 hb) ?_; clear HO384 BK381 HB; intro HO384 BK381 HB; (try clear hb); (try clear hb2); (try clear hk); (try clear hi)) | ((with_reducible refine gate_dst (N := 74) rfl ?_); refine Kd.R_lit k46 _ 46 ?hg (N := 74) ?hd (xs := ([(⟨t422, t423, t424, t425, t426⟩ : S46)] : List (S46))) (inner := [.int .i64 t422, .int .i64 t423, .int .i64 t424, .int .i64 t425, .int .i64 t426]) (ok := fun _ => True) (okp := fun _ => True) ?hr ?hp (fun _ hk => hk) trivial (Below.refl _ _) (Nat.le_refl _) (by simp) ?_; (case hd => rfl); (case hg => rfl); (case hr => first | (go_simp; done) | (go_simp; rfl)); (case hp => exact (Reps.c5 (show Kd.M k46 _ _ _ (⟨t422, t423, t424, t425, t426⟩ : S46) [.int .i64 t422, .int .i64 t423, .int .i64 t424, .int .i64 t425, .int .i64 t426] from (k46_mkM _ _ _ (⟨t422, t423, t424, t425, t426⟩ : S46) )) (Reps.none _ _))); intro v428 w71 ho72 hb hg_ hnew_; clear hg_ hnew_; (first | rw [← Ny427.out] at ho72 | (simp only [Int.reduceToNat] at ho72; rw [← Ny427.out] at ho72)); refine swap4_ (Kd.R_elder' att15_0_3 (Kd.R_base ho72) hb) (Kd.R_lower (Kd.R_new' ho72 (Kd.R_lt att15_0_3)) (below_size att15_0_0)) (blk_below (g := gb381) (o := .cells #[.int .i64 a1_0, .int .i64 a1_1, .int .i64 a1_2, .int .i64 a1_3, .int .i64 a1_4] 37 (0, 0)) att15_0_1 hb) (below_step att15_0_0 hb) ?_; clear HO384 BK381 HB; intro HO384 HO429 BK381 HB; clear hb ho72))
          go_ret
          exact ⟨_, retT_, by exact toR_ (Kd.R_mono HO429.out (fun _ hk => trivial)), att15_0_0⟩
         ·rw [if_neg c62] at H
          exact absurd H (by simp)
        ·rw [if_neg c61] at H
         exact absurd H (by simp)
       ·rw [if_neg c60] at H
        have c60b0 := beq_eq_false_iff_ne.mpr c60
        have c60b1 := bne_iff_ne.mpr c60
        by_cases c73 : a1_0 = 12
        ·rw [if_pos c73] at H
         have c73b0 := beq_iff_eq.mpr c73
         have c73b1 := bne_eq_false_iff_eq.mpr c73
         clear c73
         by_cases c74 : 0 ≤ a1_4
         ·rw [if_pos c74] at H
          have c74b0 := decide_eq_true c74
          clear c74
          by_cases c75 : a1_4 < (l3.length : Int)
          ·rw [if_pos c75] at H
           have c75b0 := decide_eq_true c75
           clear c75
           replace H := Option.bind_eq_some_iff.mp H
           obtain ⟨⟨t431, t432, t433, t434, t435⟩, A760, H⟩ := H
           (try dsimp only at H)
           have A76 := Aside0.mk A760
           clear A760
           obtain ⟨y436, hy436⟩ : ∃ y_ : List (S46), y_ = (([(⟨t431, t432, t433, t434, t435⟩ : S46)] : List (S46))) := ⟨_, rfl⟩
           replace H : (some y436) = some r := by rw [hy436]; exact H
           have Ny436 := Aside0.mk hy436
           clear hy436
           obtain rfl := Option.some.inj H
           go_enter Try.func23, Try.ntmps23
           try go_wp2_with (first | ((with_reducible refine gate_dst (N := 5) rfl ?_); refine box_event ?hg (N := 5) ?hd (cs := #[.int .i64 a1_0, .int .i64 a1_1, .int .i64 a1_2, .int .i64 a1_3, .int .i64 a1_4]) (t := 37) ?hr ?_; (case hd => rfl); (case hg => rfl); (case hr => first | (go_simp; done) | (go_simp; rfl)); intro gb381 hg w77 hbox hb; refine swap4_ (below_step atgB_ hb) (hbox) ((by rw [hg]; exact (below_size atgB_) : w.heap.size ≤ gb381)) ((by rw [hg]; exact (below_size atgB_) : w.heap.size ≤ gb381)) ?_; clear HB; intro HB BK381 GW381 GE381; clear hb hbox hg) | ((with_reducible refine gate_dst (N := 11) rfl ?_); refine Kd.R_lit k46 _ 46 ?hg (N := 11) ?hd (xs := ([] : List (S46))) (inner := []) (ok := fun _ => True) (okp := fun _ => True) ?hr ?hp (fun _ hk => hk) trivial (Below.refl _ _) (Nat.le_refl _) (by simp) ?_; (case hd => rfl); (case hg => rfl); (case hr => first | (go_simp; done) | (go_simp; rfl)); (case hp => exact (Reps.none _ _)); intro v383 w78 ho79 hb hg_ hnew_; clear hg_ hnew_; (first | rw [← Ny382.out] at ho79 | (simp only [Int.reduceToNat] at ho79; rw [← Ny382.out] at ho79)); refine swap3_ (Kd.R_lower ho79 (below_size att15_0_0)) (blk_below (g := gb381) (o := .cells #[.int .i64 a1_0, .int .i64 a1_1, .int .i64 a1_2, .int .i64 a1_3, .int .i64 a1_4] 37 (0, 0)) att15_0_1 hb) (below_step att15_0_0 hb) ?_; clear BK381 HB; intro HO384 BK381 HB; clear hb ho79; obtain ⟨hcz80_0, hcz80_1, hcz80_2, hcz80_3, hcz80_4, hfz80_0, hfz80_1, hfz80_2, hfz80_3, hfz80_4⟩ := blkB5_ BK381) | ((with_reducible refine gate_callee (f := 106) rfl ?_); refine goesL_ (some 17) rfl rfl Try.func106 (by kernel_rfl) rfl #[.agg #[.int .i64 a1_0, .int .i64 a1_1, .int .i64 a1_2, .int .i64 a1_3, .int .i64 a1_4], .int .i64 (l3.length : Int), .int .i64 (l0.length : Int)] rfl atgM_ ?_; (with_reducible refine (spec_InsOk.calls k a1_0 a1_1 a1_2 a1_3 a1_4 (l3.length : Int) (l0.length : Int) true _ A5.out).mono ?_); rintro e w81 ⟨rfl, hb⟩; refine ⟨_, rfl, ?_⟩; refine swap3_ (Kd.R_below att15_0_3 hb) (blk_below (g := gb381) (o := .cells #[.int .i64 a1_0, .int .i64 a1_1, .int .i64 a1_2, .int .i64 a1_3, .int .i64 a1_4] 37 (0, 0)) att15_0_1 hb) (below_step att15_0_0 hb) ?_; clear HO384 BK381 HB; intro HO384 BK381 HB; (try clear hb); (try clear hb2); (try clear hk); (try clear hi); obtain ⟨hcz82_0, hcz82_1, hcz82_2, hcz82_3, hcz82_4, hfz82_0, hfz82_1, hfz82_2, hfz82_3, hfz82_4⟩ := blkB5_ BK381))
           refine swap3_ (Kd.R_drew HO384.out) (blk_drew BK381.out) (below_drew1 HB.out) ?_
           clear HO384 BK381 HB
           intro HO384 BK381 HB
           have p430 : 0 ≤ (a1_4 : Int) := of_decide_eq_true atgA_
           have q430 : a1_4 < (l3.length : Int) := of_decide_eq_true atgA_
           obtain ⟨ad430, e430, hx430_0⟩ := Kd.at_int HR3.out a1_4 p430 q430
           have hw430_0 := hx430_0
           cases e430
           replace hx430_0 := blc_ HB hx430_0
           replace p430 := eq_true p430
           replace q430 := eq_true q430
           refine start_ (n := 10) (S := fun w' => w'.cell? ⟨gb381, 0, none⟩ = some (.int .i64 a1_0) ∧ w'.cell? ⟨gb381, 1, none⟩ = some (.int .i64 a1_1) ∧ w'.cell? ⟨gb381, 2, none⟩ = some (.int .i64 a1_2) ∧ w'.cell? ⟨gb381, 3, none⟩ = some (.int .i64 a1_3) ∧ w'.cell? ⟨gb381, 4, none⟩ = some (.int .i64 a1_4) ∧ w'.cell? (ad430.add (a1_4).toNat) = some (.int .i64 (rd l3 a1_4))) (ds := []) (tf_ 0 10) (by kernel_rfl) rfl rfl ⟨(blk_cell BK381.out 0).trans rfl, (blk_cell BK381.out 1).trans rfl, (blk_cell BK381.out 2).trans rfl, (blk_cell BK381.out 3).trans rfl, (blk_cell BK381.out 4).trans rfl, ((HB.out.cell (World.block_lt_of_cell? w _ hw430_0)).trans hw430_0)⟩ (fun hHeld => ?_); refine with_tabW spec_Emit.tab18 spec_Emit.bits18 (fun HT_ HW_ => ?_)
           generalize w81.drew = w83 at HO384 BK381 HB hx430_0 hHeld ⊢
           refine pureQ_ (i := 0) (N := some 77) (tf_ 1 9) (h := ?_)
           refine pureQ_ (i := 2) (N := some 79) #[true, false, true, false, false, false, false, false, false, false] (h := ?_)
           refine pureQ_ (i := 3) (N := some 80) #[true, false, true, true, false, false, false, false, false, false] (h := ?_)
           refine takeQ_ (i := 1) (N := some 78) (tf_ 4 6) hHeld (hy := Or.inl ⟨by rfl, att15_0_5⟩) (h := ?_)
           refine takeQ_ (i := 4) (N := some 81) (tf_ 5 5) hHeld (hy := Or.inl ⟨by rfl, att15_0_5⟩) (h := ?_)
           refine pureQ_ (i := 5) (N := some 82) (tf_ 6 4) (h := ?_)
           refine takeQ_ (i := 6) (N := some 83) (tf_ 7 3) hHeld (hy := Or.inl ⟨by rfl, att15_0_5⟩) (h := ?_)
           refine one_ (i := 7) (N := some 84) (tf_ 8 2) rfl rfl (one_of HT_.out (by kernel_rfl)) (by decide) (fun K hK => ?_)
           refine goes_ Try.func110 (by kernel_rfl) rfl #[.int .i64 a1_2, .int .i64 (rd l3 a1_4)] (by rfl) rfl rfl atgM_ ?_
           with_reducible refine (spec_l10Zero.calls a1_2 (rd l3 a1_4) t431 t432 t433 t434 t435 _ A76.out).mono ?_
           rintro e w84 ⟨rfl, hb⟩
           refine ⟨_, rfl, ?_⟩
           refine swap3_ (Kd.R_below att15_0_3 hb) (blk_below (g := gb381) (o := .cells #[.int .i64 a1_0, .int .i64 a1_1, .int .i64 a1_2, .int .i64 a1_3, .int .i64 a1_4] 37 (0, 0)) att15_0_1 hb) (below_step att15_0_0 hb) ?_
           clear HO384 BK381 HB
           intro HO384 BK381 HB
           (try clear hb)
           (try clear hb2)
           (try clear hk)
           (try clear hi)
           refine hK.out _ _ ⟨(blk_cell BK381.out 0).trans rfl, (blk_cell BK381.out 1).trans rfl, (blk_cell BK381.out 2).trans rfl, (blk_cell BK381.out 3).trans rfl, (blk_cell BK381.out 4).trans rfl, ((HB.out.cell (World.block_lt_of_cell? w _ hw430_0)).trans hw430_0)⟩ (fun hHeld => ?_)
           clear hK K
           refine normS_ (N := some 84) (h := ?_)
           refine one_ (i := 8) (N := some 85) (tf_ 9 1) rfl rfl (one_of HT_.out (by kernel_rfl)) (by decide) (fun K hK => ?_)
           refine Kd.R_lit_step k46 _ 46 ?hg (N := 85) ?hd (xs := ([(⟨t431, t432, t433, t434, t435⟩ : S46)] : List (S46))) (inner := [.int .i64 t431, .int .i64 t432, .int .i64 t433, .int .i64 t434, .int .i64 t435]) (ok := fun _ => True) (okp := fun _ => True) ?hr ?hp (fun _ hk => hk) trivial (Below.refl _ _) (Nat.le_refl _) (by simp) ?_; (case hd => rfl); (case hg => rfl); (case hr => first | (go_simp; done) | (go_simp; rfl)); (case hp => exact (Reps.c5 (show Kd.M k46 _ _ _ (⟨t431, t432, t433, t434, t435⟩ : S46) [.int .i64 t431, .int .i64 t432, .int .i64 t433, .int .i64 t434, .int .i64 t435] from (k46_mkM _ _ _ (⟨t431, t432, t433, t434, t435⟩ : S46) )) (Reps.none _ _)))
           intro v437 w85 ho86 hb hg_ hnew_
           clear hg_ hnew_
           (first | rw [← Ny436.out] at ho86 | (simp only [Int.reduceToNat] at ho86; rw [← Ny436.out] at ho86))
           refine swap4_ (Kd.R_elder' att15_0_3 (Kd.R_base ho86) hb) (Kd.R_lower (Kd.R_new' ho86 (Kd.R_lt att15_0_3)) (below_size att15_0_0)) (blk_below (g := gb381) (o := .cells #[.int .i64 a1_0, .int .i64 a1_1, .int .i64 a1_2, .int .i64 a1_3, .int .i64 a1_4] 37 (0, 0)) att15_0_1 hb) (below_step att15_0_0 hb) ?_
           clear HO384 BK381 HB
           intro HO384 HO438 BK381 HB
           clear hb ho86
           refine hK.out _ _ ⟨(blk_cell BK381.out 0).trans rfl, (blk_cell BK381.out 1).trans rfl, (blk_cell BK381.out 2).trans rfl, (blk_cell BK381.out 3).trans rfl, (blk_cell BK381.out 4).trans rfl, ((HB.out.cell (World.block_lt_of_cell? w _ hw430_0)).trans hw430_0)⟩ (fun hHeld => ?_)
           clear hK K
           refine normS_ (N := some 85) (h := ?_)
           refine pureQ_ (i := 9) (N := some 8) (tf_ 10 0) (h := ?_)
           refine done_ (done_of HT_.out (by kernel_rfl)) ?_
           try go_wp2
           go_ret
           exact ⟨_, retT_, by exact toR_ (Kd.R_mono HO438.out (fun _ hk => trivial)), att15_0_0⟩
          ·rw [if_neg c75] at H
           exact absurd H (by simp)
         ·rw [if_neg c74] at H
          exact absurd H (by simp)
        ·rw [if_neg c73] at H
         have c73b0 := beq_eq_false_iff_ne.mpr c73
         have c73b1 := bne_iff_ne.mpr c73
         by_cases c87 : a1_0 = 13
         ·rw [if_pos c87] at H
          have c87b0 := beq_iff_eq.mpr c87
          have c87b1 := bne_eq_false_iff_eq.mpr c87
          clear c87
          obtain ⟨y439, hy439⟩ : ∃ y_ : List (S46), y_ = (([(⟨12, 0, 0, 0, 0⟩ : S46)] : List (S46))) := ⟨_, rfl⟩
          replace H : (some y439) = some r := by rw [hy439]; exact H
          have Ny439 := Aside0.mk hy439
          clear hy439
          obtain rfl := Option.some.inj H
          go_enter Try.func23, Try.ntmps23
          go_wp2_with (first | ((with_reducible refine gate_dst (N := 5) rfl ?_); refine box_event ?hg (N := 5) ?hd (cs := #[.int .i64 a1_0, .int .i64 a1_1, .int .i64 a1_2, .int .i64 a1_3, .int .i64 a1_4]) (t := 37) ?hr ?_; (case hd => rfl); (case hg => rfl); (case hr => first | (go_simp; done) | (go_simp; rfl)); intro gb381 hg w88 hbox hb; refine swap4_ (below_step atgB_ hb) (hbox) ((by rw [hg]; exact (below_size atgB_) : w.heap.size ≤ gb381)) ((by rw [hg]; exact (below_size atgB_) : w.heap.size ≤ gb381)) ?_; clear HB; intro HB BK381 GW381 GE381; clear hb hbox hg) | ((with_reducible refine gate_dst (N := 11) rfl ?_); refine Kd.R_lit k46 _ 46 ?hg (N := 11) ?hd (xs := ([] : List (S46))) (inner := []) (ok := fun _ => True) (okp := fun _ => True) ?hr ?hp (fun _ hk => hk) trivial (Below.refl _ _) (Nat.le_refl _) (by simp) ?_; (case hd => rfl); (case hg => rfl); (case hr => first | (go_simp; done) | (go_simp; rfl)); (case hp => exact (Reps.none _ _)); intro v383 w89 ho90 hb hg_ hnew_; clear hg_ hnew_; (first | rw [← Ny382.out] at ho90 | (simp only [Int.reduceToNat] at ho90; rw [← Ny382.out] at ho90)); refine swap3_ (Kd.R_lower ho90 (below_size att15_0_0)) (blk_below (g := gb381) (o := .cells #[.int .i64 a1_0, .int .i64 a1_1, .int .i64 a1_2, .int .i64 a1_3, .int .i64 a1_4] 37 (0, 0)) att15_0_1 hb) (below_step att15_0_0 hb) ?_; clear BK381 HB; intro HO384 BK381 HB; clear hb ho90; obtain ⟨hcz91_0, hcz91_1, hcz91_2, hcz91_3, hcz91_4, hfz91_0, hfz91_1, hfz91_2, hfz91_3, hfz91_4⟩ := blkB5_ BK381) | ((with_reducible refine gate_callee (f := 106) rfl ?_); refine goesL_ (some 17) rfl rfl Try.func106 (by kernel_rfl) rfl #[.agg #[.int .i64 a1_0, .int .i64 a1_1, .int .i64 a1_2, .int .i64 a1_3, .int .i64 a1_4], .int .i64 (l3.length : Int), .int .i64 (l0.length : Int)] rfl atgM_ ?_; (with_reducible refine (spec_InsOk.calls k a1_0 a1_1 a1_2 a1_3 a1_4 (l3.length : Int) (l0.length : Int) true _ A5.out).mono ?_); rintro e w92 ⟨rfl, hb⟩; refine ⟨_, rfl, ?_⟩; refine swap3_ (Kd.R_below att15_0_3 hb) (blk_below (g := gb381) (o := .cells #[.int .i64 a1_0, .int .i64 a1_1, .int .i64 a1_2, .int .i64 a1_3, .int .i64 a1_4] 37 (0, 0)) att15_0_1 hb) (below_step att15_0_0 hb) ?_; clear HO384 BK381 HB; intro HO384 BK381 HB; (try clear hb); (try clear hb2); (try clear hk); (try clear hi); obtain ⟨hcz93_0, hcz93_1, hcz93_2, hcz93_3, hcz93_4, hfz93_0, hfz93_1, hfz93_2, hfz93_3, hfz93_4⟩ := blkB5_ BK381) | ((with_reducible refine gate_dst (N := 89) rfl ?_); refine Kd.R_lit k46 _ 46 ?hg (N := 89) ?hd (xs := ([(⟨12, 0, 0, 0, 0⟩ : S46)] : List (S46))) (inner := [.int .i64 12, .int .i64 0, .int .i64 0, .int .i64 0, .int .i64 0]) (ok := fun _ => True) (okp := fun _ => True) ?hr ?hp (fun _ hk => hk) trivial (Below.refl _ _) (Nat.le_refl _) (by simp) ?_; (case hd => rfl); (case hg => rfl); (case hr => first | (go_simp; done) | (go_simp; rfl)); (case hp => exact (Reps.c5 (show Kd.M k46 _ _ _ (⟨12, 0, 0, 0, 0⟩ : S46) [.int .i64 12, .int .i64 0, .int .i64 0, .int .i64 0, .int .i64 0] from (k46_mkM _ _ _ (⟨12, 0, 0, 0, 0⟩ : S46) )) (Reps.none _ _))); intro v440 w94 ho95 hb hg_ hnew_; clear hg_ hnew_; (first | rw [← Ny439.out] at ho95 | (simp only [Int.reduceToNat] at ho95; rw [← Ny439.out] at ho95)); refine swap4_ (Kd.R_elder' att15_0_3 (Kd.R_base ho95) hb) (Kd.R_lower (Kd.R_new' ho95 (Kd.R_lt att15_0_3)) (below_size att15_0_0)) (blk_below (g := gb381) (o := .cells #[.int .i64 a1_0, .int .i64 a1_1, .int .i64 a1_2, .int .i64 a1_3, .int .i64 a1_4] 37 (0, 0)) att15_0_1 hb) (below_step att15_0_0 hb) ?_; clear HO384 BK381 HB; intro HO384 HO441 BK381 HB; clear hb ho95))
          go_ret
          exact ⟨_, retT_, by exact toR_ (Kd.R_mono HO441.out (fun _ hk => trivial)), att15_0_0⟩
         ·rw [if_neg c87] at H
          have c87b0 := beq_eq_false_iff_ne.mpr c87
          have c87b1 := bne_iff_ne.mpr c87
          replace H := Option.bind_eq_some_iff.mp H
          obtain ⟨t442, A960, H⟩ := H
          (try dsimp only at H)
          have A96 := Aside0.mk A960
          clear A960
          by_cases c97 : t442 < 0
          ·rw [if_pos c97] at H
           have c97b0 := decide_eq_true c97
           clear c97
           obtain rfl := Option.some.inj H
           go_enter Try.func23, Try.ntmps23
           go_wp2_with (first | ((with_reducible refine gate_dst (N := 5) rfl ?_); refine box_event ?hg (N := 5) ?hd (cs := #[.int .i64 a1_0, .int .i64 a1_1, .int .i64 a1_2, .int .i64 a1_3, .int .i64 a1_4]) (t := 37) ?hr ?_; (case hd => rfl); (case hg => rfl); (case hr => first | (go_simp; done) | (go_simp; rfl)); intro gb381 hg w98 hbox hb; refine swap4_ (below_step atgB_ hb) (hbox) ((by rw [hg]; exact (below_size atgB_) : w.heap.size ≤ gb381)) ((by rw [hg]; exact (below_size atgB_) : w.heap.size ≤ gb381)) ?_; clear HB; intro HB BK381 GW381 GE381; clear hb hbox hg) | ((with_reducible refine gate_dst (N := 11) rfl ?_); refine Kd.R_lit k46 _ 46 ?hg (N := 11) ?hd (xs := ([] : List (S46))) (inner := []) (ok := fun _ => True) (okp := fun _ => True) ?hr ?hp (fun _ hk => hk) trivial (Below.refl _ _) (Nat.le_refl _) (by simp) ?_; (case hd => rfl); (case hg => rfl); (case hr => first | (go_simp; done) | (go_simp; rfl)); (case hp => exact (Reps.none _ _)); intro v383 w99 ho100 hb hg_ hnew_; clear hg_ hnew_; (first | rw [← Ny382.out] at ho100 | (simp only [Int.reduceToNat] at ho100; rw [← Ny382.out] at ho100)); refine swap3_ (Kd.R_lower ho100 (below_size att15_0_0)) (blk_below (g := gb381) (o := .cells #[.int .i64 a1_0, .int .i64 a1_1, .int .i64 a1_2, .int .i64 a1_3, .int .i64 a1_4] 37 (0, 0)) att15_0_1 hb) (below_step att15_0_0 hb) ?_; clear BK381 HB; intro HO384 BK381 HB; clear hb ho100; obtain ⟨hcz101_0, hcz101_1, hcz101_2, hcz101_3, hcz101_4, hfz101_0, hfz101_1, hfz101_2, hfz101_3, hfz101_4⟩ := blkB5_ BK381) | ((with_reducible refine gate_callee (f := 106) rfl ?_); refine goesL_ (some 17) rfl rfl Try.func106 (by kernel_rfl) rfl #[.agg #[.int .i64 a1_0, .int .i64 a1_1, .int .i64 a1_2, .int .i64 a1_3, .int .i64 a1_4], .int .i64 (l3.length : Int), .int .i64 (l0.length : Int)] rfl atgM_ ?_; (with_reducible refine (spec_InsOk.calls k a1_0 a1_1 a1_2 a1_3 a1_4 (l3.length : Int) (l0.length : Int) true _ A5.out).mono ?_); rintro e w102 ⟨rfl, hb⟩; refine ⟨_, rfl, ?_⟩; refine swap3_ (Kd.R_below att15_0_3 hb) (blk_below (g := gb381) (o := .cells #[.int .i64 a1_0, .int .i64 a1_1, .int .i64 a1_2, .int .i64 a1_3, .int .i64 a1_4] 37 (0, 0)) att15_0_1 hb) (below_step att15_0_0 hb) ?_; clear HO384 BK381 HB; intro HO384 BK381 HB; (try clear hb); (try clear hb2); (try clear hk); (try clear hi); obtain ⟨hcz103_0, hcz103_1, hcz103_2, hcz103_3, hcz103_4, hfz103_0, hfz103_1, hfz103_2, hfz103_3, hfz103_4⟩ := blkB5_ BK381) | ((with_reducible refine gate_callee (f := 111) rfl ?_); refine goesL_ (some 93) rfl rfl Try.func111 (by kernel_rfl) rfl #[.slice A0 l0.length c0, .int .i64 a1_4] rfl atgM_ ?_; (with_reducible refine (spec_Base.calls k _ _ l0 a1_4 t442 _ ?side1 ?side2 A96.out).mono ?_); (case side1 => repeat (first | exact (Kd.C_below HR0.out HB.out) | (with_reducible refine Kd.C_alloc ?_ _) | (with_reducible refine Kd.C_drewN ?_ _) | (with_reducible refine Kd.C_drew ?_))); (case side2 => exact HC0.out); rintro e w' ⟨rfl, ⟨nd, rfl⟩⟩; refine ⟨_, rfl, ?_⟩))
           go_ret
           exact ⟨_, retT_, by exact toR_ (HO384.out), att15_0_0⟩
          ·rw [if_neg c97] at H
           have c97b0 := decide_eq_false c97
           clear c97
           have HC104 := Aside0.mk H
           clear H
           go_enter Try.func23, Try.ntmps23
           go_upto_if 99 with (first | ((with_reducible refine gate_dst (N := 5) rfl ?_); refine box_event ?hg (N := 5) ?hd (cs := #[.int .i64 a1_0, .int .i64 a1_1, .int .i64 a1_2, .int .i64 a1_3, .int .i64 a1_4]) (t := 37) ?hr ?_; (case hd => rfl); (case hg => rfl); (case hr => first | (go_simp; done) | (go_simp; rfl)); intro gb381 hg w105 hbox hb; refine swap4_ (below_step atgB_ hb) (hbox) ((by rw [hg]; exact (below_size atgB_) : w.heap.size ≤ gb381)) ((by rw [hg]; exact (below_size atgB_) : w.heap.size ≤ gb381)) ?_; clear HB; intro HB BK381 GW381 GE381; clear hb hbox hg) | ((with_reducible refine gate_dst (N := 11) rfl ?_); refine Kd.R_lit k46 _ 46 ?hg (N := 11) ?hd (xs := ([] : List (S46))) (inner := []) (ok := fun _ => True) (okp := fun _ => True) ?hr ?hp (fun _ hk => hk) trivial (Below.refl _ _) (Nat.le_refl _) (by simp) ?_; (case hd => rfl); (case hg => rfl); (case hr => first | (go_simp; done) | (go_simp; rfl)); (case hp => exact (Reps.none _ _)); intro v383 w106 ho107 hb hg_ hnew_; clear hg_ hnew_; (first | rw [← Ny382.out] at ho107 | (simp only [Int.reduceToNat] at ho107; rw [← Ny382.out] at ho107)); refine swap3_ (Kd.R_lower ho107 (below_size att15_0_0)) (blk_below (g := gb381) (o := .cells #[.int .i64 a1_0, .int .i64 a1_1, .int .i64 a1_2, .int .i64 a1_3, .int .i64 a1_4] 37 (0, 0)) att15_0_1 hb) (below_step att15_0_0 hb) ?_; clear BK381 HB; intro HO384 BK381 HB; clear hb ho107; obtain ⟨hcz108_0, hcz108_1, hcz108_2, hcz108_3, hcz108_4, hfz108_0, hfz108_1, hfz108_2, hfz108_3, hfz108_4⟩ := blkB5_ BK381) | ((with_reducible refine gate_callee (f := 106) rfl ?_); refine goesL_ (some 17) rfl rfl Try.func106 (by kernel_rfl) rfl #[.agg #[.int .i64 a1_0, .int .i64 a1_1, .int .i64 a1_2, .int .i64 a1_3, .int .i64 a1_4], .int .i64 (l3.length : Int), .int .i64 (l0.length : Int)] rfl atgM_ ?_; (with_reducible refine (spec_InsOk.calls k a1_0 a1_1 a1_2 a1_3 a1_4 (l3.length : Int) (l0.length : Int) true _ A5.out).mono ?_); rintro e w109 ⟨rfl, hb⟩; refine ⟨_, rfl, ?_⟩; refine swap3_ (Kd.R_below att15_0_3 hb) (blk_below (g := gb381) (o := .cells #[.int .i64 a1_0, .int .i64 a1_1, .int .i64 a1_2, .int .i64 a1_3, .int .i64 a1_4] 37 (0, 0)) att15_0_1 hb) (below_step att15_0_0 hb) ?_; clear HO384 BK381 HB; intro HO384 BK381 HB; (try clear hb); (try clear hb2); (try clear hk); (try clear hi); obtain ⟨hcz110_0, hcz110_1, hcz110_2, hcz110_3, hcz110_4, hfz110_0, hfz110_1, hfz110_2, hfz110_3, hfz110_4⟩ := blkB5_ BK381) | ((with_reducible refine gate_callee (f := 111) rfl ?_); refine goesL_ (some 93) rfl rfl Try.func111 (by kernel_rfl) rfl #[.slice A0 l0.length c0, .int .i64 a1_4] rfl atgM_ ?_; (with_reducible refine (spec_Base.calls k _ _ l0 a1_4 t442 _ ?side1 ?side2 A96.out).mono ?_); (case side1 => repeat (first | exact (Kd.C_below HR0.out HB.out) | (with_reducible refine Kd.C_alloc ?_ _) | (with_reducible refine Kd.C_drewN ?_ _) | (with_reducible refine Kd.C_drew ?_))); (case side2 => exact HC0.out); rintro e w' ⟨rfl, ⟨nd, rfl⟩⟩; refine ⟨_, rfl, ?_⟩))
           (try simp only [Act.put, List.setIfInBounds_toArray, List.set_cons_zero, List.set_cons_succ])
           go_cut [99] (fun v99 wc => ∃ (kq : Nat) (x99_103 : Bool), v99 = .bool x99_103 ∧ Aside0 (spec_Emit.j0 kq l0 a2 t442 a1_0 x99_103 a1_0 a1_1 a1_2 a1_3 a1_4 = some r) ∧ Aside0 (kq ≤ k) ∧ Aside0 (wc.heap[gb381]? = some (.cells #[.int .i64 a1_0, .int .i64 a1_1, .int .i64 a1_2, .int .i64 a1_3, .int .i64 a1_4] 37 (0, 0))) ∧ Aside0 (Below w.heap.size w wc))
           case first =>
            have H := HC104.out
            clear HC104
            by_cases c111 : a1_0 = 5
            ·rw [if_pos c111] at H
             have c111b0 := beq_iff_eq.mpr c111
             have c111b1 := bne_eq_false_iff_eq.mpr c111
             clear c111
             (first | rw [c111b0] | (simp only [i64_w, i32_w]; rw [c111b0]) | skip)
             have H' := Aside0.mk H
             clear H
             go_wp2
             go_meet
             case rel => exact ⟨_, ((a1_0 == 5)), atgR_, H', ⟨by first | omega | exact Nat.le_refl _⟩, ⟨att15_0_1⟩, ⟨att15_0_0⟩⟩
            ·rw [if_neg c111] at H
             have c111b0 := beq_eq_false_iff_ne.mpr c111
             have c111b1 := bne_iff_ne.mpr c111
             (first | rw [c111b0] | (simp only [i64_w, i32_w]; rw [c111b0]) | skip)
             have H' := Aside0.mk H
             clear H
             go_wp2
             go_meet
             case rel => exact ⟨_, ((a1_0 == 7)), atgR_, H', ⟨by first | omega | exact Nat.le_refl _⟩, ⟨att15_0_1⟩, ⟨att15_0_0⟩⟩
           case rest =>
            clear HC104
            try clear c1
            try clear c2
            try clear p2
            try clear c3
            try clear c4
            try clear p4
            try clear q4
            try clear hx4
            try clear c5
            try clear c6
            try clear c7
            try clear c7b0
            try clear c7b1
            try clear c8
            try clear c9
            try clear c10
            try clear c11
            try clear c18
            try clear c18b0
            try clear c18b1
            try clear c23
            try clear c29
            try clear c29b0
            try clear c29b1
            try clear c40
            try clear c40b0
            try clear c40b1
            try clear p42
            try clear q42
            try clear hx42
            try clear p43
            try clear q43
            try clear hx43
            try clear c51
            try clear c51b0
            try clear c51b1
            try clear c60
            try clear c60b0
            try clear c60b1
            try clear c61
            try clear c61b0
            try clear c62
            try clear c62b0
            try clear c73
            try clear c73b0
            try clear c73b1
            try clear c74
            try clear c74b0
            try clear c75
            try clear c75b0
            try clear c87
            try clear c87b0
            try clear c87b1
            try clear c97
            try clear c97b0
            try clear c106
            try clear c107
            try clear c108
            try clear c109
            try clear c110
            try clear c111
            try clear c111b0
            try clear c111b1
            try clear hcz101_0 hcz101_1 hcz101_2 hcz101_3 hcz101_4
            try clear hcz103_0 hcz103_1 hcz103_2 hcz103_3 hcz103_4
            try clear hcz108_0 hcz108_1 hcz108_2 hcz108_3 hcz108_4
            try clear hcz110_0 hcz110_1 hcz110_2 hcz110_3 hcz110_4
            try clear hcz12_0 hcz12_1 hcz12_2 hcz12_3 hcz12_4
            try clear hcz14_0 hcz14_1 hcz14_2 hcz14_3 hcz14_4
            try clear hcz23_0 hcz23_1 hcz23_2 hcz23_3 hcz23_4
            try clear hcz25_0 hcz25_1 hcz25_2 hcz25_3 hcz25_4
            try clear hcz34_0 hcz34_1 hcz34_2 hcz34_3 hcz34_4
            try clear hcz36_0 hcz36_1 hcz36_2 hcz36_3 hcz36_4
            try clear hcz45_0 hcz45_1 hcz45_2 hcz45_3 hcz45_4
            try clear hcz47_0 hcz47_1 hcz47_2 hcz47_3 hcz47_4
            try clear hcz55_0 hcz55_1 hcz55_2 hcz55_3 hcz55_4
            try clear hcz57_0 hcz57_1 hcz57_2 hcz57_3 hcz57_4
            try clear hcz67_0 hcz67_1 hcz67_2 hcz67_3 hcz67_4
            try clear hcz69_0 hcz69_1 hcz69_2 hcz69_3 hcz69_4
            try clear hcz80_0 hcz80_1 hcz80_2 hcz80_3 hcz80_4
            try clear hcz82_0 hcz82_1 hcz82_2 hcz82_3 hcz82_4
            try clear hcz91_0 hcz91_1 hcz91_2 hcz91_3 hcz91_4
            try clear hcz93_0 hcz93_1 hcz93_2 hcz93_3 hcz93_4
            try clear hfz101_0 hfz101_1 hfz101_2 hfz101_3 hfz101_4
            try clear hfz103_0 hfz103_1 hfz103_2 hfz103_3 hfz103_4
            try clear hfz108_0 hfz108_1 hfz108_2 hfz108_3 hfz108_4
            try clear hfz110_0 hfz110_1 hfz110_2 hfz110_3 hfz110_4
            try clear hfz12_0 hfz12_1 hfz12_2 hfz12_3 hfz12_4
            try clear hfz14_0 hfz14_1 hfz14_2 hfz14_3 hfz14_4
            try clear hfz23_0 hfz23_1 hfz23_2 hfz23_3 hfz23_4
            try clear hfz25_0 hfz25_1 hfz25_2 hfz25_3 hfz25_4
            try clear hfz34_0 hfz34_1 hfz34_2 hfz34_3 hfz34_4
            try clear hfz36_0 hfz36_1 hfz36_2 hfz36_3 hfz36_4
            try clear hfz45_0 hfz45_1 hfz45_2 hfz45_3 hfz45_4
            try clear hfz47_0 hfz47_1 hfz47_2 hfz47_3 hfz47_4
            try clear hfz55_0 hfz55_1 hfz55_2 hfz55_3 hfz55_4
            try clear hfz57_0 hfz57_1 hfz57_2 hfz57_3 hfz57_4
            try clear hfz67_0 hfz67_1 hfz67_2 hfz67_3 hfz67_4
            try clear hfz69_0 hfz69_1 hfz69_2 hfz69_3 hfz69_4
            try clear hfz80_0 hfz80_1 hfz80_2 hfz80_3 hfz80_4
            try clear hfz82_0 hfz82_1 hfz82_2 hfz82_3 hfz82_4
            try clear hfz91_0 hfz91_1 hfz91_2 hfz91_3 hfz91_4
            try clear hfz93_0 hfz93_1 hfz93_2 hfz93_3 hfz93_4
            try clear hx421_0
            try clear hx430_0
            try clear p421
            try clear p430
            try clear q421
            try clear q430
            obtain ⟨kq, x99_103, rfl, HA, HJ103, BK381, HB⟩ := hcut
            cases kq with
            | zero => exact absurd HA.out (by simp [spec_Emit.j0])
            | succ kj103 =>
             have H := HA.out
             clear HA
             simp only [spec_Emit.j0] at H
             by_cases c112 : x99_103 = true
             ·subst c112
              rw [if_pos rfl] at H
              by_cases c113 : 0 ≤ a1_4
              ·rw [if_pos c113] at H
               have c113b0 := decide_eq_true c113
               clear c113
               by_cases c114 : a1_4 < (l0.length : Int)
               ·rw [if_pos c114] at H
                have c114b0 := decide_eq_true c114
                clear c114
                replace H := Option.bind_eq_some_iff.mp H
                obtain ⟨t444, A1150, H⟩ := H
                (try dsimp only at H)
                have A115 := Aside0.mk A1150
                clear A1150
                obtain rfl := Option.some.inj H
                try go_wp2
                refine swap2_ (blk_drew BK381.out) (below_drew1 HB.out) ?_
                clear BK381 HB
                intro BK381 HB
                have p443 : 0 ≤ (a1_4 : Int) := of_decide_eq_true atgA_
                have q443 : a1_4 < (l0.length : Int) := of_decide_eq_true atgA_
                obtain ⟨ad443, e443, hx443_0⟩ := Kd.at_int HR0.out a1_4 p443 q443
                have hw443_0 := hx443_0
                cases e443
                replace hx443_0 := blc_ HB hx443_0
                replace p443 := eq_true p443
                replace q443 := eq_true q443
                refine start_ (n := 10) (S := fun w' => w'.cell? ⟨gb381, 0, none⟩ = some (.int .i64 a1_0) ∧ w'.cell? ⟨gb381, 1, none⟩ = some (.int .i64 a1_1) ∧ w'.cell? ⟨gb381, 2, none⟩ = some (.int .i64 a1_2) ∧ w'.cell? ⟨gb381, 3, none⟩ = some (.int .i64 a1_3) ∧ w'.cell? ⟨gb381, 4, none⟩ = some (.int .i64 a1_4) ∧ w'.cell? (ad443.add (a1_4).toNat) = some (.int .i64 (rd l0 a1_4))) (ds := []) (tf_ 0 10) (by kernel_rfl) rfl rfl ⟨(blk_cell BK381.out 0).trans rfl, (blk_cell BK381.out 1).trans rfl, (blk_cell BK381.out 2).trans rfl, (blk_cell BK381.out 3).trans rfl, (blk_cell BK381.out 4).trans rfl, ((HB.out.cell (World.block_lt_of_cell? w _ hw443_0)).trans hw443_0)⟩ (fun hHeld => ?_); refine with_tabW spec_Emit.tab27 spec_Emit.bits27 (fun HT_ HW_ => ?_)
                generalize wc.drew = w116 at BK381 HB hx443_0 hHeld ⊢
                refine pureQ_ (i := 1) (N := some 103) #[false, true, false, false, false, false, false, false, false, false] (h := ?_)
                refine pureQ_ (i := 2) (N := some 104) #[false, true, true, false, false, false, false, false, false, false] (h := ?_)
                refine pureQ_ (i := 3) (N := some 105) #[false, true, true, true, false, false, false, false, false, false] (h := ?_)
                refine pureQ_ (i := 7) (N := some 109) #[false, true, true, true, false, false, false, true, false, false] (h := ?_)
                refine takeQ_ (i := 0) (N := some 102) #[true, true, true, true, false, false, false, true, false, false] hHeld (hy := Or.inl ⟨by rfl, att15_0_5⟩) (h := ?_)
                refine takeQ_ (i := 4) (N := some 106) #[true, true, true, true, true, false, false, true, false, false] hHeld (hy := Or.inl ⟨by rfl, att15_0_5⟩) (h := ?_)
                refine pureQ_ (i := 5) (N := some 107) #[true, true, true, true, true, true, false, true, false, false] (h := ?_)
                refine takeQ_ (i := 6) (N := some 108) (tf_ 8 2) hHeld (hy := Or.inl ⟨by rfl, att15_0_5⟩) (h := ?_)
                refine one_ (i := 8) (N := some 110) (tf_ 9 1) rfl rfl (one_of HT_.out (by kernel_rfl)) (by decide) (fun K hK => ?_)
                refine goes_ Try.func112 (by kernel_rfl) rfl #[.agg #[.int .i64 a1_0, .int .i64 a1_1, .int .i64 a1_2, .int .i64 a1_3, .int .i64 a1_4], .int .i64 t442, .int .i64 (rd l0 a1_4), .int .i64 a2] (by rfl) rfl rfl atgM_ ?_
                with_reducible refine (spec_l10Send.calls a1_0 a1_1 a1_2 a1_3 a1_4 t442 (rd l0 a1_4) a2 t444 _ A115.out).mono ?_
                rintro e w117 ⟨v445, rfl, ho0, hb⟩
                refine ⟨_, rfl, ?_⟩
                refine swap3_ (Kd.R_lower ho0 (below_size att15_0_0)) (blk_below (g := gb381) (o := .cells #[.int .i64 a1_0, .int .i64 a1_1, .int .i64 a1_2, .int .i64 a1_3, .int .i64 a1_4] 37 (0, 0)) att15_0_1 hb) (below_step att15_0_0 hb) ?_
                clear BK381 HB
                intro HO446 BK381 HB
                (try clear hb)
                (try clear hb2)
                (try clear hk)
                (try clear hi)
                (try clear ho0)
                refine hK.out _ _ ⟨(blk_cell BK381.out 0).trans rfl, (blk_cell BK381.out 1).trans rfl, (blk_cell BK381.out 2).trans rfl, (blk_cell BK381.out 3).trans rfl, (blk_cell BK381.out 4).trans rfl, ((HB.out.cell (World.block_lt_of_cell? w _ hw443_0)).trans hw443_0)⟩ (fun hHeld => ?_)
                clear hK K
                refine normS_ (N := some 110) (h := ?_)
                refine pureQ_ (i := 9) (N := some 8) (tf_ 10 0) (h := ?_)
                refine done_ (done_of HT_.out (by kernel_rfl)) ?_
                try go_wp2
                go_ret
                exact ⟨_, retT_, by exact toR_ (HO446.out), att15_0_0⟩
               ·rw [if_neg c114] at H
                exact absurd H (by simp)
              ·rw [if_neg c113] at H
               exact absurd H (by simp)
             ·replace c112 := Bool.eq_false_iff.mpr c112
              subst c112
              rw [if_neg (show ¬ (false = true) by decide)] at H
              have HC118 := Aside0.mk H
              clear H
              go_upto_if 111 with (fail)
              go_cut [111] (fun v111 wc => ∃ (kq : Nat) (x111_117 : Bool), v111 = .bool x111_117 ∧ Aside0 (spec_Emit.j1 kq l0 a2 t442 x111_117 a1_0 a1_1 a1_2 a1_3 a1_4 = some r) ∧ Aside0 (kq ≤ kj103) ∧ Aside0 (wc.heap[gb381]? = some (.cells #[.int .i64 a1_0, .int .i64 a1_1, .int .i64 a1_2, .int .i64 a1_3, .int .i64 a1_4] 37 (0, 0))) ∧ Aside0 (Below w.heap.size w wc))
              case first =>
               have H := HC118.out
               clear HC118
               by_cases c119 : a1_0 = 6
               ·rw [if_pos c119] at H
                have c119b0 := beq_iff_eq.mpr c119
                have c119b1 := bne_eq_false_iff_eq.mpr c119
                clear c119
                (first | rw [c119b0] | (simp only [i64_w, i32_w]; rw [c119b0]) | skip)
                have H' := Aside0.mk H
                clear H
                go_wp2
                go_meet
                case rel => exact ⟨_, ((a1_0 == 6)), atgR_, H', ⟨by have := HJ103.out; first | omega | exact Nat.le_refl _⟩, ⟨att15_0_1⟩, ⟨att15_0_0⟩⟩
               ·rw [if_neg c119] at H
                have c119b0 := beq_eq_false_iff_ne.mpr c119
                have c119b1 := bne_iff_ne.mpr c119
                (first | rw [c119b0] | (simp only [i64_w, i32_w]; rw [c119b0]) | skip)
                have H' := Aside0.mk H
                clear H
                go_wp2
                go_meet
                case rel => exact ⟨_, ((a1_0 == 8)), atgR_, H', ⟨by have := HJ103.out; first | omega | exact Nat.le_refl _⟩, ⟨att15_0_1⟩, ⟨att15_0_0⟩⟩
              case rest =>
               clear HC118
               try clear c1
               try clear c2
               try clear p2
               try clear c3
               try clear c4
               try clear p4
               try clear q4
               try clear hx4
               try clear c5
               try clear c6
               try clear c7
               try clear c7b0
               try clear c7b1
               try clear c8
               try clear c9
               try clear c10
               try clear c11
               try clear c18
               try clear c18b0
               try clear c18b1
               try clear c23
               try clear c29
               try clear c29b0
               try clear c29b1
               try clear c40
               try clear c40b0
               try clear c40b1
               try clear p42
               try clear q42
               try clear hx42
               try clear p43
               try clear q43
               try clear hx43
               try clear p44
               try clear q44
               try clear hx44
               try clear c51
               try clear c51b0
               try clear c51b1
               try clear c60
               try clear c60b0
               try clear c60b1
               try clear c61
               try clear c61b0
               try clear c62
               try clear c62b0
               try clear c73
               try clear c73b0
               try clear c73b1
               try clear c74
               try clear c74b0
               try clear c75
               try clear c75b0
               try clear c87
               try clear c87b0
               try clear c87b1
               try clear c97
               try clear c97b0
               try clear c106
               try clear c107
               try clear c108
               try clear c109
               try clear c110
               try clear c111
               try clear c111b0
               try clear c111b1
               try clear c112
               try clear c113
               try clear c113b0
               try clear c114
               try clear c114b0
               try clear c119
               try clear c119b0
               try clear c119b1
               try clear hcz101_0 hcz101_1 hcz101_2 hcz101_3 hcz101_4
               try clear hcz103_0 hcz103_1 hcz103_2 hcz103_3 hcz103_4
               try clear hcz108_0 hcz108_1 hcz108_2 hcz108_3 hcz108_4
               try clear hcz110_0 hcz110_1 hcz110_2 hcz110_3 hcz110_4
               try clear hcz12_0 hcz12_1 hcz12_2 hcz12_3 hcz12_4
               try clear hcz14_0 hcz14_1 hcz14_2 hcz14_3 hcz14_4
               try clear hcz23_0 hcz23_1 hcz23_2 hcz23_3 hcz23_4
               try clear hcz25_0 hcz25_1 hcz25_2 hcz25_3 hcz25_4
               try clear hcz34_0 hcz34_1 hcz34_2 hcz34_3 hcz34_4
               try clear hcz36_0 hcz36_1 hcz36_2 hcz36_3 hcz36_4
               try clear hcz45_0 hcz45_1 hcz45_2 hcz45_3 hcz45_4
               try clear hcz47_0 hcz47_1 hcz47_2 hcz47_3 hcz47_4
               try clear hcz55_0 hcz55_1 hcz55_2 hcz55_3 hcz55_4
               try clear hcz57_0 hcz57_1 hcz57_2 hcz57_3 hcz57_4
               try clear hcz67_0 hcz67_1 hcz67_2 hcz67_3 hcz67_4
               try clear hcz69_0 hcz69_1 hcz69_2 hcz69_3 hcz69_4
               try clear hcz80_0 hcz80_1 hcz80_2 hcz80_3 hcz80_4
               try clear hcz82_0 hcz82_1 hcz82_2 hcz82_3 hcz82_4
               try clear hcz91_0 hcz91_1 hcz91_2 hcz91_3 hcz91_4
               try clear hcz93_0 hcz93_1 hcz93_2 hcz93_3 hcz93_4
               try clear hfz101_0 hfz101_1 hfz101_2 hfz101_3 hfz101_4
               try clear hfz103_0 hfz103_1 hfz103_2 hfz103_3 hfz103_4
               try clear hfz108_0 hfz108_1 hfz108_2 hfz108_3 hfz108_4
               try clear hfz110_0 hfz110_1 hfz110_2 hfz110_3 hfz110_4
               try clear hfz12_0 hfz12_1 hfz12_2 hfz12_3 hfz12_4
               try clear hfz14_0 hfz14_1 hfz14_2 hfz14_3 hfz14_4
               try clear hfz23_0 hfz23_1 hfz23_2 hfz23_3 hfz23_4
               try clear hfz25_0 hfz25_1 hfz25_2 hfz25_3 hfz25_4
               try clear hfz34_0 hfz34_1 hfz34_2 hfz34_3 hfz34_4
               try clear hfz36_0 hfz36_1 hfz36_2 hfz36_3 hfz36_4
               try clear hfz45_0 hfz45_1 hfz45_2 hfz45_3 hfz45_4
               try clear hfz47_0 hfz47_1 hfz47_2 hfz47_3 hfz47_4
               try clear hfz55_0 hfz55_1 hfz55_2 hfz55_3 hfz55_4
               try clear hfz57_0 hfz57_1 hfz57_2 hfz57_3 hfz57_4
               try clear hfz67_0 hfz67_1 hfz67_2 hfz67_3 hfz67_4
               try clear hfz69_0 hfz69_1 hfz69_2 hfz69_3 hfz69_4
               try clear hfz80_0 hfz80_1 hfz80_2 hfz80_3 hfz80_4
               try clear hfz82_0 hfz82_1 hfz82_2 hfz82_3 hfz82_4
               try clear hfz91_0 hfz91_1 hfz91_2 hfz91_3 hfz91_4
               try clear hfz93_0 hfz93_1 hfz93_2 hfz93_3 hfz93_4
               try clear hx421_0
               try clear hx430_0
               try clear hx443_0
               try clear p2
               try clear p4
               try clear p42
               try clear p421
               try clear p43
               try clear p430
               try clear p443
               try clear q4
               try clear q42
               try clear q421
               try clear q43
               try clear q430
               try clear q443
               obtain ⟨kq, x111_117, rfl, HA, HJ117, BK381, HB⟩ := hcut
               cases kq with
               | zero => exact absurd HA.out (by simp [spec_Emit.j1])
               | succ kj117 =>
                have H := HA.out
                clear HA
                simp only [spec_Emit.j1] at H
                by_cases c120 : x111_117 = true
                ·subst c120
                 rw [if_pos rfl] at H
                 by_cases c121 : 0 ≤ a1_4
                 ·rw [if_pos c121] at H
                  have c121b0 := decide_eq_true c121
                  clear c121
                  by_cases c122 : a1_4 < (l0.length : Int)
                  ·rw [if_pos c122] at H
                   have c122b0 := decide_eq_true c122
                   clear c122
                   replace H := Option.bind_eq_some_iff.mp H
                   obtain ⟨t448, A1230, H⟩ := H
                   (try dsimp only at H)
                   have A123 := Aside0.mk A1230
                   clear A1230
                   obtain rfl := Option.some.inj H
                   try go_wp2
                   refine swap2_ (blk_drew BK381.out) (below_drew1 HB.out) ?_
                   clear BK381 HB
                   intro BK381 HB
                   have p447 : 0 ≤ (a1_4 : Int) := of_decide_eq_true atgA_
                   have q447 : a1_4 < (l0.length : Int) := of_decide_eq_true atgA_
                   obtain ⟨ad447, e447, hx447_0⟩ := Kd.at_int HR0.out a1_4 p447 q447
                   have hw447_0 := hx447_0
                   cases e447
                   replace hx447_0 := blc_ HB hx447_0
                   replace p447 := eq_true p447
                   replace q447 := eq_true q447
                   refine start_ (n := 10) (S := fun w' => w'.cell? ⟨gb381, 0, none⟩ = some (.int .i64 a1_0) ∧ w'.cell? ⟨gb381, 1, none⟩ = some (.int .i64 a1_1) ∧ w'.cell? ⟨gb381, 2, none⟩ = some (.int .i64 a1_2) ∧ w'.cell? ⟨gb381, 3, none⟩ = some (.int .i64 a1_3) ∧ w'.cell? ⟨gb381, 4, none⟩ = some (.int .i64 a1_4) ∧ w'.cell? (ad447.add (a1_4).toNat) = some (.int .i64 (rd l0 a1_4))) (ds := []) (tf_ 0 10) (by kernel_rfl) rfl rfl ⟨(blk_cell BK381.out 0).trans rfl, (blk_cell BK381.out 1).trans rfl, (blk_cell BK381.out 2).trans rfl, (blk_cell BK381.out 3).trans rfl, (blk_cell BK381.out 4).trans rfl, ((HB.out.cell (World.block_lt_of_cell? w _ hw447_0)).trans hw447_0)⟩ (fun hHeld => ?_); refine with_tabW spec_Emit.tab30 spec_Emit.bits30 (fun HT_ HW_ => ?_)
                   generalize wc.drew = w124 at BK381 HB hx447_0 hHeld ⊢
                   refine pureQ_ (i := 1) (N := some 115) #[false, true, false, false, false, false, false, false, false, false] (h := ?_)
                   refine pureQ_ (i := 2) (N := some 116) #[false, true, true, false, false, false, false, false, false, false] (h := ?_)
                   refine pureQ_ (i := 3) (N := some 117) #[false, true, true, true, false, false, false, false, false, false] (h := ?_)
                   refine pureQ_ (i := 7) (N := some 121) #[false, true, true, true, false, false, false, true, false, false] (h := ?_)
                   refine takeQ_ (i := 0) (N := some 114) #[true, true, true, true, false, false, false, true, false, false] hHeld (hy := Or.inl ⟨by rfl, att15_0_5⟩) (h := ?_)
                   refine takeQ_ (i := 4) (N := some 118) #[true, true, true, true, true, false, false, true, false, false] hHeld (hy := Or.inl ⟨by rfl, att15_0_5⟩) (h := ?_)
                   refine pureQ_ (i := 5) (N := some 119) #[true, true, true, true, true, true, false, true, false, false] (h := ?_)
                   refine takeQ_ (i := 6) (N := some 120) (tf_ 8 2) hHeld (hy := Or.inl ⟨by rfl, att15_0_5⟩) (h := ?_)
                   refine one_ (i := 8) (N := some 122) (tf_ 9 1) rfl rfl (one_of HT_.out (by kernel_rfl)) (by decide) (fun K hK => ?_)
                   refine goes_ Try.func113 (by kernel_rfl) rfl #[.agg #[.int .i64 a1_0, .int .i64 a1_1, .int .i64 a1_2, .int .i64 a1_3, .int .i64 a1_4], .int .i64 t442, .int .i64 (rd l0 a1_4), .int .i64 a2] (by rfl) rfl rfl atgM_ ?_
                   with_reducible refine (spec_l10Take.calls a1_0 a1_1 a1_2 a1_3 a1_4 t442 (rd l0 a1_4) a2 t448 _ A123.out).mono ?_
                   rintro e w125 ⟨v449, rfl, ho0, hb⟩
                   refine ⟨_, rfl, ?_⟩
                   refine swap3_ (Kd.R_lower ho0 (below_size att15_0_0)) (blk_below (g := gb381) (o := .cells #[.int .i64 a1_0, .int .i64 a1_1, .int .i64 a1_2, .int .i64 a1_3, .int .i64 a1_4] 37 (0, 0)) att15_0_1 hb) (below_step att15_0_0 hb) ?_
                   clear BK381 HB
                   intro HO450 BK381 HB
                   (try clear hb)
                   (try clear hb2)
                   (try clear hk)
                   (try clear hi)
                   (try clear ho0)
                   refine hK.out _ _ ⟨(blk_cell BK381.out 0).trans rfl, (blk_cell BK381.out 1).trans rfl, (blk_cell BK381.out 2).trans rfl, (blk_cell BK381.out 3).trans rfl, (blk_cell BK381.out 4).trans rfl, ((HB.out.cell (World.block_lt_of_cell? w _ hw447_0)).trans hw447_0)⟩ (fun hHeld => ?_)
                   clear hK K
                   refine normS_ (N := some 122) (h := ?_)
                   refine pureQ_ (i := 9) (N := some 8) (tf_ 10 0) (h := ?_)
                   refine done_ (done_of HT_.out (by kernel_rfl)) ?_
                   try go_wp2
                   go_ret
                   exact ⟨_, retT_, by exact toR_ (HO450.out), att15_0_0⟩
                  ·rw [if_neg c122] at H
                   exact absurd H (by simp)
                 ·rw [if_neg c121] at H
                  exact absurd H (by simp)
                ·replace c120 := Bool.eq_false_iff.mpr c120
                 subst c120
                 rw [if_neg (show ¬ (false = true) by decide)] at H
                 replace H := Option.bind_eq_some_iff.mp H
                 obtain ⟨t451, A1260, H⟩ := H
                 (try dsimp only at H)
                 have A126 := Aside0.mk A1260
                 clear A1260
                 obtain rfl := Option.some.inj H
                 go_wp2_with (first | ((with_reducible refine gate_callee (f := 114) rfl ?_); refine goesL_ (some 125) rfl rfl Try.func114 (by kernel_rfl) rfl #[.int .i64 t442, .int .i64 a2] rfl atgM_ ?_; (with_reducible refine (spec_l10Close.calls t442 a2 t451 _ A126.out).mono ?_); rintro e w127 ⟨v452, rfl, ho0, hb⟩; refine ⟨_, rfl, ?_⟩; refine swap3_ (Kd.R_lower ho0 (below_size att15_0_0)) (blk_below (g := gb381) (o := .cells #[.int .i64 a1_0, .int .i64 a1_1, .int .i64 a1_2, .int .i64 a1_3, .int .i64 a1_4] 37 (0, 0)) att15_0_1 hb) (below_step att15_0_0 hb) ?_; clear BK381 HB; intro HO453 BK381 HB; (try clear hb); (try clear hb2); (try clear hk); (try clear hi); (try clear ho0)))
                 go_ret
                 exact ⟨_, retT_, by exact toR_ (HO453.out), att15_0_0⟩
 ·replace c6 := Bool.eq_false_iff.mpr c6
  subst c6
  rw [if_neg (show ¬ (false = true) by decide)] at H
  obtain rfl := Option.some.inj H
  go_enter Try.func23, Try.ntmps23
  go_wp2_with (first | ((with_reducible refine gate_dst (N := 5) rfl ?_); refine box_event ?hg (N := 5) ?hd (cs := #[.int .i64 a1_0, .int .i64 a1_1, .int .i64 a1_2, .int .i64 a1_3, .int .i64 a1_4]) (t := 37) ?hr ?_; (case hd => rfl); (case hg => rfl); (case hr => first | (go_simp; done) | (go_simp; rfl)); intro gb381 hg w128 hbox hb; refine swap4_ (below_step atgB_ hb) (hbox) ((by rw [hg]; exact (below_size atgB_) : w.heap.size ≤ gb381)) ((by rw [hg]; exact (below_size atgB_) : w.heap.size ≤ gb381)) ?_; clear HB; intro HB BK381 GW381 GE381; clear hb hbox hg) | ((with_reducible refine gate_dst (N := 11) rfl ?_); refine Kd.R_lit k46 _ 46 ?hg (N := 11) ?hd (xs := ([] : List (S46))) (inner := []) (ok := fun _ => True) (okp := fun _ => True) ?hr ?hp (fun _ hk => hk) trivial (Below.refl _ _) (Nat.le_refl _) (by simp) ?_; (case hd => rfl); (case hg => rfl); (case hr => first | (go_simp; done) | (go_simp; rfl)); (case hp => exact (Reps.none _ _)); intro v383 w129 ho130 hb hg_ hnew_; clear hg_ hnew_; (first | rw [← Ny382.out] at ho130 | (simp only [Int.reduceToNat] at ho130; rw [← Ny382.out] at ho130)); refine swap3_ (Kd.R_lower ho130 (below_size att15_0_0)) (blk_below (g := gb381) (o := .cells #[.int .i64 a1_0, .int .i64 a1_1, .int .i64 a1_2, .int .i64 a1_3, .int .i64 a1_4] 37 (0, 0)) att15_0_1 hb) (below_step att15_0_0 hb) ?_; clear BK381 HB; intro HO384 BK381 HB; clear hb ho130; obtain ⟨hcz131_0, hcz131_1, hcz131_2, hcz131_3, hcz131_4, hfz131_0, hfz131_1, hfz131_2, hfz131_3, hfz131_4⟩ := blkB5_ BK381) | ((with_reducible refine gate_callee (f := 106) rfl ?_); refine goesL_ (some 17) rfl rfl Try.func106 (by kernel_rfl) rfl #[.agg #[.int .i64 a1_0, .int .i64 a1_1, .int .i64 a1_2, .int .i64 a1_3, .int .i64 a1_4], .int .i64 (l3.length : Int), .int .i64 (l0.length : Int)] rfl atgM_ ?_; (with_reducible refine (spec_InsOk.calls k a1_0 a1_1 a1_2 a1_3 a1_4 (l3.length : Int) (l0.length : Int) false _ A5.out).mono ?_); rintro e w132 ⟨rfl, hb⟩; refine ⟨_, rfl, ?_⟩; refine swap3_ (Kd.R_below att15_0_3 hb) (blk_below (g := gb381) (o := .cells #[.int .i64 a1_0, .int .i64 a1_1, .int .i64 a1_2, .int .i64 a1_3, .int .i64 a1_4] 37 (0, 0)) att15_0_1 hb) (below_step att15_0_0 hb) ?_; clear HO384 BK381 HB; intro HO384 BK381 HB; (try clear hb); (try clear hb2); (try clear hk); (try clear hi)))
  go_ret
  exact ⟨_, retT_, by exact toR_ (HO384.out), att15_0_0⟩

end Go.Proofs.Ytonlhgkpmjefkaa.XFnEmitted
