/- Each Go function that the law reaches as a Lean function, and that Go comes to just its answer; written by this session's xprint.py over the kit's printer. -/
import Derived.Test.YtonlhgkpmjefkaaXFnExactEmitx0
import Derived.Test.YtonlhgkpmjefkaaXFnExactEmitx5
import Derived.Test.YtonlhgkpmjefkaaXFnExactEmitx12
import Derived.Test.YtonlhgkpmjefkaaXFnExactEmitx13
import Derived.Test.YtonlhgkpmjefkaaXFnExactEmitx14
namespace Go.Proofs.Ytonlhgkpmjefkaa.XFnExactEmit
open Go.RowKit Go.Proofs.YtonlhgkpmjefkaaW.PrintWords Go.Proofs.YtonlhgkpmjefkaaW.PrintLast Go.Proofs.YtonlhgkpmjefkaaW.PrintMore
attribute [local go_sem] max2_int min2_int max_two min_two max_three min_three max_four min_four   -- for this text's walks alone
set_option linter.unusedVariables false
set_option linter.unusedSimpArgs false

theorem att16_0_0 {p : Prop} (h : p := by repeat (first | (with_reducible first | exact HB.out | apply below_alloc | apply pw_below_drewN | apply below_drew1 | refine below_set ?_ GE681.out) | exact HB.out)) : p := h
theorem att16_0_2 {p : Prop} (h : p := by (with_reducible repeat (first | refine blk_drewN ?_ _ | refine blk_drew ?_ | refine blk_alloc ?_ _)); exact BK681.out) : p := h
theorem att16_0_3 {p : Prop} (h : p := by exact toR_ (HO684.out)) : p := h
theorem att16_0_4 {p : Prop} (h : p := by exact toR_ (HO692.out)) : p := h
theorem att16_0_5 {p : Prop} (h : p := by exact toR_ (HO695.out)) : p := h
theorem att16_0_6 {p : Prop} (h : p := by exact toR_ (HO698.out)) : p := h
theorem att16_0_7 {p : Prop} (h : p := by exact toR_ (HO_12.out)) : p := h
theorem att16_0_8 {p : Prop} (h : p := by exact toR_ (HO_9.out)) : p := h
theorem att16_0_9 {p : Prop} (h : p := by exact toR_ (HO701.out)) : p := h
theorem att16_0_11 {p : Prop} (h : p := by exact toR_ (HO729.out)) : p := h
theorem att16_0_12 {p : Prop} (h : p := by (try simp only [List.map_toArray, List.map_cons, List.map_nil]); first | done | (rw [show t725.length = t707.length from (Kd.R_reads' HO_12.out).1.symm] <;> rfl) | rfl | (simp only [List.length_drop, List.length_take]; rfl)) : p := h
theorem att16_0_13 {p : Prop} (h : p := by exact toR_ (HO709.out)) : p := h
theorem att16_0_14 {p : Prop} (h : p := by exact toR_ (HO737.out)) : p := h
theorem att16_0_15 {p : Prop} (h : p := by exact toR_ (HO713.out)) : p := h
theorem att16_0_16 {p : Prop} (h : p := by rintro w' ⟨s0, s1, s2, s3, s4⟩; go_simp; with_reducible rfl) : p := h
theorem att16_0_17 {p : Prop} (h : p := by exact toR_ (HO740.out)) : p := h
theorem att16_1_0 {p : Prop} (h : p := by rw [← hq_]; exact att16_0_8) : p := h
theorem att16_1_1 {p : Prop} (h : p := by rw [← hq_]; exact att16_0_7) : p := h
theorem att16_1_2 {p : Prop} (h : p := by rw [← hq_]; exact att16_0_2) : p := h
theorem att16_1_3 {p : Prop} (h : p := by rw [← hq_]; exact att16_0_0) : p := h
/-! ### laws_FnExactEmit: function 11 -/
def laws_FnExactEmit.j0 : Nat → List Int → Int → List Int → List (S46) → List (S46) → Bool → Int → Int → Int → Int → Int → Option (Bool)
 | 0, _, _, _, _, _, _, _, _, _, _, _ => none
 | k + 1, x0, x2, x3, x9, x12, x68, x682000, x682001, x682002, x682003, x682004 => if x68 = true then (some false) else ((laws_markStepS.f k x12 1).bind fun bt724 => ((laws_heldStepS.f k bt724.2 1).bind fun t726 => (if t726 < 0 then (some false) else (if t726 = bt724.1 then ((laws_toIntS.f k x0).bind fun t727 => ((laws_toIns.f x682000 x682001 x682002 x682003 x682004).bind fun bt730 => ((laws_toIntS.f k x3).bind fun t735 => ((impl_Emit.f k t727 bt730.1 bt730.2.1 bt730.2.2.1 bt730.2.2.2.1 bt730.2.2.2.2 x2 t735).bind fun t738 => ((laws_eqStepS.f k t738 x9).bind fun t741 => (if t741 = true then ((laws_heldStepS.f k bt724.2 1).bind fun t742 => (if t742 < 0 then (some false) else (if t742 = bt724.1 then (some true) else (some false)))) else (some false))))))) else (some false)))))
def laws_FnExactEmit.f (k : Nat) (l0 : List Int) (a1_0 : Int) (a1_1 : Int) (a1_2 : Int) (a1_3 : Int) (a1_4 : Int) (a2 : Int) (l3 : List Int) : Option (Bool) := if (l0.length : Int) > 1048576 then (some true) else (if (l3.length : Int) > 1048576 then (some true) else ((laws_toIntS.f k l0).bind fun t682 => ((laws_toIns.f a1_0 a1_1 a1_2 a1_3 a1_4).bind fun bt685 => ((laws_toIntS.f k l3).bind fun t690 => ((spec_Emit.f k t682 bt685.1 bt685.2.1 bt685.2.2.1 bt685.2.2.2.1 bt685.2.2.2.2 a2 t690).bind fun t693 => ((laws_toIntS.f k l0).bind fun t696 => ((laws_toIntS.f k l3).bind fun t699 => ((laws_toIns.f a1_0 a1_1 a1_2 a1_3 a1_4).bind fun bt702 => ((impl_Emit.f k t696 bt702.1 bt702.2.1 bt702.2.2.1 bt702.2.2.2.1 bt702.2.2.2.2 a2 t699).bind fun t707 => ((laws_eqStepS.f k t707 t693).bind fun t710 => (if t710 = true then ((laws_toIntS.f k l0).bind fun t711 => ((laws_eqIntS.f k t696 t711).bind fun t714 => (if t714 = true then ((laws_toIntS.f k l3).bind fun t715 => ((laws_eqIntS.f k t699 t715).bind fun t718 => (if t718 = true then ((laws_markIntS.f k t696 1).bind fun bt719 => ((laws_markIntS.f k t699 bt719.1).bind fun bt721 => (if bt721.1 < 0 then (laws_FnExactEmit.j0 k l0 a2 l3 t693 t707 true a1_0 a1_1 a1_2 a1_3 a1_4) else ((laws_eqStepS.f k t707 t693).bind fun t723 => (laws_FnExactEmit.j0 k l0 a2 l3 t693 t707 (!t723) a1_0 a1_1 a1_2 a1_3 a1_4))))) else (some false)))) else (some false)))) else (some false))))))))))))
theorem laws_FnExactEmit.mono_l : ∀ k, (∀ y0 y1 y2 y3 y4 y5 y6 y7 y8 y9 y10, LeO (laws_FnExactEmit.j0 k y0 y1 y2 y3 y4 y5 y6 y7 y8 y9 y10) (laws_FnExactEmit.j0 (k + 1) y0 y1 y2 y3 y4 y5 y6 y7 y8 y9 y10))
 | 0 => fun _ _ _ _ _ _ _ _ _ _ _ r h => by simp [laws_FnExactEmit.j0] at h
 | k + 1 => by
  have ih0 := laws_FnExactEmit.mono_l k
  ·intro y0 y1 y2 y3 y4 y5 y6 y7 y8 y9 y10
   unfold laws_FnExactEmit.j0
   repeat' (with_reducible first | exact ih0 .. | exact impl_Emit.mono .. | exact laws_eqIntS.mono .. | exact laws_eqStepS.mono .. | exact laws_heldStepS.mono .. | exact laws_markIntS.mono .. | exact laws_markStepS.mono .. | exact laws_toIntS.mono _ _ | exact spec_Emit.mono .. | exact LeO.refl _ | exact LeO.none _ | refine LeO.ite ?_ ?_ | refine LeO.bind ?_ (fun _ => ?_))
theorem laws_FnExactEmit.mono : ∀ a0 a1 a2 a3 a4 a5 a6 a7 k, LeO (laws_FnExactEmit.f k a0 a1 a2 a3 a4 a5 a6 a7) (laws_FnExactEmit.f (k + 1) a0 a1 a2 a3 a4 a5 a6 a7) := by
 intro a0 a1 a2 a3 a4 a5 a6 a7 k
 have ih0 := laws_FnExactEmit.mono_l k
 unfold laws_FnExactEmit.f
 repeat' (with_reducible first | exact ih0 .. | exact impl_Emit.mono .. | exact laws_eqIntS.mono .. | exact laws_eqStepS.mono .. | exact laws_heldStepS.mono .. | exact laws_markIntS.mono .. | exact laws_markStepS.mono .. | exact laws_toIntS.mono _ _ | exact spec_Emit.mono .. | exact LeO.refl _ | exact LeO.none _ | refine LeO.ite ?_ ?_ | refine LeO.bind ?_ (fun _ => ?_))
def laws_FnExactEmit.T5 : Bool × List (List Nat × List Nat) := (true, [([], []), ([0], [0]), ([], []), ([2, 1], [2]), ([], []), ([], []), ([5, 3], [5]), ([1, 3, 4, 6, 6], [1, 3, 4, 6]), ([7, 7, 0, 1, 2, 3, 4, 5, 6, 7], [7])])
def laws_FnExactEmit.B5 : List Nat := [0, 1, 0, 7, 0, 0, 47, 127, 255]
theorem laws_FnExactEmit.tab5 : rtab .any (opsOf Try.f11 5) = laws_FnExactEmit.T5 := by kernel_rfl
theorem laws_FnExactEmit.bits5 : waitsOk laws_FnExactEmit.T5.2 laws_FnExactEmit.B5 = true := by kernel_rfl
def laws_FnExactEmit.T28 : Bool × List (List Nat × List Nat) := (true, [([], []), ([0], [0]), ([], []), ([2, 1], [2]), ([], []), ([], []), ([5, 3], [5]), ([1, 3, 4, 6, 6], [1, 3, 4, 6]), ([7, 7, 0, 1, 2, 3, 4, 5, 6, 7], [7])])
def laws_FnExactEmit.B28 : List Nat := [0, 1, 0, 7, 0, 0, 47, 127, 255]
theorem laws_FnExactEmit.tab28 : rtab .any (opsOf Try.f11 28) = laws_FnExactEmit.T28 := by kernel_rfl
theorem laws_FnExactEmit.bits28 : waitsOk laws_FnExactEmit.T28.2 laws_FnExactEmit.B28 = true := by kernel_rfl
set_option maxHeartbeats 80000000 in
set_option maxRecDepth 100000 in
theorem laws_FnExactEmit.calls (k : Nat) (A0 : Option Addr) (c0 : Nat) (l0 : List Int) (a1_0 : Int) (a1_1 : Int) (a1_2 : Int) (a1_3 : Int) (a1_4 : Int) (a2 : Int) (A3 : Option Addr) (c3 : Nat) (l3 : List Int) (r : Bool) (w : World) (hr0 : Kd.C (Kd.int .i64) w A0 l0.length l0) (hc0 : l0.length ≤ c0) (hr3 : Kd.C (Kd.int .i64) w A3 l3.length l3) (hc3 : l3.length ≤ c3) (h : laws_FnExactEmit.f k l0 a1_0 a1_1 a1_2 a1_3 a1_4 a2 l3 = some r) :
  Calls Try.prog 11 #[.slice A0 l0.length c0, .agg #[.int .i64 a1_0, .int .i64 a1_1, .int .i64 a1_2, .int .i64 a1_3, .int .i64 a1_4], .int .i64 a2, .slice A3 l3.length c3] w fun e w' => e = .returned (.bool r) ∧ Below w.heap.size w w' := by
 have hu82 := Try.underlying82
 have HR0 := Aside0.mk hr0
 have HC0 := Aside0.mk hc0
 clear hr0 hc0
 have HR3 := Aside0.mk hr3
 have HC3 := Aside0.mk hc3
 clear hr3 hc3
 have HB := Aside0.mk (Below.refl w.heap.size w)
 have H : (if (l0.length : Int) > 1048576 then (some true) else (if (l3.length : Int) > 1048576 then (some true) else ((laws_toIntS.f k l0).bind fun t682 => ((laws_toIns.f a1_0 a1_1 a1_2 a1_3 a1_4).bind fun bt685 => ((laws_toIntS.f k l3).bind fun t690 => ((spec_Emit.f k t682 bt685.1 bt685.2.1 bt685.2.2.1 bt685.2.2.2.1 bt685.2.2.2.2 a2 t690).bind fun t693 => ((laws_toIntS.f k l0).bind fun t696 => ((laws_toIntS.f k l3).bind fun t699 => ((laws_toIns.f a1_0 a1_1 a1_2 a1_3 a1_4).bind fun bt702 => ((impl_Emit.f k t696 bt702.1 bt702.2.1 bt702.2.2.1 bt702.2.2.2.1 bt702.2.2.2.2 a2 t699).bind fun t707 => ((laws_eqStepS.f k t707 t693).bind fun t710 => (if t710 = true then ((laws_toIntS.f k l0).bind fun t711 => ((laws_eqIntS.f k t696 t711).bind fun t714 => (if t714 = true then ((laws_toIntS.f k l3).bind fun t715 => ((laws_eqIntS.f k t699 t715).bind fun t718 => (if t718 = true then ((laws_markIntS.f k t696 1).bind fun bt719 => ((laws_markIntS.f k t699 bt719.1).bind fun bt721 => (if bt721.1 < 0 then (laws_FnExactEmit.j0 k l0 a2 l3 t693 t707 true a1_0 a1_1 a1_2 a1_3 a1_4) else ((laws_eqStepS.f k t707 t693).bind fun t723 => (laws_FnExactEmit.j0 k l0 a2 l3 t693 t707 (!t723) a1_0 a1_1 a1_2 a1_3 a1_4))))) else (some false)))) else (some false)))) else (some false))))))))))))) = some r := h
 clear h
 by_cases c5 : (l0.length : Int) > 1048576
 ·rw [if_pos c5] at H
  have c5b0 := decide_eq_true c5
  have c5b1 : decide (1048576 < l0.length) = true := decide_eq_true (by omega)
  clear c5
  obtain rfl := Option.some.inj H
  go_enter Try.func11, Try.ntmps11
  go_wp2_with (first | ((with_reducible refine gate_dst (N := 5) rfl ?_); refine box_event ?hg (N := 5) ?hd (cs := #[.int .i64 a1_0, .int .i64 a1_1, .int .i64 a1_2, .int .i64 a1_3, .int .i64 a1_4]) (t := 82) ?hr ?_; (case hd => rfl); (case hg => rfl); (case hr => first | (go_simp; done) | (go_simp; rfl)); intro gb681 hg w6 hbox hb; refine swap4_ (below_step atgB_ hb) (hbox) ((by rw [hg]; exact (below_size atgB_) : w.heap.size ≤ gb681)) ((by rw [hg]; exact (below_size atgB_) : w.heap.size ≤ gb681)) ?_; clear HB; intro HB BK681 GW681 GE681; clear hb hbox hg))
  go_ret
  exact ⟨retT_, att16_0_0⟩
 ·rw [if_neg c5] at H
  have c5b0 := decide_eq_false c5
  have c5b1 : decide (1048576 < l0.length) = false := decide_eq_false (by omega)
  clear c5
  by_cases c7 : (l3.length : Int) > 1048576
  ·rw [if_pos c7] at H
   have c7b0 := decide_eq_true c7
   have c7b1 : decide (1048576 < l3.length) = true := decide_eq_true (by omega)
   clear c7
   obtain rfl := Option.some.inj H
   go_enter Try.func11, Try.ntmps11
   go_wp2_with (first | ((with_reducible refine gate_dst (N := 5) rfl ?_); refine box_event ?hg (N := 5) ?hd (cs := #[.int .i64 a1_0, .int .i64 a1_1, .int .i64 a1_2, .int .i64 a1_3, .int .i64 a1_4]) (t := 82) ?hr ?_; (case hd => rfl); (case hg => rfl); (case hr => first | (go_simp; done) | (go_simp; rfl)); intro gb681 hg w8 hbox hb; refine swap4_ (below_step atgB_ hb) (hbox) ((by rw [hg]; exact (below_size atgB_) : w.heap.size ≤ gb681)) ((by rw [hg]; exact (below_size atgB_) : w.heap.size ≤ gb681)) ?_; clear HB; intro HB BK681 GW681 GE681; clear hb hbox hg))
   go_ret
   exact ⟨retT_, att16_0_0⟩
  ·rw [if_neg c7] at H
   have c7b0 := decide_eq_false c7
   have c7b1 : decide (1048576 < l3.length) = false := decide_eq_false (by omega)
   clear c7
   replace H := Option.bind_eq_some_iff.mp H
   obtain ⟨t682, A90, H⟩ := H
   (try dsimp only at H)
   have A9 := Aside0.mk A90
   clear A90
   replace H := Option.bind_eq_some_iff.mp H
   obtain ⟨⟨t685, t686, t687, t688, t689⟩, A100, H⟩ := H
   (try dsimp only at H)
   have A10 := Aside0.mk A100
   clear A100
   replace H := Option.bind_eq_some_iff.mp H
   obtain ⟨t690, A110, H⟩ := H
   (try dsimp only at H)
   have A11 := Aside0.mk A110
   clear A110
   replace H := Option.bind_eq_some_iff.mp H
   obtain ⟨t693, A120, H⟩ := H
   (try dsimp only at H)
   have A12 := Aside0.mk A120
   clear A120
   replace H := Option.bind_eq_some_iff.mp H
   obtain ⟨t696, A130, H⟩ := H
   (try dsimp only at H)
   have A13 := Aside0.mk A130
   clear A130
   replace H := Option.bind_eq_some_iff.mp H
   obtain ⟨t699, A140, H⟩ := H
   (try dsimp only at H)
   have A14 := Aside0.mk A140
   clear A140
   replace H := Option.bind_eq_some_iff.mp H
   obtain ⟨⟨t702, t703, t704, t705, t706⟩, A150, H⟩ := H
   (try dsimp only at H)
   have A15 := Aside0.mk A150
   clear A150
   replace H := Option.bind_eq_some_iff.mp H
   obtain ⟨t707, A160, H⟩ := H
   (try dsimp only at H)
   have A16 := Aside0.mk A160
   clear A160
   replace H := Option.bind_eq_some_iff.mp H
   obtain ⟨t710, A170, H⟩ := H
   (try dsimp only at H)
   have A17 := Aside0.mk A170
   clear A170
   by_cases c18 : t710 = true
   ·subst c18
    rw [if_pos rfl] at H
    replace H := Option.bind_eq_some_iff.mp H
    obtain ⟨t711, A190, H⟩ := H
    (try dsimp only at H)
    have A19 := Aside0.mk A190
    clear A190
    replace H := Option.bind_eq_some_iff.mp H
    obtain ⟨t714, A200, H⟩ := H
    (try dsimp only at H)
    have A20 := Aside0.mk A200
    clear A200
    by_cases c21 : t714 = true
    ·subst c21
     rw [if_pos rfl] at H
     replace H := Option.bind_eq_some_iff.mp H
     obtain ⟨t715, A220, H⟩ := H
     (try dsimp only at H)
     have A22 := Aside0.mk A220
     clear A220
     replace H := Option.bind_eq_some_iff.mp H
     obtain ⟨t718, A230, H⟩ := H
     (try dsimp only at H)
     have A23 := Aside0.mk A230
     clear A230
     by_cases c24 : t718 = true
     ·subst c24
      rw [if_pos rfl] at H
      replace H := Option.bind_eq_some_iff.mp H
      obtain ⟨⟨t719, t720⟩, A250, H⟩ := H
      (try dsimp only at H)
      have A25 := Aside0.mk A250
      clear A250
      replace H := Option.bind_eq_some_iff.mp H
      obtain ⟨⟨t721, t722⟩, A260, H⟩ := H
      (try dsimp only at H)
      have A26 := Aside0.mk A260
      clear A260
      have HC27 := Aside0.mk H
      clear H
      go_enter Try.func11, Try.ntmps11
      try go_wp2_with (first | ((with_reducible refine gate_dst (N := 5) rfl ?_); refine box_event ?hg (N := 5) ?hd (cs := #[.int .i64 a1_0, .int .i64 a1_1, .int .i64 a1_2, .int .i64 a1_3, .int .i64 a1_4]) (t := 82) ?hr ?_; (case hd => rfl); (case hg => rfl); (case hr => first | (go_simp; done) | (go_simp; rfl)); intro gb681 hg w28 hbox hb; refine swap4_ (below_step atgB_ hb) (hbox) ((by rw [hg]; exact (below_size atgB_) : w.heap.size ≤ gb681)) ((by rw [hg]; exact (below_size atgB_) : w.heap.size ≤ gb681)) ?_; clear HB; intro HB BK681 GW681 GE681; clear hb hbox hg))
      have n0_ := Aside0.mk (blk_drew BK681.out)
      have n1_ := Aside0.mk (below_drew1 HB.out)
      clear BK681
      clear HB
      have BK681 := n0_
      have HB := n1_
      clear n0_ n1_
      refine start_ (n := 9) (S := fun w' => w'.cell? ⟨gb681, 0, none⟩ = some (.int .i64 a1_0) ∧ w'.cell? ⟨gb681, 1, none⟩ = some (.int .i64 a1_1) ∧ w'.cell? ⟨gb681, 2, none⟩ = some (.int .i64 a1_2) ∧ w'.cell? ⟨gb681, 3, none⟩ = some (.int .i64 a1_3) ∧ w'.cell? ⟨gb681, 4, none⟩ = some (.int .i64 a1_4)) (ds := []) (tf_ 0 9) (by kernel_rfl) rfl rfl ⟨(blk_cell BK681.out 0).trans rfl, (blk_cell BK681.out 1).trans rfl, (blk_cell BK681.out 2).trans rfl, (blk_cell BK681.out 3).trans rfl, (blk_cell BK681.out 4).trans rfl⟩ (fun hHeld => ?_); refine with_tabW laws_FnExactEmit.tab5 laws_FnExactEmit.bits5 (fun HT_ HW_ => ?_)
      generalize w28.drew = w29 at BK681 HB hHeld ⊢
      refine pureQ_ (i := 0) (N := some 23) (tf_ 1 8) (h := ?_)
      refine pureQ_ (i := 4) (N := some 27) #[true, false, false, false, true, false, false, false, false] (h := ?_)
      refine pureQ_ (i := 5) (N := some 28) #[true, false, false, false, true, true, false, false, false] (h := ?_)
      refine takeQ_ (i := 2) (N := some 25) #[true, false, true, false, true, true, false, false, false] hHeld (hy := Or.inl ⟨by rfl, att16_0_16⟩) (h := ?_)
      refine one_ (i := 1) (N := some 24) #[true, true, true, false, true, true, false, false, false] rfl rfl (one_of HT_.out (by kernel_rfl)) (by decide) (fun K hK => ?_)
      refine goes_ Try.func36 (by kernel_rfl) rfl #[.slice A0 l0.length c0] (by rfl) rfl rfl atgM_ ?_
      with_reducible refine (laws_toIntS.calls k _ _ l0 t682 _ ?side1 ?side2 A9.out).mono ?_
      (case side1 => repeat (first | exact (Kd.C_below HR0.out HB.out) | (with_reducible refine Kd.C_alloc ?_ _) | (with_reducible refine Kd.C_drewN ?_ _) | (with_reducible refine Kd.C_drew ?_)))
      (case side2 => exact HC0.out)
      rintro e w30 ⟨v683, rfl, ho0, hb⟩
      refine ⟨_, rfl, ?_⟩
      have n0_ := Aside0.mk (Kd.R_lower ho0 (below_size att16_0_0))
      have n1_ := Aside0.mk (blk_below (g := gb681) (o := .cells #[.int .i64 a1_0, .int .i64 a1_1, .int .i64 a1_2, .int .i64 a1_3, .int .i64 a1_4] 82 (0, 0)) att16_0_2 hb)
      have n2_ := Aside0.mk (below_step att16_0_0 hb)
      clear BK681
      clear HB
      have HO684 := n0_
      have BK681 := n1_
      have HB := n2_
      clear n0_ n1_ n2_
      (try clear hb)
      (try clear hb2)
      (try clear hk)
      (try clear hi)
      (try clear ho0)
      refine hK.out _ _ ⟨(blk_cell BK681.out 0).trans rfl, (blk_cell BK681.out 1).trans rfl, (blk_cell BK681.out 2).trans rfl, (blk_cell BK681.out 3).trans rfl, (blk_cell BK681.out 4).trans rfl⟩ (fun hHeld => ?_)
      clear hK K
      refine normS_ (N := some 24) (h := ?_)
      refine one_ (i := 3) (N := some 26) (tf_ 6 3) rfl rfl (one_of HT_.out (by kernel_rfl)) (by decide) (fun K hK => ?_)
      refine goes_ Try.func67 (by kernel_rfl) rfl #[.agg #[.int .i64 a1_0, .int .i64 a1_1, .int .i64 a1_2, .int .i64 a1_3, .int .i64 a1_4]] (by rfl) rfl rfl atgM_ ?_
      with_reducible refine (laws_toIns.calls a1_0 a1_1 a1_2 a1_3 a1_4 t685 t686 t687 t688 t689 _ A10.out).mono ?_
      rintro e w31 ⟨rfl, hb⟩
      refine ⟨_, rfl, ?_⟩
      have n0_ := Aside0.mk (Kd.R_below att16_0_3 hb)
      have n1_ := Aside0.mk (blk_below (g := gb681) (o := .cells #[.int .i64 a1_0, .int .i64 a1_1, .int .i64 a1_2, .int .i64 a1_3, .int .i64 a1_4] 82 (0, 0)) att16_0_2 hb)
      have n2_ := Aside0.mk (below_step att16_0_0 hb)
      clear HO684
      clear BK681
      clear HB
      have HO684 := n0_
      have BK681 := n1_
      have HB := n2_
      clear n0_ n1_ n2_
      (try clear hb)
      (try clear hb2)
      (try clear hk)
      (try clear hi)
      refine hK.out _ _ ⟨(blk_cell BK681.out 0).trans rfl, (blk_cell BK681.out 1).trans rfl, (blk_cell BK681.out 2).trans rfl, (blk_cell BK681.out 3).trans rfl, (blk_cell BK681.out 4).trans rfl⟩ (fun hHeld => ?_)
      clear hK K
      refine normS_ (N := some 26) (h := ?_)
      refine one_ (i := 6) (N := some 29) (tf_ 7 2) rfl rfl (one_of HT_.out (by kernel_rfl)) (by decide) (fun K hK => ?_)
      refine goes_ Try.func36 (by kernel_rfl) rfl #[.slice A3 l3.length c3] (by rfl) rfl rfl atgM_ ?_
      with_reducible refine (laws_toIntS.calls k _ _ l3 t690 _ ?side1 ?side2 A11.out).mono ?_
      (case side1 => repeat (first | exact (Kd.C_below HR3.out HB.out) | (with_reducible refine Kd.C_alloc ?_ _) | (with_reducible refine Kd.C_drewN ?_ _) | (with_reducible refine Kd.C_drew ?_)))
      (case side2 => exact HC3.out)
      rintro e w32 ⟨v691, rfl, ho0, hb⟩
      refine ⟨_, rfl, ?_⟩
      have n0_ := Aside0.mk (Kd.R_elder' att16_0_3 (Kd.R_base ho0) hb)
      have n1_ := Aside0.mk (Kd.R_lower (Kd.R_new' ho0 (Kd.R_lt att16_0_3)) (below_size att16_0_0))
      have n2_ := Aside0.mk (blk_below (g := gb681) (o := .cells #[.int .i64 a1_0, .int .i64 a1_1, .int .i64 a1_2, .int .i64 a1_3, .int .i64 a1_4] 82 (0, 0)) att16_0_2 hb)
      have n3_ := Aside0.mk (below_step att16_0_0 hb)
      clear HO684
      clear BK681
      clear HB
      have HO684 := n0_
      have HO692 := n1_
      have BK681 := n2_
      have HB := n3_
      clear n0_ n1_ n2_ n3_
      (try clear hb)
      (try clear hb2)
      (try clear hk)
      (try clear hi)
      (try clear ho0)
      obtain ⟨Ao33, co33, eo33⟩ := Kd.R_slice HO684.out
      (first | subst eo33 | (injection eo33 with f1_ f2_ f3_; have f4_ := f1_.symm; have f5_ := f3_.symm; clear f1_ f2_ f3_; subst f4_; subst f5_))
      obtain ⟨Ao34, co34, eo34⟩ := Kd.R_slice HO692.out
      (first | subst eo34 | (injection eo34 with f1_ f2_ f3_; have f4_ := f1_.symm; have f5_ := f3_.symm; clear f1_ f2_ f3_; subst f4_; subst f5_))
      refine hK.out _ _ ⟨(blk_cell BK681.out 0).trans rfl, (blk_cell BK681.out 1).trans rfl, (blk_cell BK681.out 2).trans rfl, (blk_cell BK681.out 3).trans rfl, (blk_cell BK681.out 4).trans rfl⟩ (fun hHeld => ?_)
      clear hK K
      refine normS_ (N := some 29) (h := ?_)
      refine one_ (i := 7) (N := some 30) (tf_ 8 1) rfl rfl (one_of HT_.out (by kernel_rfl)) (by decide) (fun K hK => ?_)
      refine goes_ Try.func23 (by kernel_rfl) rfl #[.slice Ao33 t682.length co33, .agg #[.int .i64 t685, .int .i64 t686, .int .i64 t687, .int .i64 t688, .int .i64 t689], .int .i64 a2, .slice Ao34 t690.length co34] (by rfl) rfl rfl atgM_ ?_
      with_reducible refine (spec_Emit.calls k _ _ t682 t685 t686 t687 t688 t689 a2 _ _ t690 t693 _ ?side1 ?side2 ?side3 ?side4 A12.out).mono ?_
      (case side1 => repeat (first | exact (Kd.R_reads' HO684.out).2.2 | (with_reducible refine Kd.C_alloc ?_ _) | (with_reducible refine Kd.C_drewN ?_ _) | (with_reducible refine Kd.C_drew ?_)))
      (case side2 => exact (Kd.R_reads' HO684.out).2.1)
      (case side3 => repeat (first | exact (Kd.R_reads' HO692.out).2.2 | (with_reducible refine Kd.C_alloc ?_ _) | (with_reducible refine Kd.C_drewN ?_ _) | (with_reducible refine Kd.C_drew ?_)))
      (case side4 => exact (Kd.R_reads' HO692.out).2.1)
      rintro e w35 ⟨v694, rfl, ho0, hb⟩
      refine ⟨_, rfl, ?_⟩
      have n0_ := Aside0.mk (Kd.R_below att16_0_3 hb)
      have n1_ := Aside0.mk (Kd.R_below att16_0_4 hb)
      have n2_ := Aside0.mk (Kd.R_lower ho0 (below_size att16_0_0))
      have n3_ := Aside0.mk (blk_below (g := gb681) (o := .cells #[.int .i64 a1_0, .int .i64 a1_1, .int .i64 a1_2, .int .i64 a1_3, .int .i64 a1_4] 82 (0, 0)) att16_0_2 hb)
      have n4_ := Aside0.mk (below_step att16_0_0 hb)
      clear HO684
      clear HO692
      clear BK681
      clear HB
      have HO684 := n0_
      have HO692 := n1_
      have HO695 := n2_
      have BK681 := n3_
      have HB := n4_
      clear n0_ n1_ n2_ n3_ n4_
      (try clear hb)
      (try clear hb2)
      (try clear hk)
      (try clear hi)
      (try clear ho0)
      refine hK.out _ _ ⟨(blk_cell BK681.out 0).trans rfl, (blk_cell BK681.out 1).trans rfl, (blk_cell BK681.out 2).trans rfl, (blk_cell BK681.out 3).trans rfl, (blk_cell BK681.out 4).trans rfl⟩ (fun hHeld => ?_)
      clear hK K
      refine normS_ (N := some 30) (h := ?_)
      refine pureQ_ (i := 8) (N := some 9) (tf_ 9 0) (h := ?_)
      refine done_ (done_of HT_.out (by kernel_rfl)) ?_
      go_upto_region 18 with (first | ((with_reducible refine gate_callee (f := 36) rfl ?_); refine goesL_ (some 32) rfl rfl Try.func36 (by kernel_rfl) rfl #[.slice A0 l0.length c0] rfl atgM_ ?_; (with_reducible refine (laws_toIntS.calls k _ _ l0 t696 _ ?side1 ?side2 A13.out).mono ?_); (case side1 => repeat (first | exact (Kd.C_below HR0.out HB.out) | (with_reducible refine Kd.C_alloc ?_ _) | (with_reducible refine Kd.C_drewN ?_ _) | (with_reducible refine Kd.C_drew ?_))); (case side2 => exact HC0.out); rintro e w36 ⟨v697, rfl, ho0, hb⟩; refine ⟨_, rfl, ?_⟩; refine swap6_ (Kd.R_elder' att16_0_3 (Kd.R_base ho0) hb) (Kd.R_elder' att16_0_4 (Kd.R_base ho0) hb) (Kd.R_below att16_0_5 hb) (Kd.R_lower (Kd.R_new' (Kd.R_new' ho0 (Kd.R_lt att16_0_3)) (Kd.R_lt att16_0_4)) (below_size att16_0_0)) (blk_below (g := gb681) (o := .cells #[.int .i64 a1_0, .int .i64 a1_1, .int .i64 a1_2, .int .i64 a1_3, .int .i64 a1_4] 82 (0, 0)) att16_0_2 hb) (below_step att16_0_0 hb) ?_; clear HO684 HO692 HO695 BK681 HB; intro HO684 HO692 HO695 HO698 BK681 HB; (try clear hb); (try clear hb2); (try clear hk); (try clear hi); (try clear ho0)) | ((with_reducible refine gate_callee (f := 36) rfl ?_); refine goesL_ (some 34) rfl rfl Try.func36 (by kernel_rfl) rfl #[.slice A3 l3.length c3] rfl atgM_ ?_; (with_reducible refine (laws_toIntS.calls k _ _ l3 t699 _ ?side1 ?side2 A14.out).mono ?_); (case side1 => repeat (first | exact (Kd.C_below HR3.out HB.out) | (with_reducible refine Kd.C_alloc ?_ _) | (with_reducible refine Kd.C_drewN ?_ _) | (with_reducible refine Kd.C_drew ?_))); (case side2 => exact HC3.out); rintro e w37 ⟨v700, rfl, ho0, hb⟩; refine ⟨_, rfl, ?_⟩; refine swap7_ (Kd.R_elder' att16_0_3 (Kd.R_base ho0) hb) (Kd.R_elder' att16_0_4 (Kd.R_base ho0) hb) (Kd.R_below att16_0_5 hb) (Kd.R_elder' att16_0_6 (Kd.R_base ho0) hb) (Kd.R_lower (Kd.R_new' (Kd.R_new' (Kd.R_new' ho0 (Kd.R_lt att16_0_3)) (Kd.R_lt att16_0_4)) (Kd.R_lt att16_0_6)) (below_size att16_0_0)) (blk_below (g := gb681) (o := .cells #[.int .i64 a1_0, .int .i64 a1_1, .int .i64 a1_2, .int .i64 a1_3, .int .i64 a1_4] 82 (0, 0)) att16_0_2 hb) (below_step att16_0_0 hb) ?_; clear HO684 HO692 HO695 HO698 BK681 HB; intro HO684 HO692 HO695 HO698 HO701 BK681 HB; (try clear hb); (try clear hb2); (try clear hk); (try clear hi); (try clear ho0); obtain ⟨hcz38_0, hcz38_1, hcz38_2, hcz38_3, hcz38_4, hfz38_0, hfz38_1, hfz38_2, hfz38_3, hfz38_4⟩ := blkB5_ BK681) | ((with_reducible refine gate_callee (f := 67) rfl ?_); refine goesL_ (some 37) rfl rfl Try.func67 (by kernel_rfl) rfl #[.agg #[.int .i64 a1_0, .int .i64 a1_1, .int .i64 a1_2, .int .i64 a1_3, .int .i64 a1_4]] rfl atgM_ ?_; (with_reducible refine (laws_toIns.calls a1_0 a1_1 a1_2 a1_3 a1_4 t702 t703 t704 t705 t706 _ A15.out).mono ?_); rintro e w39 ⟨rfl, hb⟩; refine ⟨_, rfl, ?_⟩; refine swap7_ (Kd.R_below att16_0_3 hb) (Kd.R_below att16_0_4 hb) (Kd.R_below att16_0_5 hb) (Kd.R_below att16_0_6 hb) (Kd.R_below att16_0_9 hb) (blk_below (g := gb681) (o := .cells #[.int .i64 a1_0, .int .i64 a1_1, .int .i64 a1_2, .int .i64 a1_3, .int .i64 a1_4] 82 (0, 0)) att16_0_2 hb) (below_step att16_0_0 hb) ?_; clear HO684 HO692 HO695 HO698 HO701 BK681 HB; intro HO684 HO692 HO695 HO698 HO701 BK681 HB; (try clear hb); (try clear hb2); (try clear hk); (try clear hi); obtain ⟨Ao40, co40, eo40⟩ := Kd.R_slice HO698.out; subst eo40; obtain ⟨Ao41, co41, eo41⟩ := Kd.R_slice HO701.out; subst eo41) | ((with_reducible refine gate_callee (f := 22) rfl ?_); refine goesL_ (some 40) rfl rfl Try.func22 (by kernel_rfl) rfl #[.slice Ao40 t696.length co40, .agg #[.int .i64 t702, .int .i64 t703, .int .i64 t704, .int .i64 t705, .int .i64 t706], .int .i64 a2, .slice Ao41 t699.length co41] rfl atgM_ ?_; (with_reducible refine (impl_Emit.calls k _ _ t696 t702 t703 t704 t705 t706 a2 _ _ t699 t707 _ ?side1 ?side2 ?side3 ?side4 A16.out).mono ?_); (case side1 => repeat (first | exact (Kd.R_reads' HO698.out).2.2 | (with_reducible refine Kd.C_alloc ?_ _) | (with_reducible refine Kd.C_drewN ?_ _) | (with_reducible refine Kd.C_drew ?_))); (case side2 => exact (Kd.R_reads' HO698.out).2.1); (case side3 => repeat (first | exact (Kd.R_reads' HO701.out).2.2 | (with_reducible refine Kd.C_alloc ?_ _) | (with_reducible refine Kd.C_drewN ?_ _) | (with_reducible refine Kd.C_drew ?_))); (case side4 => exact (Kd.R_reads' HO701.out).2.1); rintro e w42 ⟨v708, rfl, ho0, hb⟩; refine ⟨_, rfl, ?_⟩; refine swap8_ (Kd.R_below att16_0_3 hb) (Kd.R_below att16_0_4 hb) (Kd.R_elder' att16_0_5 (Kd.R_base ho0) hb) (Kd.R_below att16_0_6 hb) (Kd.R_below att16_0_9 hb) (Kd.R_lower (Kd.R_new' ho0 (Kd.R_lt att16_0_5)) (below_size att16_0_0)) (blk_below (g := gb681) (o := .cells #[.int .i64 a1_0, .int .i64 a1_1, .int .i64 a1_2, .int .i64 a1_3, .int .i64 a1_4] 82 (0, 0)) att16_0_2 hb) (below_step att16_0_0 hb) ?_; clear HO684 HO692 HO695 HO698 HO701 BK681 HB; intro HO684 HO692 HO695 HO698 HO701 HO709 BK681 HB; (try clear hb); (try clear hb2); (try clear hk); (try clear hi); (try clear ho0); obtain ⟨Ao43, co43, eo43⟩ := Kd.R_slice HO709.out; subst eo43; obtain ⟨Ao44, co44, eo44⟩ := Kd.R_slice HO695.out; subst eo44) | ((with_reducible refine gate_callee (f := 68) rfl ?_); refine goesL_ (some 43) rfl rfl Try.func68 (by kernel_rfl) rfl #[.slice Ao43 t707.length co43, .slice Ao44 t693.length co44] rfl atgM_ ?_; (with_reducible refine (laws_eqStepS.calls k _ _ t707 _ _ t693 true _ ?side1 ?side2 ?side3 ?side4 A17.out).mono ?_); (case side1 => repeat (first | exact (Kd.R_reads' HO709.out).2.2 | (with_reducible refine Kd.C_alloc ?_ _) | (with_reducible refine Kd.C_drewN ?_ _) | (with_reducible refine Kd.C_drew ?_))); (case side2 => exact (Kd.R_reads' HO709.out).2.1); (case side3 => repeat (first | exact (Kd.R_reads' HO695.out).2.2 | (with_reducible refine Kd.C_alloc ?_ _) | (with_reducible refine Kd.C_drewN ?_ _) | (with_reducible refine Kd.C_drew ?_))); (case side4 => exact (Kd.R_reads' HO695.out).2.1); rintro e w45 ⟨rfl, hb⟩; refine ⟨_, rfl, ?_⟩; refine swap8_ (Kd.R_below att16_0_3 hb) (Kd.R_below att16_0_4 hb) (Kd.R_below att16_0_5 hb) (Kd.R_below att16_0_6 hb) (Kd.R_below att16_0_9 hb) (Kd.R_below att16_0_13 hb) (blk_below (g := gb681) (o := .cells #[.int .i64 a1_0, .int .i64 a1_1, .int .i64 a1_2, .int .i64 a1_3, .int .i64 a1_4] 82 (0, 0)) att16_0_2 hb) (below_step att16_0_0 hb) ?_; clear HO684 HO692 HO695 HO698 HO701 HO709 BK681 HB; intro HO684 HO692 HO695 HO698 HO701 HO709 BK681 HB; (try clear hb); (try clear hb2); (try clear hk); (try clear hi)) | ((with_reducible refine gate_callee (f := 36) rfl ?_); refine goesL_ (some 47) rfl rfl Try.func36 (by kernel_rfl) rfl #[.slice A0 l0.length c0] rfl atgM_ ?_; (with_reducible refine (laws_toIntS.calls k _ _ l0 t711 _ ?side1 ?side2 A19.out).mono ?_); (case side1 => repeat (first | exact (Kd.C_below HR0.out HB.out) | (with_reducible refine Kd.C_alloc ?_ _) | (with_reducible refine Kd.C_drewN ?_ _) | (with_reducible refine Kd.C_drew ?_))); (case side2 => exact HC0.out); rintro e w46 ⟨v712, rfl, ho0, hb⟩; refine ⟨_, rfl, ?_⟩; have n0_ := Aside0.mk (Kd.R_elder' att16_0_3 (Kd.R_base ho0) hb); have n1_ := Aside0.mk (Kd.R_elder' att16_0_4 (Kd.R_base ho0) hb); have n2_ := Aside0.mk (Kd.R_below att16_0_5 hb); have n3_ := Aside0.mk (Kd.R_elder' att16_0_6 (Kd.R_base ho0) hb); have n4_ := Aside0.mk (Kd.R_elder' att16_0_9 (Kd.R_base ho0) hb); have n5_ := Aside0.mk (Kd.R_below att16_0_13 hb); have n6_ := Aside0.mk (Kd.R_lower (Kd.R_new' (Kd.R_new' (Kd.R_new' (Kd.R_new' ho0 (Kd.R_lt att16_0_3)) (Kd.R_lt att16_0_4)) (Kd.R_lt att16_0_6)) (Kd.R_lt att16_0_9)) (below_size att16_0_0)); have n7_ := Aside0.mk (blk_below (g := gb681) (o := .cells #[.int .i64 a1_0, .int .i64 a1_1, .int .i64 a1_2, .int .i64 a1_3, .int .i64 a1_4] 82 (0, 0)) att16_0_2 hb); have n8_ := Aside0.mk (below_step att16_0_0 hb); clear HO684; clear HO692; clear HO695; clear HO698; clear HO701; clear HO709; clear BK681; clear HB; have HO684 := n0_; have HO692 := n1_; have HO695 := n2_; have HO698 := n3_; have HO701 := n4_; have HO709 := n5_; have HO713 := n6_; have BK681 := n7_; have HB := n8_; clear n0_ n1_ n2_ n3_ n4_ n5_ n6_ n7_ n8_; (try clear hb); (try clear hb2); (try clear hk); (try clear hi); (try clear ho0); obtain ⟨Ao47, co47, eo47⟩ := Kd.R_slice HO713.out; subst eo47) | ((with_reducible refine gate_callee (f := 38) rfl ?_); refine goesL_ (some 48) rfl rfl Try.func38 (by kernel_rfl) rfl #[.slice Ao40 t696.length co40, .slice Ao47 t711.length co47] rfl atgM_ ?_; (with_reducible refine (laws_eqIntS.calls k _ _ t696 _ _ t711 true _ ?side1 ?side2 ?side3 ?side4 A20.out).mono ?_); (case side1 => repeat (first | exact (Kd.R_reads' HO698.out).2.2 | (with_reducible refine Kd.C_alloc ?_ _) | (with_reducible refine Kd.C_drewN ?_ _) | (with_reducible refine Kd.C_drew ?_))); (case side2 => exact (Kd.R_reads' HO698.out).2.1); (case side3 => repeat (first | exact (Kd.R_reads' HO713.out).2.2 | (with_reducible refine Kd.C_alloc ?_ _) | (with_reducible refine Kd.C_drewN ?_ _) | (with_reducible refine Kd.C_drew ?_))); (case side4 => exact (Kd.R_reads' HO713.out).2.1); rintro e w' ⟨rfl, ⟨nd, rfl⟩⟩; refine ⟨_, rfl, ?_⟩) | ((with_reducible refine gate_callee (f := 36) rfl ?_); refine goesL_ (some 52) rfl rfl Try.func36 (by kernel_rfl) rfl #[.slice A3 l3.length c3] rfl atgM_ ?_; (with_reducible refine (laws_toIntS.calls k _ _ l3 t715 _ ?side1 ?side2 A22.out).mono ?_); (case side1 => repeat (first | exact (Kd.C_below HR3.out att16_0_0) | (with_reducible refine Kd.C_alloc ?_ _) | (with_reducible refine Kd.C_drewN ?_ _) | (with_reducible refine Kd.C_drew ?_))); (case side2 => exact HC3.out); rintro e w48 ⟨v716, rfl, ho0, hb⟩; refine ⟨_, rfl, ?_⟩; have n0_ := Aside0.mk (Kd.R_elder' att16_0_3 (Kd.R_base ho0) hb); have n1_ := Aside0.mk (Kd.R_elder' att16_0_4 (Kd.R_base ho0) hb); have n2_ := Aside0.mk (Kd.R_below att16_0_5 hb); have n3_ := Aside0.mk (Kd.R_elder' att16_0_6 (Kd.R_base ho0) hb); have n4_ := Aside0.mk (Kd.R_elder' att16_0_9 (Kd.R_base ho0) hb); have n5_ := Aside0.mk (Kd.R_below att16_0_13 hb); have n6_ := Aside0.mk (Kd.R_elder' att16_0_15 (Kd.R_base ho0) hb); have n7_ := Aside0.mk (Kd.R_lower (Kd.R_new' (Kd.R_new' (Kd.R_new' (Kd.R_new' (Kd.R_new' ho0 (Kd.R_lt att16_0_3)) (Kd.R_lt att16_0_4)) (Kd.R_lt att16_0_6)) (Kd.R_lt att16_0_9)) (Kd.R_lt att16_0_15)) (below_size att16_0_0)); have n8_ := Aside0.mk (blk_below (g := gb681) (o := .cells #[.int .i64 a1_0, .int .i64 a1_1, .int .i64 a1_2, .int .i64 a1_3, .int .i64 a1_4] 82 (0, 0)) att16_0_2 hb); have n9_ := Aside0.mk (below_step att16_0_0 hb); clear HO684; clear HO692; clear HO695; clear HO698; clear HO701; clear HO709; clear HO713; clear BK681; clear HB; have HO684 := n0_; have HO692 := n1_; have HO695 := n2_; have HO698 := n3_; have HO701 := n4_; have HO709 := n5_; have HO713 := n6_; have HO717 := n7_; have BK681 := n8_; have HB := n9_; clear n0_ n1_ n2_ n3_ n4_ n5_ n6_ n7_ n8_ n9_; (try clear hb); (try clear hb2); (try clear hk); (try clear hi); (try clear ho0); obtain ⟨Ao49, co49, eo49⟩ := Kd.R_slice HO717.out; subst eo49) | ((with_reducible refine gate_callee (f := 38) rfl ?_); refine goesL_ (some 53) rfl rfl Try.func38 (by kernel_rfl) rfl #[.slice Ao41 t699.length co41, .slice Ao49 t715.length co49] rfl atgM_ ?_; (with_reducible refine (laws_eqIntS.calls k _ _ t699 _ _ t715 true _ ?side1 ?side2 ?side3 ?side4 A23.out).mono ?_); (case side1 => repeat (first | exact (Kd.R_reads' HO701.out).2.2 | (with_reducible refine Kd.C_alloc ?_ _) | (with_reducible refine Kd.C_drewN ?_ _) | (with_reducible refine Kd.C_drew ?_))); (case side2 => exact (Kd.R_reads' HO701.out).2.1); (case side3 => repeat (first | exact (Kd.R_reads' HO717.out).2.2 | (with_reducible refine Kd.C_alloc ?_ _) | (with_reducible refine Kd.C_drewN ?_ _) | (with_reducible refine Kd.C_drew ?_))); (case side4 => exact (Kd.R_reads' HO717.out).2.1); rintro e w' ⟨rfl, ⟨nd, rfl⟩⟩; refine ⟨_, rfl, ?_⟩) | ((with_reducible refine gate_callee (f := 39) rfl ?_); refine goesL_ (some 57) rfl rfl Try.func39 (by kernel_rfl) rfl #[.slice Ao40 t696.length co40, .int .i64 1] rfl atgM_ ?_; (with_reducible refine (laws_markIntS.calls k (fun k_ => some k_ = (.slice Ao40 t696.length co40 : Value).ownBlock) (.slice Ao40 t696.length co40) t696 1 t719 t720 w _ ?side1 ?side2 A25.out).mono ?_); (case side1 => repeat (first | (with_reducible first | exact HB.out | apply below_alloc | apply pw_below_drewN | apply below_drew1 | refine below_set ?_ GE681.out) | exact HB.out)); (case side2 => exact Kd.R_tight rfl HO698.out); rintro e w50 ⟨rfl, hy0, hb, hkp⟩; refine ⟨_, rfl, ?_⟩; have n0_ := Aside0.mk (blk_kept att16_0_2 hkp (fun hs_ => (fun e_ => (Kd.R_ne HO698.out BK681.out (by decide)) e_) hs_)); have n1_ := Aside0.mk (Kd.R_mono (ok' := fun k_ => some k_ ≠ (.slice Ao34 t690.length co34 : Value).ownBlock ∧ some k_ ≠ (.slice Ao40 t696.length co40 : Value).ownBlock ∧ some k_ ≠ (.slice Ao41 t699.length co41 : Value).ownBlock ∧ some k_ ≠ (.slice Ao47 t711.length co47 : Value).ownBlock ∧ some k_ ≠ (.slice Ao49 t715.length co49 : Value).ownBlock) (Kd.R_keptB (HO684.out) hkp (fun k_ hk_ hs_ => (hk_.1.1.1.2) hs_)) (fun k_ hk_ => ⟨hk_.1.1.1.1.1.2, hk_.1.1.1.1.2, hk_.1.1.1.2, hk_.1.1.2, hk_.1.2⟩)); have n2_ := Aside0.mk (Kd.R_mono (ok' := fun k_ => some k_ ≠ (.slice Ao33 t682.length co33 : Value).ownBlock ∧ some k_ ≠ (.slice Ao40 t696.length co40 : Value).ownBlock ∧ some k_ ≠ (.slice Ao41 t699.length co41 : Value).ownBlock ∧ some k_ ≠ (.slice Ao47 t711.length co47 : Value).ownBlock ∧ some k_ ≠ (.slice Ao49 t715.length co49 : Value).ownBlock) (Kd.R_keptB (HO692.out) hkp (fun k_ hk_ hs_ => (hk_.1.1.1.2) hs_)) (fun k_ hk_ => ⟨hk_.1.1.1.1.1.2, hk_.1.1.1.1.2, hk_.1.1.1.2, hk_.1.1.2, hk_.1.2⟩)); have n3_ := Aside0.mk (Kd.R_mono (ok' := fun k_ => some k_ ≠ (.slice Ao43 t707.length co43 : Value).ownBlock) (Kd.R_keptB ((Kd.R_apart' HO695.out (Kd.R_typed HO698.out) (by decide))) hkp (fun k_ hk_ hs_ => (hk_.2) hs_)) (fun k_ hk_ => hk_.1.1.2)); have n4_ := Aside0.mk (Kd.R_reok rfl hy0 (fun k_ e_ => HO698.out.1 k_ e_)); have n5_ := Aside0.mk (Kd.R_mono (ok' := fun k_ => some k_ ≠ (.slice Ao33 t682.length co33 : Value).ownBlock ∧ some k_ ≠ (.slice Ao34 t690.length co34 : Value).ownBlock ∧ some k_ ≠ (.slice Ao40 t696.length co40 : Value).ownBlock ∧ some k_ ≠ (.slice Ao47 t711.length co47 : Value).ownBlock ∧ some k_ ≠ (.slice Ao49 t715.length co49 : Value).ownBlock) (Kd.R_keptB (HO701.out) hkp (fun k_ hk_ hs_ => (hk_.1.1.2) hs_)) (fun k_ hk_ => ⟨hk_.1.1.1.1.1.2, hk_.1.1.1.1.2, hk_.1.1.1.2, hk_.1.1.2, hk_.1.2⟩)); have n6_ := Aside0.mk (Kd.R_mono (ok' := fun k_ => some k_ ≠ (.slice Ao44 t693.length co44 : Value).ownBlock) (Kd.R_keptB ((Kd.R_apart' HO709.out (Kd.R_typed HO698.out) (by decide))) hkp (fun k_ hk_ hs_ => (hk_.2) hs_)) (fun k_ hk_ => hk_.1.1.2)); have n7_ := Aside0.mk (Kd.R_mono (ok' := fun k_ => some k_ ≠ (.slice Ao33 t682.length co33 : Value).ownBlock ∧ some k_ ≠ (.slice Ao34 t690.length co34 : Value).ownBlock ∧ some k_ ≠ (.slice Ao40 t696.length co40 : Value).ownBlock ∧ some k_ ≠ (.slice Ao41 t699.length co41 : Value).ownBlock ∧ some k_ ≠ (.slice Ao49 t715.length co49 : Value).ownBlock) (Kd.R_keptB (HO713.out) hkp (fun k_ hk_ hs_ => (hk_.1.1.2) hs_)) (fun k_ hk_ => ⟨hk_.1.1.1.1.1.2, hk_.1.1.1.1.2, hk_.1.1.1.2, hk_.1.1.2, hk_.1.2⟩)); have n8_ := Aside0.mk (Kd.R_mono (ok' := fun k_ => some k_ ≠ (.slice Ao33 t682.length co33 : Value).ownBlock ∧ some k_ ≠ (.slice Ao34 t690.length co34 : Value).ownBlock ∧ some k_ ≠ (.slice Ao40 t696.length co40 : Value).ownBlock ∧ some k_ ≠ (.slice Ao41 t699.length co41 : Value).ownBlock ∧ some k_ ≠ (.slice Ao47 t711.length co47 : Value).ownBlock) (Kd.R_keptB (HO717.out) hkp (fun k_ hk_ hs_ => (hk_.1.1.2) hs_)) (fun k_ hk_ => ⟨hk_.1.1.1.1.1.2, hk_.1.1.1.1.2, hk_.1.1.1.2, hk_.1.1.2, hk_.1.2⟩)); have n9_ := Aside0.mk (hb); clear BK681; clear HO684; clear HO692; clear HO695; clear HO698; clear HO701; clear HO709; clear HO713; clear HO717; clear HB; have BK681 := n0_; have HO684 := n1_; have HO692 := n2_; have HO695 := n3_; have HO698 := n4_; have HO701 := n5_; have HO709 := n6_; have HO713 := n7_; have HO717 := n8_; have HB := n9_; clear n0_ n1_ n2_ n3_ n4_ n5_ n6_ n7_ n8_ n9_; (try clear hb); (try clear hkp); (try clear hy0)) | ((with_reducible refine gate_callee (f := 39) rfl ?_); refine goesL_ (some 60) rfl rfl Try.func39 (by kernel_rfl) rfl #[.slice Ao41 t699.length co41, .int .i64 t719] rfl atgM_ ?_; (with_reducible refine (laws_markIntS.calls k (fun k_ => some k_ = (.slice Ao41 t699.length co41 : Value).ownBlock) (.slice Ao41 t699.length co41) t699 t719 t721 t722 w _ ?side1 ?side2 A26.out).mono ?_); (case side1 => repeat (first | (with_reducible first | exact HB.out | apply below_alloc | apply pw_below_drewN | apply below_drew1 | refine below_set ?_ GE681.out) | exact HB.out)); (case side2 => exact Kd.R_tight rfl HO701.out); rintro e w51 ⟨rfl, hy0, hb, hkp⟩; refine ⟨_, rfl, ?_⟩; have n0_ := Aside0.mk (blk_kept att16_0_2 hkp (fun hs_ => (fun e_ => (Kd.R_ne HO701.out BK681.out (by decide)) e_) hs_)); have n1_ := Aside0.mk (Kd.R_mono (ok' := fun k_ => some k_ ≠ (.slice Ao34 t690.length co34 : Value).ownBlock ∧ some k_ ≠ (.slice Ao40 t696.length co40 : Value).ownBlock ∧ some k_ ≠ (.slice Ao41 t699.length co41 : Value).ownBlock ∧ some k_ ≠ (.slice Ao47 t711.length co47 : Value).ownBlock ∧ some k_ ≠ (.slice Ao49 t715.length co49 : Value).ownBlock) (Kd.R_keptB (HO684.out) hkp (fun k_ hk_ hs_ => (hk_.2.2.1) hs_)) (fun k_ hk_ => ⟨hk_.1.1, hk_.1.2.1, hk_.1.2.2.1, hk_.1.2.2.2.1, hk_.1.2.2.2.2⟩)); have n2_ := Aside0.mk (Kd.R_mono (ok' := fun k_ => some k_ ≠ (.slice Ao33 t682.length co33 : Value).ownBlock ∧ some k_ ≠ (.slice Ao40 t696.length co40 : Value).ownBlock ∧ some k_ ≠ (.slice Ao41 t699.length co41 : Value).ownBlock ∧ some k_ ≠ (.slice Ao47 t711.length co47 : Value).ownBlock ∧ some k_ ≠ (.slice Ao49 t715.length co49 : Value).ownBlock) (Kd.R_keptB (HO692.out) hkp (fun k_ hk_ hs_ => (hk_.2.2.1) hs_)) (fun k_ hk_ => ⟨hk_.1.1, hk_.1.2.1, hk_.1.2.2.1, hk_.1.2.2.2.1, hk_.1.2.2.2.2⟩)); have n3_ := Aside0.mk (Kd.R_mono (ok' := fun k_ => some k_ ≠ (.slice Ao43 t707.length co43 : Value).ownBlock) (Kd.R_keptB ((Kd.R_apart' HO695.out (Kd.R_typed HO701.out) (by decide))) hkp (fun k_ hk_ hs_ => (hk_.2) hs_)) (fun k_ hk_ => hk_.1.1)); have n4_ := Aside0.mk (Kd.R_mono (ok' := fun k_ => some k_ ≠ (.slice Ao33 t682.length co33 : Value).ownBlock ∧ some k_ ≠ (.slice Ao34 t690.length co34 : Value).ownBlock ∧ some k_ ≠ (.slice Ao41 t699.length co41 : Value).ownBlock ∧ some k_ ≠ (.slice Ao47 t711.length co47 : Value).ownBlock ∧ some k_ ≠ (.slice Ao49 t715.length co49 : Value).ownBlock) (Kd.R_keptB (HO698.out) hkp (fun k_ hk_ hs_ => (hk_.1.1.2) hs_)) (fun k_ hk_ => ⟨hk_.1.1.1.1.1.2, hk_.1.1.1.1.2, hk_.1.1.1.2, hk_.1.1.2, hk_.1.2⟩)); have n5_ := Aside0.mk (Kd.R_reok rfl hy0 (fun k_ e_ => HO701.out.1 k_ e_)); have n6_ := Aside0.mk (Kd.R_mono (ok' := fun k_ => some k_ ≠ (.slice Ao44 t693.length co44 : Value).ownBlock) (Kd.R_keptB ((Kd.R_apart' HO709.out (Kd.R_typed HO701.out) (by decide))) hkp (fun k_ hk_ hs_ => (hk_.2) hs_)) (fun k_ hk_ => hk_.1.1)); have n7_ := Aside0.mk (Kd.R_mono (ok' := fun k_ => some k_ ≠ (.slice Ao33 t682.length co33 : Value).ownBlock ∧ some k_ ≠ (.slice Ao34 t690.length co34 : Value).ownBlock ∧ some k_ ≠ (.slice Ao40 t696.length co40 : Value).ownBlock ∧ some k_ ≠ (.slice Ao41 t699.length co41 : Value).ownBlock ∧ some k_ ≠ (.slice Ao49 t715.length co49 : Value).ownBlock) (Kd.R_keptB (HO713.out) hkp (fun k_ hk_ hs_ => (hk_.2.2.2.1) hs_)) (fun k_ hk_ => ⟨hk_.1.1, hk_.1.2.1, hk_.1.2.2.1, hk_.1.2.2.2.1, hk_.1.2.2.2.2⟩)); have n8_ := Aside0.mk (Kd.R_mono (ok' := fun k_ => some k_ ≠ (.slice Ao33 t682.length co33 : Value).ownBlock ∧ some k_ ≠ (.slice Ao34 t690.length co34 : Value).ownBlock ∧ some k_ ≠ (.slice Ao40 t696.length co40 : Value).ownBlock ∧ some k_ ≠ (.slice Ao41 t699.length co41 : Value).ownBlock ∧ some k_ ≠ (.slice Ao47 t711.length co47 : Value).ownBlock) (Kd.R_keptB (HO717.out) hkp (fun k_ hk_ hs_ => (hk_.2.2.2.1) hs_)) (fun k_ hk_ => ⟨hk_.1.1, hk_.1.2.1, hk_.1.2.2.1, hk_.1.2.2.2.1, hk_.1.2.2.2.2⟩)); have n9_ := Aside0.mk (hb); clear BK681; clear HO684; clear HO692; clear HO695; clear HO698; clear HO701; clear HO709; clear HO713; clear HO717; clear HB; have BK681 := n0_; have HO684 := n1_; have HO692 := n2_; have HO695 := n3_; have HO698 := n4_; have HO701 := n5_; have HO709 := n6_; have HO713 := n7_; have HO717 := n8_; have HB := n9_; clear n0_ n1_ n2_ n3_ n4_ n5_ n6_ n7_ n8_ n9_; (try clear hb); (try clear hkp); (try clear hy0)))
      (try simp only [Act.put, List.setIfInBounds_toArray, List.set_cons_zero, List.set_cons_succ])
      go_cut [68] (fun v68 wc => ∃ (kq : Nat) (x68_26 : Bool), v68 = .bool x68_26 ∧ Aside0 (laws_FnExactEmit.j0 kq l0 a2 l3 t693 t707 x68_26 a1_0 a1_1 a1_2 a1_3 a1_4 = some r) ∧ Aside0 (kq ≤ k) ∧ Aside0 (Kd.R k46 46 wc w.heap.size (fun k_ => some k_ ≠ ((.slice Ao43 t707.length co43) : Value).ownBlock) (.slice Ao44 t693.length co44) t693) ∧ Aside0 (Kd.R k46 46 wc w.heap.size (fun k_ => some k_ ≠ ((.slice Ao44 t693.length co44) : Value).ownBlock) (.slice Ao43 t707.length co43) t707) ∧ Aside0 (wc.heap[gb681]? = some (.cells #[.int .i64 a1_0, .int .i64 a1_1, .int .i64 a1_2, .int .i64 a1_3, .int .i64 a1_4] 82 (0, 0))) ∧ Aside0 (Below w.heap.size w wc))
      case first =>
       have H := HC27.out
       clear HC27
       by_cases c52 : t721 < 0
       ·rw [if_pos c52] at H
        have c52b0 := decide_eq_true c52
        clear c52
        (first | rw [c52b0] | (simp only [i64_w, i32_w]; rw [c52b0]) | skip)
        have H' := Aside0.mk H
        clear H
        go_wp2
        go_meet
        case rel => exact ⟨_, (true), (by first | rfl | (simp; done) | (simp [*]; done)), H', ⟨by first | omega | exact Nat.le_refl _⟩, ⟨att16_0_5⟩, ⟨att16_0_13⟩, ⟨att16_0_2⟩, ⟨att16_0_0⟩⟩
       ·rw [if_neg c52] at H
        have c52b0 := decide_eq_false c52
        clear c52
        (first | rw [c52b0] | (simp only [i64_w, i32_w]; rw [c52b0]) | skip)
        replace H := Option.bind_eq_some_iff.mp H
        obtain ⟨t723, A530, H⟩ := H
        (try dsimp only at H)
        have A53 := Aside0.mk A530
        clear A530
        have H' := Aside0.mk H
        clear H
        go_wp2_with (first | (go_at_call 68; (with_reducible refine (laws_eqStepS.calls k _ _ t707 _ _ t693 t723 _ ?side1 ?side2 ?side3 ?side4 A53.out).mono ?_); (case side1 => repeat (first | exact (Kd.R_reads' HO709.out).2.2 | (with_reducible refine Kd.C_alloc ?_ _) | (with_reducible refine Kd.C_drewN ?_ _) | (with_reducible refine Kd.C_drew ?_))); (case side2 => exact (Kd.R_reads' HO709.out).2.1); (case side3 => repeat (first | exact (Kd.R_reads' HO695.out).2.2 | (with_reducible refine Kd.C_alloc ?_ _) | (with_reducible refine Kd.C_drewN ?_ _) | (with_reducible refine Kd.C_drew ?_))); (case side4 => exact (Kd.R_reads' HO695.out).2.1); rintro e w54 ⟨rfl, hb⟩; have n0_ := Aside0.mk (Kd.R_below att16_0_3 hb); have n1_ := Aside0.mk (Kd.R_below att16_0_4 hb); have n2_ := Aside0.mk (Kd.R_below att16_0_5 hb); have n3_ := Aside0.mk (Kd.R_below att16_0_6 hb); have n4_ := Aside0.mk (Kd.R_below att16_0_9 hb); have n5_ := Aside0.mk (Kd.R_below att16_0_13 hb); have n6_ := Aside0.mk (Kd.R_below att16_0_15 hb); have n7_ := Aside0.mk (Kd.R_below (by exact toR_ (HO717.out)) hb); have n8_ := Aside0.mk (blk_below (g := gb681) (o := .cells #[.int .i64 a1_0, .int .i64 a1_1, .int .i64 a1_2, .int .i64 a1_3, .int .i64 a1_4] 82 (0, 0)) att16_0_2 hb); have n9_ := Aside0.mk (below_step att16_0_0 hb); clear HO684; clear HO692; clear HO695; clear HO698; clear HO701; clear HO709; clear HO713; clear HO717; clear BK681; clear HB; have HO684 := n0_; have HO692 := n1_; have HO695 := n2_; have HO698 := n3_; have HO701 := n4_; have HO709 := n5_; have HO713 := n6_; have HO717 := n7_; have BK681 := n8_; have HB := n9_; clear n0_ n1_ n2_ n3_ n4_ n5_ n6_ n7_ n8_ n9_; (try clear hb); (try clear hb2); (try clear hk); (try clear hi)))
        go_meet
        case rel => exact ⟨_, (!t723), (by first | rfl | (simp; done) | (simp [*]; done)), H', ⟨by first | omega | exact Nat.le_refl _⟩, ⟨att16_0_5⟩, ⟨att16_0_13⟩, ⟨att16_0_2⟩, ⟨att16_0_0⟩⟩
      case rest =>
       clear HC27
       try clear c1
       try clear c2
       try clear p2
       try clear c3
       try clear c5
       try clear c5b0
       try clear c5b1
       try clear c6
       try clear c7
       try clear c7b0
       try clear c7b1
       try clear c11
       try clear c18
       try clear c21
       try clear c22
       try clear c23
       try clear c24
       try clear c36
       try clear c38
       try clear c39
       try clear c52
       try clear c52b0
       try clear hcz38_0 hcz38_1 hcz38_2 hcz38_3 hcz38_4 hfz38_0 hfz38_1 hfz38_2 hfz38_3 hfz38_4
       obtain ⟨kq, x68_26, rfl, HA, HJ26, HO_9, HO_12, BK681, HB⟩ := hcut
       cases kq with
       | zero => exact absurd HA.out (by simp [laws_FnExactEmit.j0])
       | succ kj26 =>
        have H := HA.out
        clear HA
        simp only [laws_FnExactEmit.j0] at H
        by_cases c55 : x68_26 = true
        ·subst c55
         rw [if_pos rfl] at H
         obtain rfl := Option.some.inj H
         go_wp2
         go_ret
         exact ⟨retT_, att16_0_0⟩
        ·replace c55 := Bool.eq_false_iff.mpr c55
         subst c55
         rw [if_neg (show ¬ (false = true) by decide)] at H
         replace H := Option.bind_eq_some_iff.mp H
         obtain ⟨⟨t724, t725⟩, A560, H⟩ := H
         (try dsimp only at H)
         have A56 := Aside0.mk A560
         clear A560
         replace H := Option.bind_eq_some_iff.mp H
         obtain ⟨t726, A570, H⟩ := H
         (try dsimp only at H)
         have A57 := Aside0.mk A570
         clear A570
         by_cases c58 : t726 < 0
         ·rw [if_pos c58] at H
          have c58b0 := decide_eq_true c58
          clear c58
          obtain rfl := Option.some.inj H
          go_wp2_with (first | ((with_reducible refine gate_callee (f := 69) rfl ?_); refine goesL_ (some 71) rfl rfl Try.func69 (by kernel_rfl) rfl #[.slice Ao43 t707.length co43, .int .i64 1] rfl atgM_ ?_; (with_reducible refine (laws_markStepS.calls kj26 (fun k_ => some k_ = (.slice Ao43 t707.length co43 : Value).ownBlock) (.slice Ao43 t707.length co43) t707 1 t724 t725 w _ ?side1 ?side2 A56.out).mono ?_); (case side1 => repeat (first | (with_reducible first | exact HB.out | apply below_alloc | apply pw_below_drewN | apply below_drew1 | refine below_set ?_ GE681.out) | exact HB.out)); (case side2 => exact Kd.R_tight rfl HO_12.out); rintro e w59 ⟨rfl, hy0, hb, hkp⟩; refine ⟨_, rfl, ?_⟩; refine swap4_ (Kd.R_mono (ok' := fun k_ => some k_ ≠ (.slice Ao43 t707.length co43 : Value).ownBlock) (Kd.R_keptB (HO_9.out) hkp (fun k_ hk_ hs_ => (hk_) hs_)) (fun k_ hk_ => hk_.1)) (Kd.R_reok rfl hy0 (fun k_ e_ => HO_12.out.1 k_ e_)) (blk_kept att16_0_2 hkp (fun hs_ => (fun e_ => (Kd.R_ne HO_12.out BK681.out (by decide)) e_) hs_)) (hb) ?_; clear HO_9 HO_12 BK681 HB; intro HO_9 HO_12 BK681 HB; (try clear hb); (try clear hkp); (try clear hy0)) | ((with_reducible refine gate_callee (f := 70) rfl ?_); refine goesL_ (some 74) rfl rfl Try.func70 (by kernel_rfl) rfl #[.slice Ao43 t725.length co43, .int .i64 1] rfl att16_0_12 ?_; (with_reducible refine (laws_heldStepS.calls kj26 _ _ t725 1 t726 _ ?side1 ?side2 A57.out).mono ?_); (case side1 => repeat (first | exact (Kd.R_reads' HO_12.out).2.2 | (with_reducible refine Kd.C_alloc ?_ _) | (with_reducible refine Kd.C_drewN ?_ _) | (with_reducible refine Kd.C_drew ?_))); (case side2 => rw [show t725.length = t707.length from (Kd.R_reads' HO_12.out).1.symm]; exact (Kd.R_reads' HO_12.out).2.1); rintro e w' ⟨rfl, ⟨nd, rfl⟩⟩; refine ⟨_, rfl, ?_⟩))
          go_ret
          exact ⟨retT_, att16_0_0⟩
         ·rw [if_neg c58] at H
          have c58b0 := decide_eq_false c58
          clear c58
          by_cases c60 : t726 = t724
          ·rw [if_pos c60] at H
           have c60b0 := beq_iff_eq.mpr c60
           have c60b1 := bne_eq_false_iff_eq.mpr c60
           clear c60
           replace H := Option.bind_eq_some_iff.mp H
           obtain ⟨t727, A610, H⟩ := H
           (try dsimp only at H)
           have A61 := Aside0.mk A610
           clear A610
           replace H := Option.bind_eq_some_iff.mp H
           obtain ⟨⟨t730, t731, t732, t733, t734⟩, A620, H⟩ := H
           (try dsimp only at H)
           have A62 := Aside0.mk A620
           clear A620
           replace H := Option.bind_eq_some_iff.mp H
           obtain ⟨t735, A630, H⟩ := H
           (try dsimp only at H)
           have A63 := Aside0.mk A630
           clear A630
           replace H := Option.bind_eq_some_iff.mp H
           obtain ⟨t738, A640, H⟩ := H
           (try dsimp only at H)
           have A64 := Aside0.mk A640
           clear A640
           replace H := Option.bind_eq_some_iff.mp H
           obtain ⟨t741, A650, H⟩ := H
           (try dsimp only at H)
           have A65 := Aside0.mk A650
           clear A650
           by_cases c66 : t741 = true
           ·subst c66
            rw [if_pos rfl] at H
            replace H := Option.bind_eq_some_iff.mp H
            obtain ⟨t742, A670, H⟩ := H
            (try dsimp only at H)
            have A67 := Aside0.mk A670
            clear A670
            by_cases c68 : t742 < 0
            ·rw [if_pos c68] at H
             have c68b0 := decide_eq_true c68
             clear c68
             obtain rfl := Option.some.inj H
             try go_wp2_with (first | ((with_reducible refine gate_callee (f := 69) rfl ?_); refine goesL_ (some 71) rfl rfl Try.func69 (by kernel_rfl) rfl #[.slice Ao43 t707.length co43, .int .i64 1] rfl atgM_ ?_; (with_reducible refine (laws_markStepS.calls kj26 (fun k_ => some k_ = (.slice Ao43 t707.length co43 : Value).ownBlock) (.slice Ao43 t707.length co43) t707 1 t724 t725 w _ ?side1 ?side2 A56.out).mono ?_); (case side1 => repeat (first | (with_reducible first | exact HB.out | apply below_alloc | apply pw_below_drewN | apply below_drew1 | refine below_set ?_ GE681.out) | exact HB.out)); (case side2 => exact Kd.R_tight rfl HO_12.out); rintro e w69 ⟨rfl, hy0, hb, hkp⟩; refine ⟨_, rfl, ?_⟩; refine swap4_ (Kd.R_mono (ok' := fun k_ => some k_ ≠ (.slice Ao43 t707.length co43 : Value).ownBlock) (Kd.R_keptB (HO_9.out) hkp (fun k_ hk_ hs_ => (hk_) hs_)) (fun k_ hk_ => hk_.1)) (Kd.R_reok rfl hy0 (fun k_ e_ => HO_12.out.1 k_ e_)) (blk_kept att16_0_2 hkp (fun hs_ => (fun e_ => (Kd.R_ne HO_12.out BK681.out (by decide)) e_) hs_)) (hb) ?_; clear HO_9 HO_12 BK681 HB; intro HO_9 HO_12 BK681 HB; (try clear hb); (try clear hkp); (try clear hy0)) | ((with_reducible refine gate_callee (f := 70) rfl ?_); refine goesL_ (some 74) rfl rfl Try.func70 (by kernel_rfl) rfl #[.slice Ao43 t725.length co43, .int .i64 1] rfl att16_0_12 ?_; (with_reducible refine (laws_heldStepS.calls kj26 _ _ t725 1 t726 _ ?side1 ?side2 A57.out).mono ?_); (case side1 => repeat (first | exact (Kd.R_reads' HO_12.out).2.2 | (with_reducible refine Kd.C_alloc ?_ _) | (with_reducible refine Kd.C_drewN ?_ _) | (with_reducible refine Kd.C_drew ?_))); (case side2 => rw [show t725.length = t707.length from (Kd.R_reads' HO_12.out).1.symm]; exact (Kd.R_reads' HO_12.out).2.1); rintro e w' ⟨rfl, ⟨nd, rfl⟩⟩; refine ⟨_, rfl, ?_⟩))
             (try (rw [drewN_self w69]; generalize hq_ : World.drewN w69 _ = w69; refine swap4_ (show (Kd.R k46 46 w69 w.heap.size (fun k_ => some k_ ≠ (.slice Ao44 t693.length co44 : Value).ownBlock) (.slice Ao43 t707.length co43) t725) from att16_1_1) (show (Kd.R k46 46 w69 w.heap.size (fun k_ => some k_ ≠ (.slice Ao43 t707.length co43 : Value).ownBlock) (.slice Ao44 t693.length co44) t693) from att16_1_0) (show (w69.heap[gb681]? = some (.cells #[.int .i64 a1_0, .int .i64 a1_1, .int .i64 a1_2, .int .i64 a1_3, .int .i64 a1_4] 82 (0, 0))) from att16_1_2) (show (Below w.heap.size w w69) from att16_1_3) ?_; clear HO_12 HO_9 BK681 HB hq_; intro HO_12 HO_9 BK681 HB))
             have n0_ := Aside0.mk (Kd.R_drew HO_9.out)
             have n1_ := Aside0.mk (Kd.R_drew HO_12.out)
             have n2_ := Aside0.mk (blk_drew BK681.out)
             have n3_ := Aside0.mk (below_drew1 HB.out)
             clear HO_9
             clear HO_12
             clear BK681
             clear HB
             have HO_9 := n0_
             have HO_12 := n1_
             have BK681 := n2_
             have HB := n3_
             clear n0_ n1_ n2_ n3_
             refine start_ (n := 9) (S := fun w' => w'.cell? ⟨gb681, 0, none⟩ = some (.int .i64 a1_0) ∧ w'.cell? ⟨gb681, 1, none⟩ = some (.int .i64 a1_1) ∧ w'.cell? ⟨gb681, 2, none⟩ = some (.int .i64 a1_2) ∧ w'.cell? ⟨gb681, 3, none⟩ = some (.int .i64 a1_3) ∧ w'.cell? ⟨gb681, 4, none⟩ = some (.int .i64 a1_4)) (ds := []) (tf_ 0 9) (by kernel_rfl) rfl rfl ⟨(blk_cell BK681.out 0).trans rfl, (blk_cell BK681.out 1).trans rfl, (blk_cell BK681.out 2).trans rfl, (blk_cell BK681.out 3).trans rfl, (blk_cell BK681.out 4).trans rfl⟩ (fun hHeld => ?_); refine with_tabW laws_FnExactEmit.tab28 laws_FnExactEmit.bits28 (fun HT_ HW_ => ?_)
             generalize w69.drew = w70 at HO_9 HO_12 BK681 HB hHeld ⊢
             refine pureQ_ (i := 0) (N := some 80) (tf_ 1 8) (h := ?_)
             refine pureQ_ (i := 4) (N := some 84) #[true, false, false, false, true, false, false, false, false] (h := ?_)
             refine pureQ_ (i := 5) (N := some 85) #[true, false, false, false, true, true, false, false, false] (h := ?_)
             refine takeQ_ (i := 2) (N := some 82) #[true, false, true, false, true, true, false, false, false] hHeld (hy := Or.inl ⟨by rfl, att16_0_16⟩) (h := ?_)
             refine one_ (i := 1) (N := some 81) #[true, true, true, false, true, true, false, false, false] rfl rfl (one_of HT_.out (by kernel_rfl)) (by decide) (fun K hK => ?_)
             refine goes_ Try.func36 (by kernel_rfl) rfl #[.slice A0 l0.length c0] (by rfl) rfl rfl atgM_ ?_
             with_reducible refine (laws_toIntS.calls kj26 _ _ l0 t727 _ ?side1 ?side2 A61.out).mono ?_
             (case side1 => repeat (first | exact (Kd.C_below HR0.out HB.out) | (with_reducible refine Kd.C_alloc ?_ _) | (with_reducible refine Kd.C_drewN ?_ _) | (with_reducible refine Kd.C_drew ?_)))
             (case side2 => exact HC0.out)
             rintro e w71 ⟨v728, rfl, ho0, hb⟩
             refine ⟨_, rfl, ?_⟩
             have n0_ := Aside0.mk (Kd.R_below att16_0_8 hb)
             have n1_ := Aside0.mk (Kd.R_below att16_0_7 hb)
             have n2_ := Aside0.mk (Kd.R_lower ho0 (below_size att16_0_0))
             have n3_ := Aside0.mk (blk_below (g := gb681) (o := .cells #[.int .i64 a1_0, .int .i64 a1_1, .int .i64 a1_2, .int .i64 a1_3, .int .i64 a1_4] 82 (0, 0)) att16_0_2 hb)
             have n4_ := Aside0.mk (below_step att16_0_0 hb)
             clear HO_9
             clear HO_12
             clear BK681
             clear HB
             have HO_9 := n0_
             have HO_12 := n1_
             have HO729 := n2_
             have BK681 := n3_
             have HB := n4_
             clear n0_ n1_ n2_ n3_ n4_
             (try clear hb)
             (try clear hb2)
             (try clear hk)
             (try clear hi)
             (try clear ho0)
             refine hK.out _ _ ⟨(blk_cell BK681.out 0).trans rfl, (blk_cell BK681.out 1).trans rfl, (blk_cell BK681.out 2).trans rfl, (blk_cell BK681.out 3).trans rfl, (blk_cell BK681.out 4).trans rfl⟩ (fun hHeld => ?_)
             clear hK K
             refine normS_ (N := some 81) (h := ?_)
             refine one_ (i := 3) (N := some 83) (tf_ 6 3) rfl rfl (one_of HT_.out (by kernel_rfl)) (by decide) (fun K hK => ?_)
             refine goes_ Try.func67 (by kernel_rfl) rfl #[.agg #[.int .i64 a1_0, .int .i64 a1_1, .int .i64 a1_2, .int .i64 a1_3, .int .i64 a1_4]] (by rfl) rfl rfl atgM_ ?_
             with_reducible refine (laws_toIns.calls a1_0 a1_1 a1_2 a1_3 a1_4 t730 t731 t732 t733 t734 _ A62.out).mono ?_
             rintro e w72 ⟨rfl, hb⟩
             refine ⟨_, rfl, ?_⟩
             have n0_ := Aside0.mk (Kd.R_below att16_0_8 hb)
             have n1_ := Aside0.mk (Kd.R_below att16_0_7 hb)
             have n2_ := Aside0.mk (Kd.R_below att16_0_11 hb)
             have n3_ := Aside0.mk (blk_below (g := gb681) (o := .cells #[.int .i64 a1_0, .int .i64 a1_1, .int .i64 a1_2, .int .i64 a1_3, .int .i64 a1_4] 82 (0, 0)) att16_0_2 hb)
             have n4_ := Aside0.mk (below_step att16_0_0 hb)
             clear HO_9
             clear HO_12
             clear HO729
             clear BK681
             clear HB
             have HO_9 := n0_
             have HO_12 := n1_
             have HO729 := n2_
             have BK681 := n3_
             have HB := n4_
             clear n0_ n1_ n2_ n3_ n4_
             (try clear hb)
             (try clear hb2)
             (try clear hk)
             (try clear hi)
             refine hK.out _ _ ⟨(blk_cell BK681.out 0).trans rfl, (blk_cell BK681.out 1).trans rfl, (blk_cell BK681.out 2).trans rfl, (blk_cell BK681.out 3).trans rfl, (blk_cell BK681.out 4).trans rfl⟩ (fun hHeld => ?_)
             clear hK K
             refine normS_ (N := some 83) (h := ?_)
             refine one_ (i := 6) (N := some 86) (tf_ 7 2) rfl rfl (one_of HT_.out (by kernel_rfl)) (by decide) (fun K hK => ?_)
             refine goes_ Try.func36 (by kernel_rfl) rfl #[.slice A3 l3.length c3] (by rfl) rfl rfl atgM_ ?_
             with_reducible refine (laws_toIntS.calls kj26 _ _ l3 t735 _ ?side1 ?side2 A63.out).mono ?_
             (case side1 => repeat (first | exact (Kd.C_below HR3.out HB.out) | (with_reducible refine Kd.C_alloc ?_ _) | (with_reducible refine Kd.C_drewN ?_ _) | (with_reducible refine Kd.C_drew ?_)))
             (case side2 => exact HC3.out)
             rintro e w73 ⟨v736, rfl, ho0, hb⟩
             refine ⟨_, rfl, ?_⟩
             have n0_ := Aside0.mk (Kd.R_below att16_0_8 hb)
             have n1_ := Aside0.mk (Kd.R_below att16_0_7 hb)
             have n2_ := Aside0.mk (Kd.R_elder' att16_0_11 (Kd.R_base ho0) hb)
             have n3_ := Aside0.mk (Kd.R_lower (Kd.R_new' ho0 (Kd.R_lt att16_0_11)) (below_size att16_0_0))
             have n4_ := Aside0.mk (blk_below (g := gb681) (o := .cells #[.int .i64 a1_0, .int .i64 a1_1, .int .i64 a1_2, .int .i64 a1_3, .int .i64 a1_4] 82 (0, 0)) att16_0_2 hb)
             have n5_ := Aside0.mk (below_step att16_0_0 hb)
             clear HO_9
             clear HO_12
             clear HO729
             clear BK681
             clear HB
             have HO_9 := n0_
             have HO_12 := n1_
             have HO729 := n2_
             have HO737 := n3_
             have BK681 := n4_
             have HB := n5_
             clear n0_ n1_ n2_ n3_ n4_ n5_
             (try clear hb)
             (try clear hb2)
             (try clear hk)
             (try clear hi)
             (try clear ho0)
             obtain ⟨Ao74, co74, eo74⟩ := Kd.R_slice HO729.out
             (first | subst eo74 | (injection eo74 with f1_ f2_ f3_; have f4_ := f1_.symm; have f5_ := f3_.symm; clear f1_ f2_ f3_; subst f4_; subst f5_))
             obtain ⟨Ao75, co75, eo75⟩ := Kd.R_slice HO737.out
             (first | subst eo75 | (injection eo75 with f1_ f2_ f3_; have f4_ := f1_.symm; have f5_ := f3_.symm; clear f1_ f2_ f3_; subst f4_; subst f5_))
             refine hK.out _ _ ⟨(blk_cell BK681.out 0).trans rfl, (blk_cell BK681.out 1).trans rfl, (blk_cell BK681.out 2).trans rfl, (blk_cell BK681.out 3).trans rfl, (blk_cell BK681.out 4).trans rfl⟩ (fun hHeld => ?_)
             clear hK K
             refine normS_ (N := some 86) (h := ?_)
             refine one_ (i := 7) (N := some 87) (tf_ 8 1) rfl rfl (one_of HT_.out (by kernel_rfl)) (by decide) (fun K hK => ?_)
             refine goes_ Try.func22 (by kernel_rfl) rfl #[.slice Ao74 t727.length co74, .agg #[.int .i64 t730, .int .i64 t731, .int .i64 t732, .int .i64 t733, .int .i64 t734], .int .i64 a2, .slice Ao75 t735.length co75] (by rfl) rfl rfl atgM_ ?_
             with_reducible refine (impl_Emit.calls kj26 _ _ t727 t730 t731 t732 t733 t734 a2 _ _ t735 t738 _ ?side1 ?side2 ?side3 ?side4 A64.out).mono ?_
             (case side1 => repeat (first | exact (Kd.R_reads' HO729.out).2.2 | (with_reducible refine Kd.C_alloc ?_ _) | (with_reducible refine Kd.C_drewN ?_ _) | (with_reducible refine Kd.C_drew ?_)))
             (case side2 => exact (Kd.R_reads' HO729.out).2.1)
             (case side3 => repeat (first | exact (Kd.R_reads' HO737.out).2.2 | (with_reducible refine Kd.C_alloc ?_ _) | (with_reducible refine Kd.C_drewN ?_ _) | (with_reducible refine Kd.C_drew ?_)))
             (case side4 => exact (Kd.R_reads' HO737.out).2.1)
             rintro e w76 ⟨v739, rfl, ho0, hb⟩
             refine ⟨_, rfl, ?_⟩
             have n0_ := Aside0.mk (Kd.R_elder' att16_0_8 (Kd.R_base ho0) hb)
             have n1_ := Aside0.mk (Kd.R_elder' att16_0_7 (Kd.R_base ho0) hb)
             have n2_ := Aside0.mk (Kd.R_below att16_0_11 hb)
             have n3_ := Aside0.mk (Kd.R_below att16_0_14 hb)
             have n4_ := Aside0.mk (Kd.R_lower (Kd.R_new' (Kd.R_new' ho0 (Kd.R_lt att16_0_8)) (Kd.R_lt att16_0_7)) (below_size att16_0_0))
             have n5_ := Aside0.mk (blk_below (g := gb681) (o := .cells #[.int .i64 a1_0, .int .i64 a1_1, .int .i64 a1_2, .int .i64 a1_3, .int .i64 a1_4] 82 (0, 0)) att16_0_2 hb)
             have n6_ := Aside0.mk (below_step att16_0_0 hb)
             clear HO_9
             clear HO_12
             clear HO729
             clear HO737
             clear BK681
             clear HB
             have HO_9 := n0_
             have HO_12 := n1_
             have HO729 := n2_
             have HO737 := n3_
             have HO740 := n4_
             have BK681 := n5_
             have HB := n6_
             clear n0_ n1_ n2_ n3_ n4_ n5_ n6_
             (try clear hb)
             (try clear hb2)
             (try clear hk)
             (try clear hi)
             (try clear ho0)
             refine hK.out _ _ ⟨(blk_cell BK681.out 0).trans rfl, (blk_cell BK681.out 1).trans rfl, (blk_cell BK681.out 2).trans rfl, (blk_cell BK681.out 3).trans rfl, (blk_cell BK681.out 4).trans rfl⟩ (fun hHeld => ?_)
             clear hK K
             refine normS_ (N := some 87) (h := ?_)
             refine pureQ_ (i := 8) (N := some 16) (tf_ 9 0) (h := ?_)
             refine done_ (done_of HT_.out (by kernel_rfl)) ?_
             obtain ⟨Ao77, co77, eo77⟩ := Kd.R_slice HO740.out
             subst eo77
             try go_wp2_with (first | ((with_reducible refine gate_callee (f := 68) rfl ?_); refine goesL_ (some 90) rfl rfl Try.func68 (by kernel_rfl) rfl #[.slice Ao77 t738.length co77, .slice Ao44 t693.length co44] rfl atgM_ ?_; (with_reducible refine (laws_eqStepS.calls kj26 _ _ t738 _ _ t693 true _ ?side1 ?side2 ?side3 ?side4 A65.out).mono ?_); (case side1 => repeat (first | exact (Kd.R_reads' HO740.out).2.2 | (with_reducible refine Kd.C_alloc ?_ _) | (with_reducible refine Kd.C_drewN ?_ _) | (with_reducible refine Kd.C_drew ?_))); (case side2 => exact (Kd.R_reads' HO740.out).2.1); (case side3 => repeat (first | exact (Kd.R_reads' HO_9.out).2.2 | (with_reducible refine Kd.C_alloc ?_ _) | (with_reducible refine Kd.C_drewN ?_ _) | (with_reducible refine Kd.C_drew ?_))); (case side4 => exact (Kd.R_reads' HO_9.out).2.1); rintro e w78 ⟨rfl, hb⟩; refine ⟨_, rfl, ?_⟩; refine swap7_ (Kd.R_below att16_0_8 hb) (Kd.R_below att16_0_7 hb) (Kd.R_below att16_0_11 hb) (Kd.R_below att16_0_14 hb) (Kd.R_below att16_0_17 hb) (blk_below (g := gb681) (o := .cells #[.int .i64 a1_0, .int .i64 a1_1, .int .i64 a1_2, .int .i64 a1_3, .int .i64 a1_4] 82 (0, 0)) att16_0_2 hb) (below_step att16_0_0 hb) ?_; clear HO_9 HO_12 HO729 HO737 HO740 BK681 HB; intro HO_9 HO_12 HO729 HO737 HO740 BK681 HB; (try clear hb); (try clear hb2); (try clear hk); (try clear hi)) | ((with_reducible refine gate_callee (f := 70) rfl ?_); refine goesL_ (some 94) rfl rfl Try.func70 (by kernel_rfl) rfl #[.slice Ao43 t725.length co43, .int .i64 1] rfl att16_0_12 ?_; (with_reducible refine (laws_heldStepS.calls kj26 _ _ t725 1 t742 _ ?side1 ?side2 A67.out).mono ?_); (case side1 => repeat (first | exact (Kd.R_reads' HO_12.out).2.2 | (with_reducible refine Kd.C_alloc ?_ _) | (with_reducible refine Kd.C_drewN ?_ _) | (with_reducible refine Kd.C_drew ?_))); (case side2 => rw [show t725.length = t707.length from (Kd.R_reads' HO_12.out).1.symm]; exact (Kd.R_reads' HO_12.out).2.1); rintro e w' ⟨rfl, ⟨nd, rfl⟩⟩; refine ⟨_, rfl, ?_⟩))
             go_ret
             exact ⟨retT_, att16_0_0⟩
            ·rw [if_neg c68] at H
             have c68b0 := decide_eq_false c68
             clear c68
             by_cases c79 : t742 = t724
             ·rw [if_pos c79] at H
              have c79b0 := beq_iff_eq.mpr c79
              have c79b1 := bne_eq_false_iff_eq.mpr c79
              clear c79
              obtain rfl := Option.some.inj H
              try go_wp2_with (first | ((with_reducible refine gate_callee (f := 69) rfl ?_); refine goesL_ (some 71) rfl rfl Try.func69 (by kernel_rfl) rfl #[.slice Ao43 t707.length co43, .int .i64 1] rfl atgM_ ?_; (with_reducible refine (laws_markStepS.calls kj26 (fun k_ => some k_ = (.slice Ao43 t707.length co43 : Value).ownBlock) (.slice Ao43 t707.length co43) t707 1 t724 t725 w _ ?side1 ?side2 A56.out).mono ?_); (case side1 => repeat (first | (with_reducible first | exact HB.out | apply below_alloc | apply pw_below_drewN | apply below_drew1 | refine below_set ?_ GE681.out) | exact HB.out)); (case side2 => exact Kd.R_tight rfl HO_12.out); rintro e w80 ⟨rfl, hy0, hb, hkp⟩; refine ⟨_, rfl, ?_⟩; refine swap4_ (Kd.R_mono (ok' := fun k_ => some k_ ≠ (.slice Ao43 t707.length co43 : Value).ownBlock) (Kd.R_keptB (HO_9.out) hkp (fun k_ hk_ hs_ => (hk_) hs_)) (fun k_ hk_ => hk_.1)) (Kd.R_reok rfl hy0 (fun k_ e_ => HO_12.out.1 k_ e_)) (blk_kept att16_0_2 hkp (fun hs_ => (fun e_ => (Kd.R_ne HO_12.out BK681.out (by decide)) e_) hs_)) (hb) ?_; clear HO_9 HO_12 BK681 HB; intro HO_9 HO_12 BK681 HB; (try clear hb); (try clear hkp); (try clear hy0)) | ((with_reducible refine gate_callee (f := 70) rfl ?_); refine goesL_ (some 74) rfl rfl Try.func70 (by kernel_rfl) rfl #[.slice Ao43 t725.length co43, .int .i64 1] rfl att16_0_12 ?_; (with_reducible refine (laws_heldStepS.calls kj26 _ _ t725 1 t726 _ ?side1 ?side2 A57.out).mono ?_); (case side1 => repeat (first | exact (Kd.R_reads' HO_12.out).2.2 | (with_reducible refine Kd.C_alloc ?_ _) | (with_reducible refine Kd.C_drewN ?_ _) | (with_reducible refine Kd.C_drew ?_))); (case side2 => rw [show t725.length = t707.length from (Kd.R_reads' HO_12.out).1.symm]; exact (Kd.R_reads' HO_12.out).2.1); rintro e w' ⟨rfl, ⟨nd, rfl⟩⟩; refine ⟨_, rfl, ?_⟩))
              (try (rw [drewN_self w80]; generalize hq_ : World.drewN w80 _ = w80; refine swap4_ (show (Kd.R k46 46 w80 w.heap.size (fun k_ => some k_ ≠ (.slice Ao44 t693.length co44 : Value).ownBlock) (.slice Ao43 t707.length co43) t725) from att16_1_1) (show (Kd.R k46 46 w80 w.heap.size (fun k_ => some k_ ≠ (.slice Ao43 t707.length co43 : Value).ownBlock) (.slice Ao44 t693.length co44) t693) from att16_1_0) (show (w80.heap[gb681]? = some (.cells #[.int .i64 a1_0, .int .i64 a1_1, .int .i64 a1_2, .int .i64 a1_3, .int .i64 a1_4] 82 (0, 0))) from att16_1_2) (show (Below w.heap.size w w80) from att16_1_3) ?_; clear HO_12 HO_9 BK681 HB hq_; intro HO_12 HO_9 BK681 HB))
              have n0_ := Aside0.mk (Kd.R_drew HO_9.out)
              have n1_ := Aside0.mk (Kd.R_drew HO_12.out)
              have n2_ := Aside0.mk (blk_drew BK681.out)
              have n3_ := Aside0.mk (below_drew1 HB.out)
              clear HO_9
              clear HO_12
              clear BK681
              clear HB
              have HO_9 := n0_
              have HO_12 := n1_
              have BK681 := n2_
              have HB := n3_
              clear n0_ n1_ n2_ n3_
              refine start_ (n := 9) (S := fun w' => w'.cell? ⟨gb681, 0, none⟩ = some (.int .i64 a1_0) ∧ w'.cell? ⟨gb681, 1, none⟩ = some (.int .i64 a1_1) ∧ w'.cell? ⟨gb681, 2, none⟩ = some (.int .i64 a1_2) ∧ w'.cell? ⟨gb681, 3, none⟩ = some (.int .i64 a1_3) ∧ w'.cell? ⟨gb681, 4, none⟩ = some (.int .i64 a1_4)) (ds := []) (tf_ 0 9) (by kernel_rfl) rfl rfl ⟨(blk_cell BK681.out 0).trans rfl, (blk_cell BK681.out 1).trans rfl, (blk_cell BK681.out 2).trans rfl, (blk_cell BK681.out 3).trans rfl, (blk_cell BK681.out 4).trans rfl⟩ (fun hHeld => ?_); refine with_tabW laws_FnExactEmit.tab28 laws_FnExactEmit.bits28 (fun HT_ HW_ => ?_)
              generalize w80.drew = w81 at HO_9 HO_12 BK681 HB hHeld ⊢
              refine pureQ_ (i := 0) (N := some 80) (tf_ 1 8) (h := ?_)
              refine pureQ_ (i := 4) (N := some 84) #[true, false, false, false, true, false, false, false, false] (h := ?_)
              refine pureQ_ (i := 5) (N := some 85) #[true, false, false, false, true, true, false, false, false] (h := ?_)
              refine takeQ_ (i := 2) (N := some 82) #[true, false, true, false, true, true, false, false, false] hHeld (hy := Or.inl ⟨by rfl, att16_0_16⟩) (h := ?_)
              refine one_ (i := 1) (N := some 81) #[true, true, true, false, true, true, false, false, false] rfl rfl (one_of HT_.out (by kernel_rfl)) (by decide) (fun K hK => ?_)
              refine goes_ Try.func36 (by kernel_rfl) rfl #[.slice A0 l0.length c0] (by rfl) rfl rfl atgM_ ?_
              with_reducible refine (laws_toIntS.calls kj26 _ _ l0 t727 _ ?side1 ?side2 A61.out).mono ?_
              (case side1 => repeat (first | exact (Kd.C_below HR0.out HB.out) | (with_reducible refine Kd.C_alloc ?_ _) | (with_reducible refine Kd.C_drewN ?_ _) | (with_reducible refine Kd.C_drew ?_)))
              (case side2 => exact HC0.out)
              rintro e w82 ⟨v728, rfl, ho0, hb⟩
              refine ⟨_, rfl, ?_⟩
              have n0_ := Aside0.mk (Kd.R_below att16_0_8 hb)
              have n1_ := Aside0.mk (Kd.R_below att16_0_7 hb)
              have n2_ := Aside0.mk (Kd.R_lower ho0 (below_size att16_0_0))
              have n3_ := Aside0.mk (blk_below (g := gb681) (o := .cells #[.int .i64 a1_0, .int .i64 a1_1, .int .i64 a1_2, .int .i64 a1_3, .int .i64 a1_4] 82 (0, 0)) att16_0_2 hb)
              have n4_ := Aside0.mk (below_step att16_0_0 hb)
              clear HO_9
              clear HO_12
              clear BK681
              clear HB
              have HO_9 := n0_
              have HO_12 := n1_
              have HO729 := n2_
              have BK681 := n3_
              have HB := n4_
              clear n0_ n1_ n2_ n3_ n4_
              (try clear hb)
              (try clear hb2)
              (try clear hk)
              (try clear hi)
              (try clear ho0)
              refine hK.out _ _ ⟨(blk_cell BK681.out 0).trans rfl, (blk_cell BK681.out 1).trans rfl, (blk_cell BK681.out 2).trans rfl, (blk_cell BK681.out 3).trans rfl, (blk_cell BK681.out 4).trans rfl⟩ (fun hHeld => ?_)
              clear hK K
              refine normS_ (N := some 81) (h := ?_)
              refine one_ (i := 3) (N := some 83) (tf_ 6 3) rfl rfl (one_of HT_.out (by kernel_rfl)) (by decide) (fun K hK => ?_)
              refine goes_ Try.func67 (by kernel_rfl) rfl #[.agg #[.int .i64 a1_0, .int .i64 a1_1, .int .i64 a1_2, .int .i64 a1_3, .int .i64 a1_4]] (by rfl) rfl rfl atgM_ ?_
              with_reducible refine (laws_toIns.calls a1_0 a1_1 a1_2 a1_3 a1_4 t730 t731 t732 t733 t734 _ A62.out).mono ?_
              rintro e w83 ⟨rfl, hb⟩
              refine ⟨_, rfl, ?_⟩
              have n0_ := Aside0.mk (Kd.R_below att16_0_8 hb)
              have n1_ := Aside0.mk (Kd.R_below att16_0_7 hb)
              have n2_ := Aside0.mk (Kd.R_below att16_0_11 hb)
              have n3_ := Aside0.mk (blk_below (g := gb681) (o := .cells #[.int .i64 a1_0, .int .i64 a1_1, .int .i64 a1_2, .int .i64 a1_3, .int .i64 a1_4] 82 (0, 0)) att16_0_2 hb)
              have n4_ := Aside0.mk (below_step att16_0_0 hb)
              clear HO_9
              clear HO_12
              clear HO729
              clear BK681
              clear HB
              have HO_9 := n0_
              have HO_12 := n1_
              have HO729 := n2_
              have BK681 := n3_
              have HB := n4_
              clear n0_ n1_ n2_ n3_ n4_
              (try clear hb)
              (try clear hb2)
              (try clear hk)
              (try clear hi)
              refine hK.out _ _ ⟨(blk_cell BK681.out 0).trans rfl, (blk_cell BK681.out 1).trans rfl, (blk_cell BK681.out 2).trans rfl, (blk_cell BK681.out 3).trans rfl, (blk_cell BK681.out 4).trans rfl⟩ (fun hHeld => ?_)
              clear hK K
              refine normS_ (N := some 83) (h := ?_)
              refine one_ (i := 6) (N := some 86) (tf_ 7 2) rfl rfl (one_of HT_.out (by kernel_rfl)) (by decide) (fun K hK => ?_)
              refine goes_ Try.func36 (by kernel_rfl) rfl #[.slice A3 l3.length c3] (by rfl) rfl rfl atgM_ ?_
              with_reducible refine (laws_toIntS.calls kj26 _ _ l3 t735 _ ?side1 ?side2 A63.out).mono ?_
              (case side1 => repeat (first | exact (Kd.C_below HR3.out HB.out) | (with_reducible refine Kd.C_alloc ?_ _) | (with_reducible refine Kd.C_drewN ?_ _) | (with_reducible refine Kd.C_drew ?_)))
              (case side2 => exact HC3.out)
              rintro e w84 ⟨v736, rfl, ho0, hb⟩
              refine ⟨_, rfl, ?_⟩
              have n0_ := Aside0.mk (Kd.R_below att16_0_8 hb)
              have n1_ := Aside0.mk (Kd.R_below att16_0_7 hb)
              have n2_ := Aside0.mk (Kd.R_elder' att16_0_11 (Kd.R_base ho0) hb)
              have n3_ := Aside0.mk (Kd.R_lower (Kd.R_new' ho0 (Kd.R_lt att16_0_11)) (below_size att16_0_0))
              have n4_ := Aside0.mk (blk_below (g := gb681) (o := .cells #[.int .i64 a1_0, .int .i64 a1_1, .int .i64 a1_2, .int .i64 a1_3, .int .i64 a1_4] 82 (0, 0)) att16_0_2 hb)
              have n5_ := Aside0.mk (below_step att16_0_0 hb)
              clear HO_9
              clear HO_12
              clear HO729
              clear BK681
              clear HB
              have HO_9 := n0_
              have HO_12 := n1_
              have HO729 := n2_
              have HO737 := n3_
              have BK681 := n4_
              have HB := n5_
              clear n0_ n1_ n2_ n3_ n4_ n5_
              (try clear hb)
              (try clear hb2)
              (try clear hk)
              (try clear hi)
              (try clear ho0)
              obtain ⟨Ao85, co85, eo85⟩ := Kd.R_slice HO729.out
              (first | subst eo85 | (injection eo85 with f1_ f2_ f3_; have f4_ := f1_.symm; have f5_ := f3_.symm; clear f1_ f2_ f3_; subst f4_; subst f5_))
              obtain ⟨Ao86, co86, eo86⟩ := Kd.R_slice HO737.out
              (first | subst eo86 | (injection eo86 with f1_ f2_ f3_; have f4_ := f1_.symm; have f5_ := f3_.symm; clear f1_ f2_ f3_; subst f4_; subst f5_))
              refine hK.out _ _ ⟨(blk_cell BK681.out 0).trans rfl, (blk_cell BK681.out 1).trans rfl, (blk_cell BK681.out 2).trans rfl, (blk_cell BK681.out 3).trans rfl, (blk_cell BK681.out 4).trans rfl⟩ (fun hHeld => ?_)
              clear hK K
              refine normS_ (N := some 86) (h := ?_)
              refine one_ (i := 7) (N := some 87) (tf_ 8 1) rfl rfl (one_of HT_.out (by kernel_rfl)) (by decide) (fun K hK => ?_)
              refine goes_ Try.func22 (by kernel_rfl) rfl #[.slice Ao85 t727.length co85, .agg #[.int .i64 t730, .int .i64 t731, .int .i64 t732, .int .i64 t733, .int .i64 t734], .int .i64 a2, .slice Ao86 t735.length co86] (by rfl) rfl rfl atgM_ ?_
              with_reducible refine (impl_Emit.calls kj26 _ _ t727 t730 t731 t732 t733 t734 a2 _ _ t735 t738 _ ?side1 ?side2 ?side3 ?side4 A64.out).mono ?_
              (case side1 => repeat (first | exact (Kd.R_reads' HO729.out).2.2 | (with_reducible refine Kd.C_alloc ?_ _) | (with_reducible refine Kd.C_drewN ?_ _) | (with_reducible refine Kd.C_drew ?_)))
              (case side2 => exact (Kd.R_reads' HO729.out).2.1)
              (case side3 => repeat (first | exact (Kd.R_reads' HO737.out).2.2 | (with_reducible refine Kd.C_alloc ?_ _) | (with_reducible refine Kd.C_drewN ?_ _) | (with_reducible refine Kd.C_drew ?_)))
              (case side4 => exact (Kd.R_reads' HO737.out).2.1)
              rintro e w87 ⟨v739, rfl, ho0, hb⟩
              refine ⟨_, rfl, ?_⟩
              have n0_ := Aside0.mk (Kd.R_elder' att16_0_8 (Kd.R_base ho0) hb)
              have n1_ := Aside0.mk (Kd.R_elder' att16_0_7 (Kd.R_base ho0) hb)
              have n2_ := Aside0.mk (Kd.R_below att16_0_11 hb)
              have n3_ := Aside0.mk (Kd.R_below att16_0_14 hb)
              have n4_ := Aside0.mk (Kd.R_lower (Kd.R_new' (Kd.R_new' ho0 (Kd.R_lt att16_0_8)) (Kd.R_lt att16_0_7)) (below_size att16_0_0))
              have n5_ := Aside0.mk (blk_below (g := gb681) (o := .cells #[.int .i64 a1_0, .int .i64 a1_1, .int .i64 a1_2, .int .i64 a1_3, .int .i64 a1_4] 82 (0, 0)) att16_0_2 hb)
              have n6_ := Aside0.mk (below_step att16_0_0 hb)
              clear HO_9
              clear HO_12
              clear HO729
              clear HO737
              clear BK681
              clear HB
              have HO_9 := n0_
              have HO_12 := n1_
              have HO729 := n2_
              have HO737 := n3_
              have HO740 := n4_
              have BK681 := n5_
              have HB := n6_
              clear n0_ n1_ n2_ n3_ n4_ n5_ n6_
              (try clear hb)
              (try clear hb2)
              (try clear hk)
              (try clear hi)
              (try clear ho0)
              refine hK.out _ _ ⟨(blk_cell BK681.out 0).trans rfl, (blk_cell BK681.out 1).trans rfl, (blk_cell BK681.out 2).trans rfl, (blk_cell BK681.out 3).trans rfl, (blk_cell BK681.out 4).trans rfl⟩ (fun hHeld => ?_)
              clear hK K
              refine normS_ (N := some 87) (h := ?_)
              refine pureQ_ (i := 8) (N := some 16) (tf_ 9 0) (h := ?_)
              refine done_ (done_of HT_.out (by kernel_rfl)) ?_
              obtain ⟨Ao88, co88, eo88⟩ := Kd.R_slice HO740.out
              subst eo88
              try go_wp2_with (first | ((with_reducible refine gate_callee (f := 68) rfl ?_); refine goesL_ (some 90) rfl rfl Try.func68 (by kernel_rfl) rfl #[.slice Ao88 t738.length co88, .slice Ao44 t693.length co44] rfl atgM_ ?_; (with_reducible refine (laws_eqStepS.calls kj26 _ _ t738 _ _ t693 true _ ?side1 ?side2 ?side3 ?side4 A65.out).mono ?_); (case side1 => repeat (first | exact (Kd.R_reads' HO740.out).2.2 | (with_reducible refine Kd.C_alloc ?_ _) | (with_reducible refine Kd.C_drewN ?_ _) | (with_reducible refine Kd.C_drew ?_))); (case side2 => exact (Kd.R_reads' HO740.out).2.1); (case side3 => repeat (first | exact (Kd.R_reads' HO_9.out).2.2 | (with_reducible refine Kd.C_alloc ?_ _) | (with_reducible refine Kd.C_drewN ?_ _) | (with_reducible refine Kd.C_drew ?_))); (case side4 => exact (Kd.R_reads' HO_9.out).2.1); rintro e w89 ⟨rfl, hb⟩; refine ⟨_, rfl, ?_⟩; refine swap7_ (Kd.R_below att16_0_8 hb) (Kd.R_below att16_0_7 hb) (Kd.R_below att16_0_11 hb) (Kd.R_below att16_0_14 hb) (Kd.R_below att16_0_17 hb) (blk_below (g := gb681) (o := .cells #[.int .i64 a1_0, .int .i64 a1_1, .int .i64 a1_2, .int .i64 a1_3, .int .i64 a1_4] 82 (0, 0)) att16_0_2 hb) (below_step att16_0_0 hb) ?_; clear HO_9 HO_12 HO729 HO737 HO740 BK681 HB; intro HO_9 HO_12 HO729 HO737 HO740 BK681 HB; (try clear hb); (try clear hb2); (try clear hk); (try clear hi)) | ((with_reducible refine gate_callee (f := 70) rfl ?_); refine goesL_ (some 94) rfl rfl Try.func70 (by kernel_rfl) rfl #[.slice Ao43 t725.length co43, .int .i64 1] rfl att16_0_12 ?_; (with_reducible refine (laws_heldStepS.calls kj26 _ _ t725 1 t742 _ ?side1 ?side2 A67.out).mono ?_); (case side1 => repeat (first | exact (Kd.R_reads' HO_12.out).2.2 | (with_reducible refine Kd.C_alloc ?_ _) | (with_reducible refine Kd.C_drewN ?_ _) | (with_reducible refine Kd.C_drew ?_))); (case side2 => rw [show t725.length = t707.length from (Kd.R_reads' HO_12.out).1.symm]; exact (Kd.R_reads' HO_12.out).2.1); rintro e w' ⟨rfl, ⟨nd, rfl⟩⟩; refine ⟨_, rfl, ?_⟩))
              go_ret
              exact ⟨retT_, att16_0_0⟩
             ·rw [if_neg c79] at H
              have c79b0 := beq_eq_false_iff_ne.mpr c79
              have c79b1 := bne_iff_ne.mpr c79
              obtain rfl := Option.some.inj H
              try go_wp2_with (first | ((with_reducible refine gate_callee (f := 69) rfl ?_); refine goesL_ (some 71) rfl rfl Try.func69 (by kernel_rfl) rfl #[.slice Ao43 t707.length co43, .int .i64 1] rfl atgM_ ?_; (with_reducible refine (laws_markStepS.calls kj26 (fun k_ => some k_ = (.slice Ao43 t707.length co43 : Value).ownBlock) (.slice Ao43 t707.length co43) t707 1 t724 t725 w _ ?side1 ?side2 A56.out).mono ?_); (case side1 => repeat (first | (with_reducible first | exact HB.out | apply below_alloc | apply pw_below_drewN | apply below_drew1 | refine below_set ?_ GE681.out) | exact HB.out)); (case side2 => exact Kd.R_tight rfl HO_12.out); rintro e w90 ⟨rfl, hy0, hb, hkp⟩; refine ⟨_, rfl, ?_⟩; refine swap4_ (Kd.R_mono (ok' := fun k_ => some k_ ≠ (.slice Ao43 t707.length co43 : Value).ownBlock) (Kd.R_keptB (HO_9.out) hkp (fun k_ hk_ hs_ => (hk_) hs_)) (fun k_ hk_ => hk_.1)) (Kd.R_reok rfl hy0 (fun k_ e_ => HO_12.out.1 k_ e_)) (blk_kept att16_0_2 hkp (fun hs_ => (fun e_ => (Kd.R_ne HO_12.out BK681.out (by decide)) e_) hs_)) (hb) ?_; clear HO_9 HO_12 BK681 HB; intro HO_9 HO_12 BK681 HB; (try clear hb); (try clear hkp); (try clear hy0)) | ((with_reducible refine gate_callee (f := 70) rfl ?_); refine goesL_ (some 74) rfl rfl Try.func70 (by kernel_rfl) rfl #[.slice Ao43 t725.length co43, .int .i64 1] rfl att16_0_12 ?_; (with_reducible refine (laws_heldStepS.calls kj26 _ _ t725 1 t726 _ ?side1 ?side2 A57.out).mono ?_); (case side1 => repeat (first | exact (Kd.R_reads' HO_12.out).2.2 | (with_reducible refine Kd.C_alloc ?_ _) | (with_reducible refine Kd.C_drewN ?_ _) | (with_reducible refine Kd.C_drew ?_))); (case side2 => rw [show t725.length = t707.length from (Kd.R_reads' HO_12.out).1.symm]; exact (Kd.R_reads' HO_12.out).2.1); rintro e w' ⟨rfl, ⟨nd, rfl⟩⟩; refine ⟨_, rfl, ?_⟩))
              (try (rw [drewN_self w90]; generalize hq_ : World.drewN w90 _ = w90; refine swap4_ (show (Kd.R k46 46 w90 w.heap.size (fun k_ => some k_ ≠ (.slice Ao44 t693.length co44 : Value).ownBlock) (.slice Ao43 t707.length co43) t725) from att16_1_1) (show (Kd.R k46 46 w90 w.heap.size (fun k_ => some k_ ≠ (.slice Ao43 t707.length co43 : Value).ownBlock) (.slice Ao44 t693.length co44) t693) from att16_1_0) (show (w90.heap[gb681]? = some (.cells #[.int .i64 a1_0, .int .i64 a1_1, .int .i64 a1_2, .int .i64 a1_3, .int .i64 a1_4] 82 (0, 0))) from att16_1_2) (show (Below w.heap.size w w90) from att16_1_3) ?_; clear HO_12 HO_9 BK681 HB hq_; intro HO_12 HO_9 BK681 HB))
              have n0_ := Aside0.mk (Kd.R_drew HO_9.out)
              have n1_ := Aside0.mk (Kd.R_drew HO_12.out)
              have n2_ := Aside0.mk (blk_drew BK681.out)
              have n3_ := Aside0.mk (below_drew1 HB.out)
              clear HO_9
              clear HO_12
              clear BK681
              clear HB
              have HO_9 := n0_
              have HO_12 := n1_
              have BK681 := n2_
              have HB := n3_
              clear n0_ n1_ n2_ n3_
              refine start_ (n := 9) (S := fun w' => w'.cell? ⟨gb681, 0, none⟩ = some (.int .i64 a1_0) ∧ w'.cell? ⟨gb681, 1, none⟩ = some (.int .i64 a1_1) ∧ w'.cell? ⟨gb681, 2, none⟩ = some (.int .i64 a1_2) ∧ w'.cell? ⟨gb681, 3, none⟩ = some (.int .i64 a1_3) ∧ w'.cell? ⟨gb681, 4, none⟩ = some (.int .i64 a1_4)) (ds := []) (tf_ 0 9) (by kernel_rfl) rfl rfl ⟨(blk_cell BK681.out 0).trans rfl, (blk_cell BK681.out 1).trans rfl, (blk_cell BK681.out 2).trans rfl, (blk_cell BK681.out 3).trans rfl, (blk_cell BK681.out 4).trans rfl⟩ (fun hHeld => ?_); refine with_tabW laws_FnExactEmit.tab28 laws_FnExactEmit.bits28 (fun HT_ HW_ => ?_)
              generalize w90.drew = w91 at HO_9 HO_12 BK681 HB hHeld ⊢
              refine pureQ_ (i := 0) (N := some 80) (tf_ 1 8) (h := ?_)
              refine pureQ_ (i := 4) (N := some 84) #[true, false, false, false, true, false, false, false, false] (h := ?_)
              refine pureQ_ (i := 5) (N := some 85) #[true, false, false, false, true, true, false, false, false] (h := ?_)
              refine takeQ_ (i := 2) (N := some 82) #[true, false, true, false, true, true, false, false, false] hHeld (hy := Or.inl ⟨by rfl, att16_0_16⟩) (h := ?_)
              refine one_ (i := 1) (N := some 81) #[true, true, true, false, true, true, false, false, false] rfl rfl (one_of HT_.out (by kernel_rfl)) (by decide) (fun K hK => ?_)
              refine goes_ Try.func36 (by kernel_rfl) rfl #[.slice A0 l0.length c0] (by rfl) rfl rfl atgM_ ?_
              with_reducible refine (laws_toIntS.calls kj26 _ _ l0 t727 _ ?side1 ?side2 A61.out).mono ?_
              (case side1 => repeat (first | exact (Kd.C_below HR0.out HB.out) | (with_reducible refine Kd.C_alloc ?_ _) | (with_reducible refine Kd.C_drewN ?_ _) | (with_reducible refine Kd.C_drew ?_)))
              (case side2 => exact HC0.out)
              rintro e w92 ⟨v728, rfl, ho0, hb⟩
              refine ⟨_, rfl, ?_⟩
              have n0_ := Aside0.mk (Kd.R_below att16_0_8 hb)
              have n1_ := Aside0.mk (Kd.R_below att16_0_7 hb)
              have n2_ := Aside0.mk (Kd.R_lower ho0 (below_size att16_0_0))
              have n3_ := Aside0.mk (blk_below (g := gb681) (o := .cells #[.int .i64 a1_0, .int .i64 a1_1, .int .i64 a1_2, .int .i64 a1_3, .int .i64 a1_4] 82 (0, 0)) att16_0_2 hb)
              have n4_ := Aside0.mk (below_step att16_0_0 hb)
              clear HO_9
              clear HO_12
              clear BK681
              clear HB
              have HO_9 := n0_
              have HO_12 := n1_
              have HO729 := n2_
              have BK681 := n3_
              have HB := n4_
              clear n0_ n1_ n2_ n3_ n4_
              (try clear hb)
              (try clear hb2)
              (try clear hk)
              (try clear hi)
              (try clear ho0)
              refine hK.out _ _ ⟨(blk_cell BK681.out 0).trans rfl, (blk_cell BK681.out 1).trans rfl, (blk_cell BK681.out 2).trans rfl, (blk_cell BK681.out 3).trans rfl, (blk_cell BK681.out 4).trans rfl⟩ (fun hHeld => ?_)
              clear hK K
              refine normS_ (N := some 81) (h := ?_)
              refine one_ (i := 3) (N := some 83) (tf_ 6 3) rfl rfl (one_of HT_.out (by kernel_rfl)) (by decide) (fun K hK => ?_)
              refine goes_ Try.func67 (by kernel_rfl) rfl #[.agg #[.int .i64 a1_0, .int .i64 a1_1, .int .i64 a1_2, .int .i64 a1_3, .int .i64 a1_4]] (by rfl) rfl rfl atgM_ ?_
              with_reducible refine (laws_toIns.calls a1_0 a1_1 a1_2 a1_3 a1_4 t730 t731 t732 t733 t734 _ A62.out).mono ?_
              rintro e w93 ⟨rfl, hb⟩
              refine ⟨_, rfl, ?_⟩
              have n0_ := Aside0.mk (Kd.R_below att16_0_8 hb)
              have n1_ := Aside0.mk (Kd.R_below att16_0_7 hb)
              have n2_ := Aside0.mk (Kd.R_below att16_0_11 hb)
              have n3_ := Aside0.mk (blk_below (g := gb681) (o := .cells #[.int .i64 a1_0, .int .i64 a1_1, .int .i64 a1_2, .int .i64 a1_3, .int .i64 a1_4] 82 (0, 0)) att16_0_2 hb)
              have n4_ := Aside0.mk (below_step att16_0_0 hb)
              clear HO_9
              clear HO_12
              clear HO729
              clear BK681
              clear HB
              have HO_9 := n0_
              have HO_12 := n1_
              have HO729 := n2_
              have BK681 := n3_
              have HB := n4_
              clear n0_ n1_ n2_ n3_ n4_
              (try clear hb)
              (try clear hb2)
              (try clear hk)
              (try clear hi)
              refine hK.out _ _ ⟨(blk_cell BK681.out 0).trans rfl, (blk_cell BK681.out 1).trans rfl, (blk_cell BK681.out 2).trans rfl, (blk_cell BK681.out 3).trans rfl, (blk_cell BK681.out 4).trans rfl⟩ (fun hHeld => ?_)
              clear hK K
              refine normS_ (N := some 83) (h := ?_)
              refine one_ (i := 6) (N := some 86) (tf_ 7 2) rfl rfl (one_of HT_.out (by kernel_rfl)) (by decide) (fun K hK => ?_)
              refine goes_ Try.func36 (by kernel_rfl) rfl #[.slice A3 l3.length c3] (by rfl) rfl rfl atgM_ ?_
              with_reducible refine (laws_toIntS.calls kj26 _ _ l3 t735 _ ?side1 ?side2 A63.out).mono ?_
              (case side1 => repeat (first | exact (Kd.C_below HR3.out HB.out) | (with_reducible refine Kd.C_alloc ?_ _) | (with_reducible refine Kd.C_drewN ?_ _) | (with_reducible refine Kd.C_drew ?_)))
              (case side2 => exact HC3.out)
              rintro e w94 ⟨v736, rfl, ho0, hb⟩
              refine ⟨_, rfl, ?_⟩
              have n0_ := Aside0.mk (Kd.R_below att16_0_8 hb)
              have n1_ := Aside0.mk (Kd.R_below att16_0_7 hb)
              have n2_ := Aside0.mk (Kd.R_elder' att16_0_11 (Kd.R_base ho0) hb)
              have n3_ := Aside0.mk (Kd.R_lower (Kd.R_new' ho0 (Kd.R_lt att16_0_11)) (below_size att16_0_0))
              have n4_ := Aside0.mk (blk_below (g := gb681) (o := .cells #[.int .i64 a1_0, .int .i64 a1_1, .int .i64 a1_2, .int .i64 a1_3, .int .i64 a1_4] 82 (0, 0)) att16_0_2 hb)
              have n5_ := Aside0.mk (below_step att16_0_0 hb)
              clear HO_9
              clear HO_12
              clear HO729
              clear BK681
              clear HB
              have HO_9 := n0_
              have HO_12 := n1_
              have HO729 := n2_
              have HO737 := n3_
              have BK681 := n4_
              have HB := n5_
              clear n0_ n1_ n2_ n3_ n4_ n5_
              (try clear hb)
              (try clear hb2)
              (try clear hk)
              (try clear hi)
              (try clear ho0)
              obtain ⟨Ao95, co95, eo95⟩ := Kd.R_slice HO729.out
              (first | subst eo95 | (injection eo95 with f1_ f2_ f3_; have f4_ := f1_.symm; have f5_ := f3_.symm; clear f1_ f2_ f3_; subst f4_; subst f5_))
              obtain ⟨Ao96, co96, eo96⟩ := Kd.R_slice HO737.out
              (first | subst eo96 | (injection eo96 with f1_ f2_ f3_; have f4_ := f1_.symm; have f5_ := f3_.symm; clear f1_ f2_ f3_; subst f4_; subst f5_))
              refine hK.out _ _ ⟨(blk_cell BK681.out 0).trans rfl, (blk_cell BK681.out 1).trans rfl, (blk_cell BK681.out 2).trans rfl, (blk_cell BK681.out 3).trans rfl, (blk_cell BK681.out 4).trans rfl⟩ (fun hHeld => ?_)
              clear hK K
              refine normS_ (N := some 86) (h := ?_)
              refine one_ (i := 7) (N := some 87) (tf_ 8 1) rfl rfl (one_of HT_.out (by kernel_rfl)) (by decide) (fun K hK => ?_)
              refine goes_ Try.func22 (by kernel_rfl) rfl #[.slice Ao95 t727.length co95, .agg #[.int .i64 t730, .int .i64 t731, .int .i64 t732, .int .i64 t733, .int .i64 t734], .int .i64 a2, .slice Ao96 t735.length co96] (by rfl) rfl rfl atgM_ ?_
              with_reducible refine (impl_Emit.calls kj26 _ _ t727 t730 t731 t732 t733 t734 a2 _ _ t735 t738 _ ?side1 ?side2 ?side3 ?side4 A64.out).mono ?_
              (case side1 => repeat (first | exact (Kd.R_reads' HO729.out).2.2 | (with_reducible refine Kd.C_alloc ?_ _) | (with_reducible refine Kd.C_drewN ?_ _) | (with_reducible refine Kd.C_drew ?_)))
              (case side2 => exact (Kd.R_reads' HO729.out).2.1)
              (case side3 => repeat (first | exact (Kd.R_reads' HO737.out).2.2 | (with_reducible refine Kd.C_alloc ?_ _) | (with_reducible refine Kd.C_drewN ?_ _) | (with_reducible refine Kd.C_drew ?_)))
              (case side4 => exact (Kd.R_reads' HO737.out).2.1)
              rintro e w97 ⟨v739, rfl, ho0, hb⟩
              refine ⟨_, rfl, ?_⟩
              have n0_ := Aside0.mk (Kd.R_elder' att16_0_8 (Kd.R_base ho0) hb)
              have n1_ := Aside0.mk (Kd.R_elder' att16_0_7 (Kd.R_base ho0) hb)
              have n2_ := Aside0.mk (Kd.R_below att16_0_11 hb)
              have n3_ := Aside0.mk (Kd.R_below att16_0_14 hb)
              have n4_ := Aside0.mk (Kd.R_lower (Kd.R_new' (Kd.R_new' ho0 (Kd.R_lt att16_0_8)) (Kd.R_lt att16_0_7)) (below_size att16_0_0))
              have n5_ := Aside0.mk (blk_below (g := gb681) (o := .cells #[.int .i64 a1_0, .int .i64 a1_1, .int .i64 a1_2, .int .i64 a1_3, .int .i64 a1_4] 82 (0, 0)) att16_0_2 hb)
              have n6_ := Aside0.mk (below_step att16_0_0 hb)
              clear HO_9
              clear HO_12
              clear HO729
              clear HO737
              clear BK681
              clear HB
              have HO_9 := n0_
              have HO_12 := n1_
              have HO729 := n2_
              have HO737 := n3_
              have HO740 := n4_
              have BK681 := n5_
              have HB := n6_
              clear n0_ n1_ n2_ n3_ n4_ n5_ n6_
              (try clear hb)
              (try clear hb2)
              (try clear hk)
              (try clear hi)
              (try clear ho0)
              refine hK.out _ _ ⟨(blk_cell BK681.out 0).trans rfl, (blk_cell BK681.out 1).trans rfl, (blk_cell BK681.out 2).trans rfl, (blk_cell BK681.out 3).trans rfl, (blk_cell BK681.out 4).trans rfl⟩ (fun hHeld => ?_)
              clear hK K
              refine normS_ (N := some 87) (h := ?_)
              refine pureQ_ (i := 8) (N := some 16) (tf_ 9 0) (h := ?_)
              refine done_ (done_of HT_.out (by kernel_rfl)) ?_
              obtain ⟨Ao98, co98, eo98⟩ := Kd.R_slice HO740.out
              subst eo98
              try go_wp2_with (first | ((with_reducible refine gate_callee (f := 68) rfl ?_); refine goesL_ (some 90) rfl rfl Try.func68 (by kernel_rfl) rfl #[.slice Ao98 t738.length co98, .slice Ao44 t693.length co44] rfl atgM_ ?_; (with_reducible refine (laws_eqStepS.calls kj26 _ _ t738 _ _ t693 true _ ?side1 ?side2 ?side3 ?side4 A65.out).mono ?_); (case side1 => repeat (first | exact (Kd.R_reads' HO740.out).2.2 | (with_reducible refine Kd.C_alloc ?_ _) | (with_reducible refine Kd.C_drewN ?_ _) | (with_reducible refine Kd.C_drew ?_))); (case side2 => exact (Kd.R_reads' HO740.out).2.1); (case side3 => repeat (first | exact (Kd.R_reads' HO_9.out).2.2 | (with_reducible refine Kd.C_alloc ?_ _) | (with_reducible refine Kd.C_drewN ?_ _) | (with_reducible refine Kd.C_drew ?_))); (case side4 => exact (Kd.R_reads' HO_9.out).2.1); rintro e w99 ⟨rfl, hb⟩; refine ⟨_, rfl, ?_⟩; refine swap7_ (Kd.R_below att16_0_8 hb) (Kd.R_below att16_0_7 hb) (Kd.R_below att16_0_11 hb) (Kd.R_below att16_0_14 hb) (Kd.R_below att16_0_17 hb) (blk_below (g := gb681) (o := .cells #[.int .i64 a1_0, .int .i64 a1_1, .int .i64 a1_2, .int .i64 a1_3, .int .i64 a1_4] 82 (0, 0)) att16_0_2 hb) (below_step att16_0_0 hb) ?_; clear HO_9 HO_12 HO729 HO737 HO740 BK681 HB; intro HO_9 HO_12 HO729 HO737 HO740 BK681 HB; (try clear hb); (try clear hb2); (try clear hk); (try clear hi)) | ((with_reducible refine gate_callee (f := 70) rfl ?_); refine goesL_ (some 94) rfl rfl Try.func70 (by kernel_rfl) rfl #[.slice Ao43 t725.length co43, .int .i64 1] rfl att16_0_12 ?_; (with_reducible refine (laws_heldStepS.calls kj26 _ _ t725 1 t742 _ ?side1 ?side2 A67.out).mono ?_); (case side1 => repeat (first | exact (Kd.R_reads' HO_12.out).2.2 | (with_reducible refine Kd.C_alloc ?_ _) | (with_reducible refine Kd.C_drewN ?_ _) | (with_reducible refine Kd.C_drew ?_))); (case side2 => rw [show t725.length = t707.length from (Kd.R_reads' HO_12.out).1.symm]; exact (Kd.R_reads' HO_12.out).2.1); rintro e w' ⟨rfl, ⟨nd, rfl⟩⟩; refine ⟨_, rfl, ?_⟩))
              go_ret
              exact ⟨retT_, att16_0_0⟩
           ·replace c66 := Bool.eq_false_iff.mpr c66
            subst c66
            rw [if_neg (show ¬ (false = true) by decide)] at H
            obtain rfl := Option.some.inj H
            try go_wp2_with (first | ((with_reducible refine gate_callee (f := 69) rfl ?_); refine goesL_ (some 71) rfl rfl Try.func69 (by kernel_rfl) rfl #[.slice Ao43 t707.length co43, .int .i64 1] rfl atgM_ ?_; (with_reducible refine (laws_markStepS.calls kj26 (fun k_ => some k_ = (.slice Ao43 t707.length co43 : Value).ownBlock) (.slice Ao43 t707.length co43) t707 1 t724 t725 w _ ?side1 ?side2 A56.out).mono ?_); (case side1 => repeat (first | (with_reducible first | exact HB.out | apply below_alloc | apply pw_below_drewN | apply below_drew1 | refine below_set ?_ GE681.out) | exact HB.out)); (case side2 => exact Kd.R_tight rfl HO_12.out); rintro e w100 ⟨rfl, hy0, hb, hkp⟩; refine ⟨_, rfl, ?_⟩; refine swap4_ (Kd.R_mono (ok' := fun k_ => some k_ ≠ (.slice Ao43 t707.length co43 : Value).ownBlock) (Kd.R_keptB (HO_9.out) hkp (fun k_ hk_ hs_ => (hk_) hs_)) (fun k_ hk_ => hk_.1)) (Kd.R_reok rfl hy0 (fun k_ e_ => HO_12.out.1 k_ e_)) (blk_kept att16_0_2 hkp (fun hs_ => (fun e_ => (Kd.R_ne HO_12.out BK681.out (by decide)) e_) hs_)) (hb) ?_; clear HO_9 HO_12 BK681 HB; intro HO_9 HO_12 BK681 HB; (try clear hb); (try clear hkp); (try clear hy0)) | ((with_reducible refine gate_callee (f := 70) rfl ?_); refine goesL_ (some 74) rfl rfl Try.func70 (by kernel_rfl) rfl #[.slice Ao43 t725.length co43, .int .i64 1] rfl att16_0_12 ?_; (with_reducible refine (laws_heldStepS.calls kj26 _ _ t725 1 t726 _ ?side1 ?side2 A57.out).mono ?_); (case side1 => repeat (first | exact (Kd.R_reads' HO_12.out).2.2 | (with_reducible refine Kd.C_alloc ?_ _) | (with_reducible refine Kd.C_drewN ?_ _) | (with_reducible refine Kd.C_drew ?_))); (case side2 => rw [show t725.length = t707.length from (Kd.R_reads' HO_12.out).1.symm]; exact (Kd.R_reads' HO_12.out).2.1); rintro e w' ⟨rfl, ⟨nd, rfl⟩⟩; refine ⟨_, rfl, ?_⟩))
            (try (rw [drewN_self w100]; generalize hq_ : World.drewN w100 _ = w100; refine swap4_ (show (Kd.R k46 46 w100 w.heap.size (fun k_ => some k_ ≠ (.slice Ao44 t693.length co44 : Value).ownBlock) (.slice Ao43 t707.length co43) t725) from att16_1_1) (show (Kd.R k46 46 w100 w.heap.size (fun k_ => some k_ ≠ (.slice Ao43 t707.length co43 : Value).ownBlock) (.slice Ao44 t693.length co44) t693) from att16_1_0) (show (w100.heap[gb681]? = some (.cells #[.int .i64 a1_0, .int .i64 a1_1, .int .i64 a1_2, .int .i64 a1_3, .int .i64 a1_4] 82 (0, 0))) from att16_1_2) (show (Below w.heap.size w w100) from att16_1_3) ?_; clear HO_12 HO_9 BK681 HB hq_; intro HO_12 HO_9 BK681 HB))
            have n0_ := Aside0.mk (Kd.R_drew HO_9.out)
            have n1_ := Aside0.mk (Kd.R_drew HO_12.out)
            have n2_ := Aside0.mk (blk_drew BK681.out)
            have n3_ := Aside0.mk (below_drew1 HB.out)
            clear HO_9
            clear HO_12
            clear BK681
            clear HB
            have HO_9 := n0_
            have HO_12 := n1_
            have BK681 := n2_
            have HB := n3_
            clear n0_ n1_ n2_ n3_
            refine start_ (n := 9) (S := fun w' => w'.cell? ⟨gb681, 0, none⟩ = some (.int .i64 a1_0) ∧ w'.cell? ⟨gb681, 1, none⟩ = some (.int .i64 a1_1) ∧ w'.cell? ⟨gb681, 2, none⟩ = some (.int .i64 a1_2) ∧ w'.cell? ⟨gb681, 3, none⟩ = some (.int .i64 a1_3) ∧ w'.cell? ⟨gb681, 4, none⟩ = some (.int .i64 a1_4)) (ds := []) (tf_ 0 9) (by kernel_rfl) rfl rfl ⟨(blk_cell BK681.out 0).trans rfl, (blk_cell BK681.out 1).trans rfl, (blk_cell BK681.out 2).trans rfl, (blk_cell BK681.out 3).trans rfl, (blk_cell BK681.out 4).trans rfl⟩ (fun hHeld => ?_); refine with_tabW laws_FnExactEmit.tab28 laws_FnExactEmit.bits28 (fun HT_ HW_ => ?_)
            generalize w100.drew = w101 at HO_9 HO_12 BK681 HB hHeld ⊢
            refine pureQ_ (i := 0) (N := some 80) (tf_ 1 8) (h := ?_)
            refine pureQ_ (i := 4) (N := some 84) #[true, false, false, false, true, false, false, false, false] (h := ?_)
            refine pureQ_ (i := 5) (N := some 85) #[true, false, false, false, true, true, false, false, false] (h := ?_)
            refine takeQ_ (i := 2) (N := some 82) #[true, false, true, false, true, true, false, false, false] hHeld (hy := Or.inl ⟨by rfl, att16_0_16⟩) (h := ?_)
            refine one_ (i := 1) (N := some 81) #[true, true, true, false, true, true, false, false, false] rfl rfl (one_of HT_.out (by kernel_rfl)) (by decide) (fun K hK => ?_)
            refine goes_ Try.func36 (by kernel_rfl) rfl #[.slice A0 l0.length c0] (by rfl) rfl rfl atgM_ ?_
            with_reducible refine (laws_toIntS.calls kj26 _ _ l0 t727 _ ?side1 ?side2 A61.out).mono ?_
            (case side1 => repeat (first | exact (Kd.C_below HR0.out HB.out) | (with_reducible refine Kd.C_alloc ?_ _) | (with_reducible refine Kd.C_drewN ?_ _) | (with_reducible refine Kd.C_drew ?_)))
            (case side2 => exact HC0.out)
            rintro e w102 ⟨v728, rfl, ho0, hb⟩
            refine ⟨_, rfl, ?_⟩
            have n0_ := Aside0.mk (Kd.R_below att16_0_8 hb)
            have n1_ := Aside0.mk (Kd.R_below att16_0_7 hb)
            have n2_ := Aside0.mk (Kd.R_lower ho0 (below_size att16_0_0))
            have n3_ := Aside0.mk (blk_below (g := gb681) (o := .cells #[.int .i64 a1_0, .int .i64 a1_1, .int .i64 a1_2, .int .i64 a1_3, .int .i64 a1_4] 82 (0, 0)) att16_0_2 hb)
            have n4_ := Aside0.mk (below_step att16_0_0 hb)
            clear HO_9
            clear HO_12
            clear BK681
            clear HB
            have HO_9 := n0_
            have HO_12 := n1_
            have HO729 := n2_
            have BK681 := n3_
            have HB := n4_
            clear n0_ n1_ n2_ n3_ n4_
            (try clear hb)
            (try clear hb2)
            (try clear hk)
            (try clear hi)
            (try clear ho0)
            refine hK.out _ _ ⟨(blk_cell BK681.out 0).trans rfl, (blk_cell BK681.out 1).trans rfl, (blk_cell BK681.out 2).trans rfl, (blk_cell BK681.out 3).trans rfl, (blk_cell BK681.out 4).trans rfl⟩ (fun hHeld => ?_)
            clear hK K
            refine normS_ (N := some 81) (h := ?_)
            refine one_ (i := 3) (N := some 83) (tf_ 6 3) rfl rfl (one_of HT_.out (by kernel_rfl)) (by decide) (fun K hK => ?_)
            refine goes_ Try.func67 (by kernel_rfl) rfl #[.agg #[.int .i64 a1_0, .int .i64 a1_1, .int .i64 a1_2, .int .i64 a1_3, .int .i64 a1_4]] (by rfl) rfl rfl atgM_ ?_
            with_reducible refine (laws_toIns.calls a1_0 a1_1 a1_2 a1_3 a1_4 t730 t731 t732 t733 t734 _ A62.out).mono ?_
            rintro e w103 ⟨rfl, hb⟩
            refine ⟨_, rfl, ?_⟩
            have n0_ := Aside0.mk (Kd.R_below att16_0_8 hb)
            have n1_ := Aside0.mk (Kd.R_below att16_0_7 hb)
            have n2_ := Aside0.mk (Kd.R_below att16_0_11 hb)
            have n3_ := Aside0.mk (blk_below (g := gb681) (o := .cells #[.int .i64 a1_0, .int .i64 a1_1, .int .i64 a1_2, .int .i64 a1_3, .int .i64 a1_4] 82 (0, 0)) att16_0_2 hb)
            have n4_ := Aside0.mk (below_step att16_0_0 hb)
            clear HO_9
            clear HO_12
            clear HO729
            clear BK681
            clear HB
            have HO_9 := n0_
            have HO_12 := n1_
            have HO729 := n2_
            have BK681 := n3_
            have HB := n4_
            clear n0_ n1_ n2_ n3_ n4_
            (try clear hb)
            (try clear hb2)
            (try clear hk)
            (try clear hi)
            refine hK.out _ _ ⟨(blk_cell BK681.out 0).trans rfl, (blk_cell BK681.out 1).trans rfl, (blk_cell BK681.out 2).trans rfl, (blk_cell BK681.out 3).trans rfl, (blk_cell BK681.out 4).trans rfl⟩ (fun hHeld => ?_)
            clear hK K
            refine normS_ (N := some 83) (h := ?_)
            refine one_ (i := 6) (N := some 86) (tf_ 7 2) rfl rfl (one_of HT_.out (by kernel_rfl)) (by decide) (fun K hK => ?_)
            refine goes_ Try.func36 (by kernel_rfl) rfl #[.slice A3 l3.length c3] (by rfl) rfl rfl atgM_ ?_
            with_reducible refine (laws_toIntS.calls kj26 _ _ l3 t735 _ ?side1 ?side2 A63.out).mono ?_
            (case side1 => repeat (first | exact (Kd.C_below HR3.out HB.out) | (with_reducible refine Kd.C_alloc ?_ _) | (with_reducible refine Kd.C_drewN ?_ _) | (with_reducible refine Kd.C_drew ?_)))
            (case side2 => exact HC3.out)
            rintro e w104 ⟨v736, rfl, ho0, hb⟩
            refine ⟨_, rfl, ?_⟩
            have n0_ := Aside0.mk (Kd.R_below att16_0_8 hb)
            have n1_ := Aside0.mk (Kd.R_below att16_0_7 hb)
            have n2_ := Aside0.mk (Kd.R_elder' att16_0_11 (Kd.R_base ho0) hb)
            have n3_ := Aside0.mk (Kd.R_lower (Kd.R_new' ho0 (Kd.R_lt att16_0_11)) (below_size att16_0_0))
            have n4_ := Aside0.mk (blk_below (g := gb681) (o := .cells #[.int .i64 a1_0, .int .i64 a1_1, .int .i64 a1_2, .int .i64 a1_3, .int .i64 a1_4] 82 (0, 0)) att16_0_2 hb)
            have n5_ := Aside0.mk (below_step att16_0_0 hb)
            clear HO_9
            clear HO_12
            clear HO729
            clear BK681
            clear HB
            have HO_9 := n0_
            have HO_12 := n1_
            have HO729 := n2_
            have HO737 := n3_
            have BK681 := n4_
            have HB := n5_
            clear n0_ n1_ n2_ n3_ n4_ n5_
            (try clear hb)
            (try clear hb2)
            (try clear hk)
            (try clear hi)
            (try clear ho0)
            obtain ⟨Ao105, co105, eo105⟩ := Kd.R_slice HO729.out
            (first | subst eo105 | (injection eo105 with f1_ f2_ f3_; have f4_ := f1_.symm; have f5_ := f3_.symm; clear f1_ f2_ f3_; subst f4_; subst f5_))
            obtain ⟨Ao106, co106, eo106⟩ := Kd.R_slice HO737.out
            (first | subst eo106 | (injection eo106 with f1_ f2_ f3_; have f4_ := f1_.symm; have f5_ := f3_.symm; clear f1_ f2_ f3_; subst f4_; subst f5_))
            refine hK.out _ _ ⟨(blk_cell BK681.out 0).trans rfl, (blk_cell BK681.out 1).trans rfl, (blk_cell BK681.out 2).trans rfl, (blk_cell BK681.out 3).trans rfl, (blk_cell BK681.out 4).trans rfl⟩ (fun hHeld => ?_)
            clear hK K
            refine normS_ (N := some 86) (h := ?_)
            refine one_ (i := 7) (N := some 87) (tf_ 8 1) rfl rfl (one_of HT_.out (by kernel_rfl)) (by decide) (fun K hK => ?_)
            refine goes_ Try.func22 (by kernel_rfl) rfl #[.slice Ao105 t727.length co105, .agg #[.int .i64 t730, .int .i64 t731, .int .i64 t732, .int .i64 t733, .int .i64 t734], .int .i64 a2, .slice Ao106 t735.length co106] (by rfl) rfl rfl atgM_ ?_
            with_reducible refine (impl_Emit.calls kj26 _ _ t727 t730 t731 t732 t733 t734 a2 _ _ t735 t738 _ ?side1 ?side2 ?side3 ?side4 A64.out).mono ?_
            (case side1 => repeat (first | exact (Kd.R_reads' HO729.out).2.2 | (with_reducible refine Kd.C_alloc ?_ _) | (with_reducible refine Kd.C_drewN ?_ _) | (with_reducible refine Kd.C_drew ?_)))
            (case side2 => exact (Kd.R_reads' HO729.out).2.1)
            (case side3 => repeat (first | exact (Kd.R_reads' HO737.out).2.2 | (with_reducible refine Kd.C_alloc ?_ _) | (with_reducible refine Kd.C_drewN ?_ _) | (with_reducible refine Kd.C_drew ?_)))
            (case side4 => exact (Kd.R_reads' HO737.out).2.1)
            rintro e w107 ⟨v739, rfl, ho0, hb⟩
            refine ⟨_, rfl, ?_⟩
            have n0_ := Aside0.mk (Kd.R_elder' att16_0_8 (Kd.R_base ho0) hb)
            have n1_ := Aside0.mk (Kd.R_elder' att16_0_7 (Kd.R_base ho0) hb)
            have n2_ := Aside0.mk (Kd.R_below att16_0_11 hb)
            have n3_ := Aside0.mk (Kd.R_below att16_0_14 hb)
            have n4_ := Aside0.mk (Kd.R_lower (Kd.R_new' (Kd.R_new' ho0 (Kd.R_lt att16_0_8)) (Kd.R_lt att16_0_7)) (below_size att16_0_0))
            have n5_ := Aside0.mk (blk_below (g := gb681) (o := .cells #[.int .i64 a1_0, .int .i64 a1_1, .int .i64 a1_2, .int .i64 a1_3, .int .i64 a1_4] 82 (0, 0)) att16_0_2 hb)
            have n6_ := Aside0.mk (below_step att16_0_0 hb)
            clear HO_9
            clear HO_12
            clear HO729
            clear HO737
            clear BK681
            clear HB
            have HO_9 := n0_
            have HO_12 := n1_
            have HO729 := n2_
            have HO737 := n3_
            have HO740 := n4_
            have BK681 := n5_
            have HB := n6_
            clear n0_ n1_ n2_ n3_ n4_ n5_ n6_
            (try clear hb)
            (try clear hb2)
            (try clear hk)
            (try clear hi)
            (try clear ho0)
            refine hK.out _ _ ⟨(blk_cell BK681.out 0).trans rfl, (blk_cell BK681.out 1).trans rfl, (blk_cell BK681.out 2).trans rfl, (blk_cell BK681.out 3).trans rfl, (blk_cell BK681.out 4).trans rfl⟩ (fun hHeld => ?_)
            clear hK K
            refine normS_ (N := some 87) (h := ?_)
            refine pureQ_ (i := 8) (N := some 16) (tf_ 9 0) (h := ?_)
            refine done_ (done_of HT_.out (by kernel_rfl)) ?_
            obtain ⟨Ao108, co108, eo108⟩ := Kd.R_slice HO740.out
            subst eo108
            try go_wp2_with (first | ((with_reducible refine gate_callee (f := 68) rfl ?_); refine goesL_ (some 90) rfl rfl Try.func68 (by kernel_rfl) rfl #[.slice Ao108 t738.length co108, .slice Ao44 t693.length co44] rfl atgM_ ?_; (with_reducible refine (laws_eqStepS.calls kj26 _ _ t738 _ _ t693 false _ ?side1 ?side2 ?side3 ?side4 A65.out).mono ?_); (case side1 => repeat (first | exact (Kd.R_reads' HO740.out).2.2 | (with_reducible refine Kd.C_alloc ?_ _) | (with_reducible refine Kd.C_drewN ?_ _) | (with_reducible refine Kd.C_drew ?_))); (case side2 => exact (Kd.R_reads' HO740.out).2.1); (case side3 => repeat (first | exact (Kd.R_reads' HO_9.out).2.2 | (with_reducible refine Kd.C_alloc ?_ _) | (with_reducible refine Kd.C_drewN ?_ _) | (with_reducible refine Kd.C_drew ?_))); (case side4 => exact (Kd.R_reads' HO_9.out).2.1); rintro e w109 ⟨rfl, hb⟩; refine ⟨_, rfl, ?_⟩; refine swap7_ (Kd.R_below att16_0_8 hb) (Kd.R_below att16_0_7 hb) (Kd.R_below att16_0_11 hb) (Kd.R_below att16_0_14 hb) (Kd.R_below att16_0_17 hb) (blk_below (g := gb681) (o := .cells #[.int .i64 a1_0, .int .i64 a1_1, .int .i64 a1_2, .int .i64 a1_3, .int .i64 a1_4] 82 (0, 0)) att16_0_2 hb) (below_step att16_0_0 hb) ?_; clear HO_9 HO_12 HO729 HO737 HO740 BK681 HB; intro HO_9 HO_12 HO729 HO737 HO740 BK681 HB; (try clear hb); (try clear hb2); (try clear hk); (try clear hi)))
            go_ret
            exact ⟨retT_, att16_0_0⟩
          ·rw [if_neg c60] at H
           have c60b0 := beq_eq_false_iff_ne.mpr c60
           have c60b1 := bne_iff_ne.mpr c60
           obtain rfl := Option.some.inj H
           go_wp2_with (first | ((with_reducible refine gate_callee (f := 69) rfl ?_); refine goesL_ (some 71) rfl rfl Try.func69 (by kernel_rfl) rfl #[.slice Ao43 t707.length co43, .int .i64 1] rfl atgM_ ?_; (with_reducible refine (laws_markStepS.calls kj26 (fun k_ => some k_ = (.slice Ao43 t707.length co43 : Value).ownBlock) (.slice Ao43 t707.length co43) t707 1 t724 t725 w _ ?side1 ?side2 A56.out).mono ?_); (case side1 => repeat (first | (with_reducible first | exact HB.out | apply below_alloc | apply pw_below_drewN | apply below_drew1 | refine below_set ?_ GE681.out) | exact HB.out)); (case side2 => exact Kd.R_tight rfl HO_12.out); rintro e w110 ⟨rfl, hy0, hb, hkp⟩; refine ⟨_, rfl, ?_⟩; refine swap4_ (Kd.R_mono (ok' := fun k_ => some k_ ≠ (.slice Ao43 t707.length co43 : Value).ownBlock) (Kd.R_keptB (HO_9.out) hkp (fun k_ hk_ hs_ => (hk_) hs_)) (fun k_ hk_ => hk_.1)) (Kd.R_reok rfl hy0 (fun k_ e_ => HO_12.out.1 k_ e_)) (blk_kept att16_0_2 hkp (fun hs_ => (fun e_ => (Kd.R_ne HO_12.out BK681.out (by decide)) e_) hs_)) (hb) ?_; clear HO_9 HO_12 BK681 HB; intro HO_9 HO_12 BK681 HB; (try clear hb); (try clear hkp); (try clear hy0)) | ((with_reducible refine gate_callee (f := 70) rfl ?_); refine goesL_ (some 74) rfl rfl Try.func70 (by kernel_rfl) rfl #[.slice Ao43 t725.length co43, .int .i64 1] rfl att16_0_12 ?_; (with_reducible refine (laws_heldStepS.calls kj26 _ _ t725 1 t726 _ ?side1 ?side2 A57.out).mono ?_); (case side1 => repeat (first | exact (Kd.R_reads' HO_12.out).2.2 | (with_reducible refine Kd.C_alloc ?_ _) | (with_reducible refine Kd.C_drewN ?_ _) | (with_reducible refine Kd.C_drew ?_))); (case side2 => rw [show t725.length = t707.length from (Kd.R_reads' HO_12.out).1.symm]; exact (Kd.R_reads' HO_12.out).2.1); rintro e w' ⟨rfl, ⟨nd, rfl⟩⟩; refine ⟨_, rfl, ?_⟩))
           go_ret
           exact ⟨retT_, att16_0_0⟩
     ·replace c24 := Bool.eq_false_iff.mpr c24
      subst c24
      rw [if_neg (show ¬ (false = true) by decide)] at H
      obtain rfl := Option.some.inj H
      go_enter Try.func11, Try.ntmps11
      try go_wp2_with (first | ((with_reducible refine gate_dst (N := 5) rfl ?_); refine box_event ?hg (N := 5) ?hd (cs := #[.int .i64 a1_0, .int .i64 a1_1, .int .i64 a1_2, .int .i64 a1_3, .int .i64 a1_4]) (t := 82) ?hr ?_; (case hd => rfl); (case hg => rfl); (case hr => first | (go_simp; done) | (go_simp; rfl)); intro gb681 hg w111 hbox hb; refine swap4_ (below_step atgB_ hb) (hbox) ((by rw [hg]; exact (below_size atgB_) : w.heap.size ≤ gb681)) ((by rw [hg]; exact (below_size atgB_) : w.heap.size ≤ gb681)) ?_; clear HB; intro HB BK681 GW681 GE681; clear hb hbox hg))
      have n0_ := Aside0.mk (blk_drew BK681.out)
      have n1_ := Aside0.mk (below_drew1 HB.out)
      clear BK681
      clear HB
      have BK681 := n0_
      have HB := n1_
      clear n0_ n1_
      refine start_ (n := 9) (S := fun w' => w'.cell? ⟨gb681, 0, none⟩ = some (.int .i64 a1_0) ∧ w'.cell? ⟨gb681, 1, none⟩ = some (.int .i64 a1_1) ∧ w'.cell? ⟨gb681, 2, none⟩ = some (.int .i64 a1_2) ∧ w'.cell? ⟨gb681, 3, none⟩ = some (.int .i64 a1_3) ∧ w'.cell? ⟨gb681, 4, none⟩ = some (.int .i64 a1_4)) (ds := []) (tf_ 0 9) (by kernel_rfl) rfl rfl ⟨(blk_cell BK681.out 0).trans rfl, (blk_cell BK681.out 1).trans rfl, (blk_cell BK681.out 2).trans rfl, (blk_cell BK681.out 3).trans rfl, (blk_cell BK681.out 4).trans rfl⟩ (fun hHeld => ?_); refine with_tabW laws_FnExactEmit.tab5 laws_FnExactEmit.bits5 (fun HT_ HW_ => ?_)
      generalize w111.drew = w112 at BK681 HB hHeld ⊢
      refine pureQ_ (i := 0) (N := some 23) (tf_ 1 8) (h := ?_)
      refine pureQ_ (i := 4) (N := some 27) #[true, false, false, false, true, false, false, false, false] (h := ?_)
      refine pureQ_ (i := 5) (N := some 28) #[true, false, false, false, true, true, false, false, false] (h := ?_)
      refine takeQ_ (i := 2) (N := some 25) #[true, false, true, false, true, true, false, false, false] hHeld (hy := Or.inl ⟨by rfl, att16_0_16⟩) (h := ?_)
      refine one_ (i := 1) (N := some 24) #[true, true, true, false, true, true, false, false, false] rfl rfl (one_of HT_.out (by kernel_rfl)) (by decide) (fun K hK => ?_)
      refine goes_ Try.func36 (by kernel_rfl) rfl #[.slice A0 l0.length c0] (by rfl) rfl rfl atgM_ ?_
      with_reducible refine (laws_toIntS.calls k _ _ l0 t682 _ ?side1 ?side2 A9.out).mono ?_
      (case side1 => repeat (first | exact (Kd.C_below HR0.out HB.out) | (with_reducible refine Kd.C_alloc ?_ _) | (with_reducible refine Kd.C_drewN ?_ _) | (with_reducible refine Kd.C_drew ?_)))
      (case side2 => exact HC0.out)
      rintro e w113 ⟨v683, rfl, ho0, hb⟩
      refine ⟨_, rfl, ?_⟩
      have n0_ := Aside0.mk (Kd.R_lower ho0 (below_size att16_0_0))
      have n1_ := Aside0.mk (blk_below (g := gb681) (o := .cells #[.int .i64 a1_0, .int .i64 a1_1, .int .i64 a1_2, .int .i64 a1_3, .int .i64 a1_4] 82 (0, 0)) att16_0_2 hb)
      have n2_ := Aside0.mk (below_step att16_0_0 hb)
      clear BK681
      clear HB
      have HO684 := n0_
      have BK681 := n1_
      have HB := n2_
      clear n0_ n1_ n2_
      (try clear hb)
      (try clear hb2)
      (try clear hk)
      (try clear hi)
      (try clear ho0)
      refine hK.out _ _ ⟨(blk_cell BK681.out 0).trans rfl, (blk_cell BK681.out 1).trans rfl, (blk_cell BK681.out 2).trans rfl, (blk_cell BK681.out 3).trans rfl, (blk_cell BK681.out 4).trans rfl⟩ (fun hHeld => ?_)
      clear hK K
      refine normS_ (N := some 24) (h := ?_)
      refine one_ (i := 3) (N := some 26) (tf_ 6 3) rfl rfl (one_of HT_.out (by kernel_rfl)) (by decide) (fun K hK => ?_)
      refine goes_ Try.func67 (by kernel_rfl) rfl #[.agg #[.int .i64 a1_0, .int .i64 a1_1, .int .i64 a1_2, .int .i64 a1_3, .int .i64 a1_4]] (by rfl) rfl rfl atgM_ ?_
      with_reducible refine (laws_toIns.calls a1_0 a1_1 a1_2 a1_3 a1_4 t685 t686 t687 t688 t689 _ A10.out).mono ?_
      rintro e w114 ⟨rfl, hb⟩
      refine ⟨_, rfl, ?_⟩
      have n0_ := Aside0.mk (Kd.R_below att16_0_3 hb)
      have n1_ := Aside0.mk (blk_below (g := gb681) (o := .cells #[.int .i64 a1_0, .int .i64 a1_1, .int .i64 a1_2, .int .i64 a1_3, .int .i64 a1_4] 82 (0, 0)) att16_0_2 hb)
      have n2_ := Aside0.mk (below_step att16_0_0 hb)
      clear HO684
      clear BK681
      clear HB
      have HO684 := n0_
      have BK681 := n1_
      have HB := n2_
      clear n0_ n1_ n2_
      (try clear hb)
      (try clear hb2)
      (try clear hk)
      (try clear hi)
      refine hK.out _ _ ⟨(blk_cell BK681.out 0).trans rfl, (blk_cell BK681.out 1).trans rfl, (blk_cell BK681.out 2).trans rfl, (blk_cell BK681.out 3).trans rfl, (blk_cell BK681.out 4).trans rfl⟩ (fun hHeld => ?_)
      clear hK K
      refine normS_ (N := some 26) (h := ?_)
      refine one_ (i := 6) (N := some 29) (tf_ 7 2) rfl rfl (one_of HT_.out (by kernel_rfl)) (by decide) (fun K hK => ?_)
      refine goes_ Try.func36 (by kernel_rfl) rfl #[.slice A3 l3.length c3] (by rfl) rfl rfl atgM_ ?_
      with_reducible refine (laws_toIntS.calls k _ _ l3 t690 _ ?side1 ?side2 A11.out).mono ?_
      (case side1 => repeat (first | exact (Kd.C_below HR3.out HB.out) | (with_reducible refine Kd.C_alloc ?_ _) | (with_reducible refine Kd.C_drewN ?_ _) | (with_reducible refine Kd.C_drew ?_)))
      (case side2 => exact HC3.out)
      rintro e w115 ⟨v691, rfl, ho0, hb⟩
      refine ⟨_, rfl, ?_⟩
      have n0_ := Aside0.mk (Kd.R_elder' att16_0_3 (Kd.R_base ho0) hb)
      have n1_ := Aside0.mk (Kd.R_lower (Kd.R_new' ho0 (Kd.R_lt att16_0_3)) (below_size att16_0_0))
      have n2_ := Aside0.mk (blk_below (g := gb681) (o := .cells #[.int .i64 a1_0, .int .i64 a1_1, .int .i64 a1_2, .int .i64 a1_3, .int .i64 a1_4] 82 (0, 0)) att16_0_2 hb)
      have n3_ := Aside0.mk (below_step att16_0_0 hb)
      clear HO684
      clear BK681
      clear HB
      have HO684 := n0_
      have HO692 := n1_
      have BK681 := n2_
      have HB := n3_
      clear n0_ n1_ n2_ n3_
      (try clear hb)
      (try clear hb2)
      (try clear hk)
      (try clear hi)
      (try clear ho0)
      obtain ⟨Ao116, co116, eo116⟩ := Kd.R_slice HO684.out
      (first | subst eo116 | (injection eo116 with f1_ f2_ f3_; have f4_ := f1_.symm; have f5_ := f3_.symm; clear f1_ f2_ f3_; subst f4_; subst f5_))
      obtain ⟨Ao117, co117, eo117⟩ := Kd.R_slice HO692.out
      (first | subst eo117 | (injection eo117 with f1_ f2_ f3_; have f4_ := f1_.symm; have f5_ := f3_.symm; clear f1_ f2_ f3_; subst f4_; subst f5_))
      refine hK.out _ _ ⟨(blk_cell BK681.out 0).trans rfl, (blk_cell BK681.out 1).trans rfl, (blk_cell BK681.out 2).trans rfl, (blk_cell BK681.out 3).trans rfl, (blk_cell BK681.out 4).trans rfl⟩ (fun hHeld => ?_)
      clear hK K
      refine normS_ (N := some 29) (h := ?_)
      refine one_ (i := 7) (N := some 30) (tf_ 8 1) rfl rfl (one_of HT_.out (by kernel_rfl)) (by decide) (fun K hK => ?_)
      refine goes_ Try.func23 (by kernel_rfl) rfl #[.slice Ao116 t682.length co116, .agg #[.int .i64 t685, .int .i64 t686, .int .i64 t687, .int .i64 t688, .int .i64 t689], .int .i64 a2, .slice Ao117 t690.length co117] (by rfl) rfl rfl atgM_ ?_
      with_reducible refine (spec_Emit.calls k _ _ t682 t685 t686 t687 t688 t689 a2 _ _ t690 t693 _ ?side1 ?side2 ?side3 ?side4 A12.out).mono ?_
      (case side1 => repeat (first | exact (Kd.R_reads' HO684.out).2.2 | (with_reducible refine Kd.C_alloc ?_ _) | (with_reducible refine Kd.C_drewN ?_ _) | (with_reducible refine Kd.C_drew ?_)))
      (case side2 => exact (Kd.R_reads' HO684.out).2.1)
      (case side3 => repeat (first | exact (Kd.R_reads' HO692.out).2.2 | (with_reducible refine Kd.C_alloc ?_ _) | (with_reducible refine Kd.C_drewN ?_ _) | (with_reducible refine Kd.C_drew ?_)))
      (case side4 => exact (Kd.R_reads' HO692.out).2.1)
      rintro e w118 ⟨v694, rfl, ho0, hb⟩
      refine ⟨_, rfl, ?_⟩
      have n0_ := Aside0.mk (Kd.R_below att16_0_3 hb)
      have n1_ := Aside0.mk (Kd.R_below att16_0_4 hb)
      have n2_ := Aside0.mk (Kd.R_lower ho0 (below_size att16_0_0))
      have n3_ := Aside0.mk (blk_below (g := gb681) (o := .cells #[.int .i64 a1_0, .int .i64 a1_1, .int .i64 a1_2, .int .i64 a1_3, .int .i64 a1_4] 82 (0, 0)) att16_0_2 hb)
      have n4_ := Aside0.mk (below_step att16_0_0 hb)
      clear HO684
      clear HO692
      clear BK681
      clear HB
      have HO684 := n0_
      have HO692 := n1_
      have HO695 := n2_
      have BK681 := n3_
      have HB := n4_
      clear n0_ n1_ n2_ n3_ n4_
      (try clear hb)
      (try clear hb2)
      (try clear hk)
      (try clear hi)
      (try clear ho0)
      refine hK.out _ _ ⟨(blk_cell BK681.out 0).trans rfl, (blk_cell BK681.out 1).trans rfl, (blk_cell BK681.out 2).trans rfl, (blk_cell BK681.out 3).trans rfl, (blk_cell BK681.out 4).trans rfl⟩ (fun hHeld => ?_)
      clear hK K
      refine normS_ (N := some 30) (h := ?_)
      refine pureQ_ (i := 8) (N := some 9) (tf_ 9 0) (h := ?_)
      refine done_ (done_of HT_.out (by kernel_rfl)) ?_
      try go_wp2_with (first | ((with_reducible refine gate_callee (f := 36) rfl ?_); refine goesL_ (some 32) rfl rfl Try.func36 (by kernel_rfl) rfl #[.slice A0 l0.length c0] rfl atgM_ ?_; (with_reducible refine (laws_toIntS.calls k _ _ l0 t696 _ ?side1 ?side2 A13.out).mono ?_); (case side1 => repeat (first | exact (Kd.C_below HR0.out HB.out) | (with_reducible refine Kd.C_alloc ?_ _) | (with_reducible refine Kd.C_drewN ?_ _) | (with_reducible refine Kd.C_drew ?_))); (case side2 => exact HC0.out); rintro e w119 ⟨v697, rfl, ho0, hb⟩; refine ⟨_, rfl, ?_⟩; refine swap6_ (Kd.R_elder' att16_0_3 (Kd.R_base ho0) hb) (Kd.R_elder' att16_0_4 (Kd.R_base ho0) hb) (Kd.R_below att16_0_5 hb) (Kd.R_lower (Kd.R_new' (Kd.R_new' ho0 (Kd.R_lt att16_0_3)) (Kd.R_lt att16_0_4)) (below_size att16_0_0)) (blk_below (g := gb681) (o := .cells #[.int .i64 a1_0, .int .i64 a1_1, .int .i64 a1_2, .int .i64 a1_3, .int .i64 a1_4] 82 (0, 0)) att16_0_2 hb) (below_step att16_0_0 hb) ?_; clear HO684 HO692 HO695 BK681 HB; intro HO684 HO692 HO695 HO698 BK681 HB; (try clear hb); (try clear hb2); (try clear hk); (try clear hi); (try clear ho0)) | ((with_reducible refine gate_callee (f := 36) rfl ?_); refine goesL_ (some 34) rfl rfl Try.func36 (by kernel_rfl) rfl #[.slice A3 l3.length c3] rfl atgM_ ?_; (with_reducible refine (laws_toIntS.calls k _ _ l3 t699 _ ?side1 ?side2 A14.out).mono ?_); (case side1 => repeat (first | exact (Kd.C_below HR3.out HB.out) | (with_reducible refine Kd.C_alloc ?_ _) | (with_reducible refine Kd.C_drewN ?_ _) | (with_reducible refine Kd.C_drew ?_))); (case side2 => exact HC3.out); rintro e w120 ⟨v700, rfl, ho0, hb⟩; refine ⟨_, rfl, ?_⟩; refine swap7_ (Kd.R_elder' att16_0_3 (Kd.R_base ho0) hb) (Kd.R_elder' att16_0_4 (Kd.R_base ho0) hb) (Kd.R_below att16_0_5 hb) (Kd.R_elder' att16_0_6 (Kd.R_base ho0) hb) (Kd.R_lower (Kd.R_new' (Kd.R_new' (Kd.R_new' ho0 (Kd.R_lt att16_0_3)) (Kd.R_lt att16_0_4)) (Kd.R_lt att16_0_6)) (below_size att16_0_0)) (blk_below (g := gb681) (o := .cells #[.int .i64 a1_0, .int .i64 a1_1, .int .i64 a1_2, .int .i64 a1_3, .int .i64 a1_4] 82 (0, 0)) att16_0_2 hb) (below_step att16_0_0 hb) ?_; clear HO684 HO692 HO695 HO698 BK681 HB; intro HO684 HO692 HO695 HO698 HO701 BK681 HB; (try clear hb); (try clear hb2); (try clear hk); (try clear hi); (try clear ho0); obtain ⟨hcz121_0, hcz121_1, hcz121_2, hcz121_3, hcz121_4, hfz121_0, hfz121_1, hfz121_2, hfz121_3, hfz121_4⟩ := blkB5_ BK681) | ((with_reducible refine gate_callee (f := 67) rfl ?_); refine goesL_ (some 37) rfl rfl Try.func67 (by kernel_rfl) rfl #[.agg #[.int .i64 a1_0, .int .i64 a1_1, .int .i64 a1_2, .int .i64 a1_3, .int .i64 a1_4]] rfl atgM_ ?_; (with_reducible refine (laws_toIns.calls a1_0 a1_1 a1_2 a1_3 a1_4 t702 t703 t704 t705 t706 _ A15.out).mono ?_); rintro e w122 ⟨rfl, hb⟩; refine ⟨_, rfl, ?_⟩; refine swap7_ (Kd.R_below att16_0_3 hb) (Kd.R_below att16_0_4 hb) (Kd.R_below att16_0_5 hb) (Kd.R_below att16_0_6 hb) (Kd.R_below att16_0_9 hb) (blk_below (g := gb681) (o := .cells #[.int .i64 a1_0, .int .i64 a1_1, .int .i64 a1_2, .int .i64 a1_3, .int .i64 a1_4] 82 (0, 0)) att16_0_2 hb) (below_step att16_0_0 hb) ?_; clear HO684 HO692 HO695 HO698 HO701 BK681 HB; intro HO684 HO692 HO695 HO698 HO701 BK681 HB; (try clear hb); (try clear hb2); (try clear hk); (try clear hi); obtain ⟨Ao123, co123, eo123⟩ := Kd.R_slice HO698.out; subst eo123; obtain ⟨Ao124, co124, eo124⟩ := Kd.R_slice HO701.out; subst eo124) | ((with_reducible refine gate_callee (f := 22) rfl ?_); refine goesL_ (some 40) rfl rfl Try.func22 (by kernel_rfl) rfl #[.slice Ao123 t696.length co123, .agg #[.int .i64 t702, .int .i64 t703, .int .i64 t704, .int .i64 t705, .int .i64 t706], .int .i64 a2, .slice Ao124 t699.length co124] rfl atgM_ ?_; (with_reducible refine (impl_Emit.calls k _ _ t696 t702 t703 t704 t705 t706 a2 _ _ t699 t707 _ ?side1 ?side2 ?side3 ?side4 A16.out).mono ?_); (case side1 => repeat (first | exact (Kd.R_reads' HO698.out).2.2 | (with_reducible refine Kd.C_alloc ?_ _) | (with_reducible refine Kd.C_drewN ?_ _) | (with_reducible refine Kd.C_drew ?_))); (case side2 => exact (Kd.R_reads' HO698.out).2.1); (case side3 => repeat (first | exact (Kd.R_reads' HO701.out).2.2 | (with_reducible refine Kd.C_alloc ?_ _) | (with_reducible refine Kd.C_drewN ?_ _) | (with_reducible refine Kd.C_drew ?_))); (case side4 => exact (Kd.R_reads' HO701.out).2.1); rintro e w125 ⟨v708, rfl, ho0, hb⟩; refine ⟨_, rfl, ?_⟩; refine swap8_ (Kd.R_below att16_0_3 hb) (Kd.R_below att16_0_4 hb) (Kd.R_elder' att16_0_5 (Kd.R_base ho0) hb) (Kd.R_below att16_0_6 hb) (Kd.R_below att16_0_9 hb) (Kd.R_lower (Kd.R_new' ho0 (Kd.R_lt att16_0_5)) (below_size att16_0_0)) (blk_below (g := gb681) (o := .cells #[.int .i64 a1_0, .int .i64 a1_1, .int .i64 a1_2, .int .i64 a1_3, .int .i64 a1_4] 82 (0, 0)) att16_0_2 hb) (below_step att16_0_0 hb) ?_; clear HO684 HO692 HO695 HO698 HO701 BK681 HB; intro HO684 HO692 HO695 HO698 HO701 HO709 BK681 HB; (try clear hb); (try clear hb2); (try clear hk); (try clear hi); (try clear ho0); obtain ⟨Ao126, co126, eo126⟩ := Kd.R_slice HO709.out; subst eo126; obtain ⟨Ao127, co127, eo127⟩ := Kd.R_slice HO695.out; subst eo127) | ((with_reducible refine gate_callee (f := 68) rfl ?_); refine goesL_ (some 43) rfl rfl Try.func68 (by kernel_rfl) rfl #[.slice Ao126 t707.length co126, .slice Ao127 t693.length co127] rfl atgM_ ?_; (with_reducible refine (laws_eqStepS.calls k _ _ t707 _ _ t693 true _ ?side1 ?side2 ?side3 ?side4 A17.out).mono ?_); (case side1 => repeat (first | exact (Kd.R_reads' HO709.out).2.2 | (with_reducible refine Kd.C_alloc ?_ _) | (with_reducible refine Kd.C_drewN ?_ _) | (with_reducible refine Kd.C_drew ?_))); (case side2 => exact (Kd.R_reads' HO709.out).2.1); (case side3 => repeat (first | exact (Kd.R_reads' HO695.out).2.2 | (with_reducible refine Kd.C_alloc ?_ _) | (with_reducible refine Kd.C_drewN ?_ _) | (with_reducible refine Kd.C_drew ?_))); (case side4 => exact (Kd.R_reads' HO695.out).2.1); rintro e w128 ⟨rfl, hb⟩; refine ⟨_, rfl, ?_⟩; refine swap8_ (Kd.R_below att16_0_3 hb) (Kd.R_below att16_0_4 hb) (Kd.R_below att16_0_5 hb) (Kd.R_below att16_0_6 hb) (Kd.R_below att16_0_9 hb) (Kd.R_below att16_0_13 hb) (blk_below (g := gb681) (o := .cells #[.int .i64 a1_0, .int .i64 a1_1, .int .i64 a1_2, .int .i64 a1_3, .int .i64 a1_4] 82 (0, 0)) att16_0_2 hb) (below_step att16_0_0 hb) ?_; clear HO684 HO692 HO695 HO698 HO701 HO709 BK681 HB; intro HO684 HO692 HO695 HO698 HO701 HO709 BK681 HB; (try clear hb); (try clear hb2); (try clear hk); (try clear hi)) | ((with_reducible refine gate_callee (f := 36) rfl ?_); refine goesL_ (some 47) rfl rfl Try.func36 (by kernel_rfl) rfl #[.slice A0 l0.length c0] rfl atgM_ ?_; (with_reducible refine (laws_toIntS.calls k _ _ l0 t711 _ ?side1 ?side2 A19.out).mono ?_); (case side1 => repeat (first | exact (Kd.C_below HR0.out HB.out) | (with_reducible refine Kd.C_alloc ?_ _) | (with_reducible refine Kd.C_drewN ?_ _) | (with_reducible refine Kd.C_drew ?_))); (case side2 => exact HC0.out); rintro e w129 ⟨v712, rfl, ho0, hb⟩; refine ⟨_, rfl, ?_⟩; have n0_ := Aside0.mk (Kd.R_elder' att16_0_3 (Kd.R_base ho0) hb); have n1_ := Aside0.mk (Kd.R_elder' att16_0_4 (Kd.R_base ho0) hb); have n2_ := Aside0.mk (Kd.R_below att16_0_5 hb); have n3_ := Aside0.mk (Kd.R_elder' att16_0_6 (Kd.R_base ho0) hb); have n4_ := Aside0.mk (Kd.R_elder' att16_0_9 (Kd.R_base ho0) hb); have n5_ := Aside0.mk (Kd.R_below att16_0_13 hb); have n6_ := Aside0.mk (Kd.R_lower (Kd.R_new' (Kd.R_new' (Kd.R_new' (Kd.R_new' ho0 (Kd.R_lt att16_0_3)) (Kd.R_lt att16_0_4)) (Kd.R_lt att16_0_6)) (Kd.R_lt att16_0_9)) (below_size att16_0_0)); have n7_ := Aside0.mk (blk_below (g := gb681) (o := .cells #[.int .i64 a1_0, .int .i64 a1_1, .int .i64 a1_2, .int .i64 a1_3, .int .i64 a1_4] 82 (0, 0)) att16_0_2 hb); have n8_ := Aside0.mk (below_step att16_0_0 hb); clear HO684; clear HO692; clear HO695; clear HO698; clear HO701; clear HO709; clear BK681; clear HB; have HO684 := n0_; have HO692 := n1_; have HO695 := n2_; have HO698 := n3_; have HO701 := n4_; have HO709 := n5_; have HO713 := n6_; have BK681 := n7_; have HB := n8_; clear n0_ n1_ n2_ n3_ n4_ n5_ n6_ n7_ n8_; (try clear hb); (try clear hb2); (try clear hk); (try clear hi); (try clear ho0); obtain ⟨Ao130, co130, eo130⟩ := Kd.R_slice HO713.out; subst eo130) | ((with_reducible refine gate_callee (f := 38) rfl ?_); refine goesL_ (some 48) rfl rfl Try.func38 (by kernel_rfl) rfl #[.slice Ao123 t696.length co123, .slice Ao130 t711.length co130] rfl atgM_ ?_; (with_reducible refine (laws_eqIntS.calls k _ _ t696 _ _ t711 true _ ?side1 ?side2 ?side3 ?side4 A20.out).mono ?_); (case side1 => repeat (first | exact (Kd.R_reads' HO698.out).2.2 | (with_reducible refine Kd.C_alloc ?_ _) | (with_reducible refine Kd.C_drewN ?_ _) | (with_reducible refine Kd.C_drew ?_))); (case side2 => exact (Kd.R_reads' HO698.out).2.1); (case side3 => repeat (first | exact (Kd.R_reads' HO713.out).2.2 | (with_reducible refine Kd.C_alloc ?_ _) | (with_reducible refine Kd.C_drewN ?_ _) | (with_reducible refine Kd.C_drew ?_))); (case side4 => exact (Kd.R_reads' HO713.out).2.1); rintro e w' ⟨rfl, ⟨nd, rfl⟩⟩; refine ⟨_, rfl, ?_⟩) | ((with_reducible refine gate_callee (f := 36) rfl ?_); refine goesL_ (some 52) rfl rfl Try.func36 (by kernel_rfl) rfl #[.slice A3 l3.length c3] rfl atgM_ ?_; (with_reducible refine (laws_toIntS.calls k _ _ l3 t715 _ ?side1 ?side2 A22.out).mono ?_); (case side1 => repeat (first | exact (Kd.C_below HR3.out att16_0_0) | (with_reducible refine Kd.C_alloc ?_ _) | (with_reducible refine Kd.C_drewN ?_ _) | (with_reducible refine Kd.C_drew ?_))); (case side2 => exact HC3.out); rintro e w131 ⟨v716, rfl, ho0, hb⟩; refine ⟨_, rfl, ?_⟩; have n0_ := Aside0.mk (Kd.R_elder' att16_0_3 (Kd.R_base ho0) hb); have n1_ := Aside0.mk (Kd.R_elder' att16_0_4 (Kd.R_base ho0) hb); have n2_ := Aside0.mk (Kd.R_below att16_0_5 hb); have n3_ := Aside0.mk (Kd.R_elder' att16_0_6 (Kd.R_base ho0) hb); have n4_ := Aside0.mk (Kd.R_elder' att16_0_9 (Kd.R_base ho0) hb); have n5_ := Aside0.mk (Kd.R_below att16_0_13 hb); have n6_ := Aside0.mk (Kd.R_elder' att16_0_15 (Kd.R_base ho0) hb); have n7_ := Aside0.mk (Kd.R_lower (Kd.R_new' (Kd.R_new' (Kd.R_new' (Kd.R_new' (Kd.R_new' ho0 (Kd.R_lt att16_0_3)) (Kd.R_lt att16_0_4)) (Kd.R_lt att16_0_6)) (Kd.R_lt att16_0_9)) (Kd.R_lt att16_0_15)) (below_size att16_0_0)); have n8_ := Aside0.mk (blk_below (g := gb681) (o := .cells #[.int .i64 a1_0, .int .i64 a1_1, .int .i64 a1_2, .int .i64 a1_3, .int .i64 a1_4] 82 (0, 0)) att16_0_2 hb); have n9_ := Aside0.mk (below_step att16_0_0 hb); clear HO684; clear HO692; clear HO695; clear HO698; clear HO701; clear HO709; clear HO713; clear BK681; clear HB; have HO684 := n0_; have HO692 := n1_; have HO695 := n2_; have HO698 := n3_; have HO701 := n4_; have HO709 := n5_; have HO713 := n6_; have HO717 := n7_; have BK681 := n8_; have HB := n9_; clear n0_ n1_ n2_ n3_ n4_ n5_ n6_ n7_ n8_ n9_; (try clear hb); (try clear hb2); (try clear hk); (try clear hi); (try clear ho0); obtain ⟨Ao132, co132, eo132⟩ := Kd.R_slice HO717.out; subst eo132) | ((with_reducible refine gate_callee (f := 38) rfl ?_); refine goesL_ (some 53) rfl rfl Try.func38 (by kernel_rfl) rfl #[.slice Ao124 t699.length co124, .slice Ao132 t715.length co132] rfl atgM_ ?_; (with_reducible refine (laws_eqIntS.calls k _ _ t699 _ _ t715 false _ ?side1 ?side2 ?side3 ?side4 A23.out).mono ?_); (case side1 => repeat (first | exact (Kd.R_reads' HO701.out).2.2 | (with_reducible refine Kd.C_alloc ?_ _) | (with_reducible refine Kd.C_drewN ?_ _) | (with_reducible refine Kd.C_drew ?_))); (case side2 => exact (Kd.R_reads' HO701.out).2.1); (case side3 => repeat (first | exact (Kd.R_reads' HO717.out).2.2 | (with_reducible refine Kd.C_alloc ?_ _) | (with_reducible refine Kd.C_drewN ?_ _) | (with_reducible refine Kd.C_drew ?_))); (case side4 => exact (Kd.R_reads' HO717.out).2.1); rintro e w' ⟨rfl, ⟨nd, rfl⟩⟩; refine ⟨_, rfl, ?_⟩))
      go_ret
      exact ⟨retT_, att16_0_0⟩
    ·replace c21 := Bool.eq_false_iff.mpr c21
     subst c21
     rw [if_neg (show ¬ (false = true) by decide)] at H
     obtain rfl := Option.some.inj H
     go_enter Try.func11, Try.ntmps11
     try go_wp2_with (first | ((with_reducible refine gate_dst (N := 5) rfl ?_); refine box_event ?hg (N := 5) ?hd (cs := #[.int .i64 a1_0, .int .i64 a1_1, .int .i64 a1_2, .int .i64 a1_3, .int .i64 a1_4]) (t := 82) ?hr ?_; (case hd => rfl); (case hg => rfl); (case hr => first | (go_simp; done) | (go_simp; rfl)); intro gb681 hg w133 hbox hb; refine swap4_ (below_step atgB_ hb) (hbox) ((by rw [hg]; exact (below_size atgB_) : w.heap.size ≤ gb681)) ((by rw [hg]; exact (below_size atgB_) : w.heap.size ≤ gb681)) ?_; clear HB; intro HB BK681 GW681 GE681; clear hb hbox hg))
     have n0_ := Aside0.mk (blk_drew BK681.out)
     have n1_ := Aside0.mk (below_drew1 HB.out)
     clear BK681
     clear HB
     have BK681 := n0_
     have HB := n1_
     clear n0_ n1_
     refine start_ (n := 9) (S := fun w' => w'.cell? ⟨gb681, 0, none⟩ = some (.int .i64 a1_0) ∧ w'.cell? ⟨gb681, 1, none⟩ = some (.int .i64 a1_1) ∧ w'.cell? ⟨gb681, 2, none⟩ = some (.int .i64 a1_2) ∧ w'.cell? ⟨gb681, 3, none⟩ = some (.int .i64 a1_3) ∧ w'.cell? ⟨gb681, 4, none⟩ = some (.int .i64 a1_4)) (ds := []) (tf_ 0 9) (by kernel_rfl) rfl rfl ⟨(blk_cell BK681.out 0).trans rfl, (blk_cell BK681.out 1).trans rfl, (blk_cell BK681.out 2).trans rfl, (blk_cell BK681.out 3).trans rfl, (blk_cell BK681.out 4).trans rfl⟩ (fun hHeld => ?_); refine with_tabW laws_FnExactEmit.tab5 laws_FnExactEmit.bits5 (fun HT_ HW_ => ?_)
     generalize w133.drew = w134 at BK681 HB hHeld ⊢
     refine pureQ_ (i := 0) (N := some 23) (tf_ 1 8) (h := ?_)
     refine pureQ_ (i := 4) (N := some 27) #[true, false, false, false, true, false, false, false, false] (h := ?_)
     refine pureQ_ (i := 5) (N := some 28) #[true, false, false, false, true, true, false, false, false] (h := ?_)
     refine takeQ_ (i := 2) (N := some 25) #[true, false, true, false, true, true, false, false, false] hHeld (hy := Or.inl ⟨by rfl, att16_0_16⟩) (h := ?_)
     refine one_ (i := 1) (N := some 24) #[true, true, true, false, true, true, false, false, false] rfl rfl (one_of HT_.out (by kernel_rfl)) (by decide) (fun K hK => ?_)
     refine goes_ Try.func36 (by kernel_rfl) rfl #[.slice A0 l0.length c0] (by rfl) rfl rfl atgM_ ?_
     with_reducible refine (laws_toIntS.calls k _ _ l0 t682 _ ?side1 ?side2 A9.out).mono ?_
     (case side1 => repeat (first | exact (Kd.C_below HR0.out HB.out) | (with_reducible refine Kd.C_alloc ?_ _) | (with_reducible refine Kd.C_drewN ?_ _) | (with_reducible refine Kd.C_drew ?_)))
     (case side2 => exact HC0.out)
     rintro e w135 ⟨v683, rfl, ho0, hb⟩
     refine ⟨_, rfl, ?_⟩
     have n0_ := Aside0.mk (Kd.R_lower ho0 (below_size att16_0_0))
     have n1_ := Aside0.mk (blk_below (g := gb681) (o := .cells #[.int .i64 a1_0, .int .i64 a1_1, .int .i64 a1_2, .int .i64 a1_3, .int .i64 a1_4] 82 (0, 0)) att16_0_2 hb)
     have n2_ := Aside0.mk (below_step att16_0_0 hb)
     clear BK681
     clear HB
     have HO684 := n0_
     have BK681 := n1_
     have HB := n2_
     clear n0_ n1_ n2_
     (try clear hb)
     (try clear hb2)
     (try clear hk)
     (try clear hi)
     (try clear ho0)
     refine hK.out _ _ ⟨(blk_cell BK681.out 0).trans rfl, (blk_cell BK681.out 1).trans rfl, (blk_cell BK681.out 2).trans rfl, (blk_cell BK681.out 3).trans rfl, (blk_cell BK681.out 4).trans rfl⟩ (fun hHeld => ?_)
     clear hK K
     refine normS_ (N := some 24) (h := ?_)
     refine one_ (i := 3) (N := some 26) (tf_ 6 3) rfl rfl (one_of HT_.out (by kernel_rfl)) (by decide) (fun K hK => ?_)
     refine goes_ Try.func67 (by kernel_rfl) rfl #[.agg #[.int .i64 a1_0, .int .i64 a1_1, .int .i64 a1_2, .int .i64 a1_3, .int .i64 a1_4]] (by rfl) rfl rfl atgM_ ?_
     with_reducible refine (laws_toIns.calls a1_0 a1_1 a1_2 a1_3 a1_4 t685 t686 t687 t688 t689 _ A10.out).mono ?_
     rintro e w136 ⟨rfl, hb⟩
     refine ⟨_, rfl, ?_⟩
     have n0_ := Aside0.mk (Kd.R_below att16_0_3 hb)
     have n1_ := Aside0.mk (blk_below (g := gb681) (o := .cells #[.int .i64 a1_0, .int .i64 a1_1, .int .i64 a1_2, .int .i64 a1_3, .int .i64 a1_4] 82 (0, 0)) att16_0_2 hb)
     have n2_ := Aside0.mk (below_step att16_0_0 hb)
     clear HO684
     clear BK681
     clear HB
     have HO684 := n0_
     have BK681 := n1_
     have HB := n2_
     clear n0_ n1_ n2_
     (try clear hb)
     (try clear hb2)
     (try clear hk)
     (try clear hi)
     refine hK.out _ _ ⟨(blk_cell BK681.out 0).trans rfl, (blk_cell BK681.out 1).trans rfl, (blk_cell BK681.out 2).trans rfl, (blk_cell BK681.out 3).trans rfl, (blk_cell BK681.out 4).trans rfl⟩ (fun hHeld => ?_)
     clear hK K
     refine normS_ (N := some 26) (h := ?_)
     refine one_ (i := 6) (N := some 29) (tf_ 7 2) rfl rfl (one_of HT_.out (by kernel_rfl)) (by decide) (fun K hK => ?_)
     refine goes_ Try.func36 (by kernel_rfl) rfl #[.slice A3 l3.length c3] (by rfl) rfl rfl atgM_ ?_
     with_reducible refine (laws_toIntS.calls k _ _ l3 t690 _ ?side1 ?side2 A11.out).mono ?_
     (case side1 => repeat (first | exact (Kd.C_below HR3.out HB.out) | (with_reducible refine Kd.C_alloc ?_ _) | (with_reducible refine Kd.C_drewN ?_ _) | (with_reducible refine Kd.C_drew ?_)))
     (case side2 => exact HC3.out)
     rintro e w137 ⟨v691, rfl, ho0, hb⟩
     refine ⟨_, rfl, ?_⟩
     have n0_ := Aside0.mk (Kd.R_elder' att16_0_3 (Kd.R_base ho0) hb)
     have n1_ := Aside0.mk (Kd.R_lower (Kd.R_new' ho0 (Kd.R_lt att16_0_3)) (below_size att16_0_0))
     have n2_ := Aside0.mk (blk_below (g := gb681) (o := .cells #[.int .i64 a1_0, .int .i64 a1_1, .int .i64 a1_2, .int .i64 a1_3, .int .i64 a1_4] 82 (0, 0)) att16_0_2 hb)
     have n3_ := Aside0.mk (below_step att16_0_0 hb)
     clear HO684
     clear BK681
     clear HB
     have HO684 := n0_
     have HO692 := n1_
     have BK681 := n2_
     have HB := n3_
     clear n0_ n1_ n2_ n3_
     (try clear hb)
     (try clear hb2)
     (try clear hk)
     (try clear hi)
     (try clear ho0)
     obtain ⟨Ao138, co138, eo138⟩ := Kd.R_slice HO684.out
     (first | subst eo138 | (injection eo138 with f1_ f2_ f3_; have f4_ := f1_.symm; have f5_ := f3_.symm; clear f1_ f2_ f3_; subst f4_; subst f5_))
     obtain ⟨Ao139, co139, eo139⟩ := Kd.R_slice HO692.out
     (first | subst eo139 | (injection eo139 with f1_ f2_ f3_; have f4_ := f1_.symm; have f5_ := f3_.symm; clear f1_ f2_ f3_; subst f4_; subst f5_))
     refine hK.out _ _ ⟨(blk_cell BK681.out 0).trans rfl, (blk_cell BK681.out 1).trans rfl, (blk_cell BK681.out 2).trans rfl, (blk_cell BK681.out 3).trans rfl, (blk_cell BK681.out 4).trans rfl⟩ (fun hHeld => ?_)
     clear hK K
     refine normS_ (N := some 29) (h := ?_)
     refine one_ (i := 7) (N := some 30) (tf_ 8 1) rfl rfl (one_of HT_.out (by kernel_rfl)) (by decide) (fun K hK => ?_)
     refine goes_ Try.func23 (by kernel_rfl) rfl #[.slice Ao138 t682.length co138, .agg #[.int .i64 t685, .int .i64 t686, .int .i64 t687, .int .i64 t688, .int .i64 t689], .int .i64 a2, .slice Ao139 t690.length co139] (by rfl) rfl rfl atgM_ ?_
     with_reducible refine (spec_Emit.calls k _ _ t682 t685 t686 t687 t688 t689 a2 _ _ t690 t693 _ ?side1 ?side2 ?side3 ?side4 A12.out).mono ?_
     (case side1 => repeat (first | exact (Kd.R_reads' HO684.out).2.2 | (with_reducible refine Kd.C_alloc ?_ _) | (with_reducible refine Kd.C_drewN ?_ _) | (with_reducible refine Kd.C_drew ?_)))
     (case side2 => exact (Kd.R_reads' HO684.out).2.1)
     (case side3 => repeat (first | exact (Kd.R_reads' HO692.out).2.2 | (with_reducible refine Kd.C_alloc ?_ _) | (with_reducible refine Kd.C_drewN ?_ _) | (with_reducible refine Kd.C_drew ?_)))
     (case side4 => exact (Kd.R_reads' HO692.out).2.1)
     rintro e w140 ⟨v694, rfl, ho0, hb⟩
     refine ⟨_, rfl, ?_⟩
     have n0_ := Aside0.mk (Kd.R_below att16_0_3 hb)
     have n1_ := Aside0.mk (Kd.R_below att16_0_4 hb)
     have n2_ := Aside0.mk (Kd.R_lower ho0 (below_size att16_0_0))
     have n3_ := Aside0.mk (blk_below (g := gb681) (o := .cells #[.int .i64 a1_0, .int .i64 a1_1, .int .i64 a1_2, .int .i64 a1_3, .int .i64 a1_4] 82 (0, 0)) att16_0_2 hb)
     have n4_ := Aside0.mk (below_step att16_0_0 hb)
     clear HO684
     clear HO692
     clear BK681
     clear HB
     have HO684 := n0_
     have HO692 := n1_
     have HO695 := n2_
     have BK681 := n3_
     have HB := n4_
     clear n0_ n1_ n2_ n3_ n4_
     (try clear hb)
     (try clear hb2)
     (try clear hk)
     (try clear hi)
     (try clear ho0)
     refine hK.out _ _ ⟨(blk_cell BK681.out 0).trans rfl, (blk_cell BK681.out 1).trans rfl, (blk_cell BK681.out 2).trans rfl, (blk_cell BK681.out 3).trans rfl, (blk_cell BK681.out 4).trans rfl⟩ (fun hHeld => ?_)
     clear hK K
     refine normS_ (N := some 30) (h := ?_)
     refine pureQ_ (i := 8) (N := some 9) (tf_ 9 0) (h := ?_)
     refine done_ (done_of HT_.out (by kernel_rfl)) ?_
     try go_wp2_with (first | ((with_reducible refine gate_callee (f := 36) rfl ?_); refine goesL_ (some 32) rfl rfl Try.func36 (by kernel_rfl) rfl #[.slice A0 l0.length c0] rfl atgM_ ?_; (with_reducible refine (laws_toIntS.calls k _ _ l0 t696 _ ?side1 ?side2 A13.out).mono ?_); (case side1 => repeat (first | exact (Kd.C_below HR0.out HB.out) | (with_reducible refine Kd.C_alloc ?_ _) | (with_reducible refine Kd.C_drewN ?_ _) | (with_reducible refine Kd.C_drew ?_))); (case side2 => exact HC0.out); rintro e w141 ⟨v697, rfl, ho0, hb⟩; refine ⟨_, rfl, ?_⟩; refine swap6_ (Kd.R_elder' att16_0_3 (Kd.R_base ho0) hb) (Kd.R_elder' att16_0_4 (Kd.R_base ho0) hb) (Kd.R_below att16_0_5 hb) (Kd.R_lower (Kd.R_new' (Kd.R_new' ho0 (Kd.R_lt att16_0_3)) (Kd.R_lt att16_0_4)) (below_size att16_0_0)) (blk_below (g := gb681) (o := .cells #[.int .i64 a1_0, .int .i64 a1_1, .int .i64 a1_2, .int .i64 a1_3, .int .i64 a1_4] 82 (0, 0)) att16_0_2 hb) (below_step att16_0_0 hb) ?_; clear HO684 HO692 HO695 BK681 HB; intro HO684 HO692 HO695 HO698 BK681 HB; (try clear hb); (try clear hb2); (try clear hk); (try clear hi); (try clear ho0)) | ((with_reducible refine gate_callee (f := 36) rfl ?_); refine goesL_ (some 34) rfl rfl Try.func36 (by kernel_rfl) rfl #[.slice A3 l3.length c3] rfl atgM_ ?_; (with_reducible refine (laws_toIntS.calls k _ _ l3 t699 _ ?side1 ?side2 A14.out).mono ?_); (case side1 => repeat (first | exact (Kd.C_below HR3.out HB.out) | (with_reducible refine Kd.C_alloc ?_ _) | (with_reducible refine Kd.C_drewN ?_ _) | (with_reducible refine Kd.C_drew ?_))); (case side2 => exact HC3.out); rintro e w142 ⟨v700, rfl, ho0, hb⟩; refine ⟨_, rfl, ?_⟩; refine swap7_ (Kd.R_elder' att16_0_3 (Kd.R_base ho0) hb) (Kd.R_elder' att16_0_4 (Kd.R_base ho0) hb) (Kd.R_below att16_0_5 hb) (Kd.R_elder' att16_0_6 (Kd.R_base ho0) hb) (Kd.R_lower (Kd.R_new' (Kd.R_new' (Kd.R_new' ho0 (Kd.R_lt att16_0_3)) (Kd.R_lt att16_0_4)) (Kd.R_lt att16_0_6)) (below_size att16_0_0)) (blk_below (g := gb681) (o := .cells #[.int .i64 a1_0, .int .i64 a1_1, .int .i64 a1_2, .int .i64 a1_3, .int .i64 a1_4] 82 (0, 0)) att16_0_2 hb) (below_step att16_0_0 hb) ?_; clear HO684 HO692 HO695 HO698 BK681 HB; intro HO684 HO692 HO695 HO698 HO701 BK681 HB; (try clear hb); (try clear hb2); (try clear hk); (try clear hi); (try clear ho0); obtain ⟨hcz143_0, hcz143_1, hcz143_2, hcz143_3, hcz143_4, hfz143_0, hfz143_1, hfz143_2, hfz143_3, hfz143_4⟩ := blkB5_ BK681) | ((with_reducible refine gate_callee (f := 67) rfl ?_); refine goesL_ (some 37) rfl rfl Try.func67 (by kernel_rfl) rfl #[.agg #[.int .i64 a1_0, .int .i64 a1_1, .int .i64 a1_2, .int .i64 a1_3, .int .i64 a1_4]] rfl atgM_ ?_; (with_reducible refine (laws_toIns.calls a1_0 a1_1 a1_2 a1_3 a1_4 t702 t703 t704 t705 t706 _ A15.out).mono ?_); rintro e w144 ⟨rfl, hb⟩; refine ⟨_, rfl, ?_⟩; refine swap7_ (Kd.R_below att16_0_3 hb) (Kd.R_below att16_0_4 hb) (Kd.R_below att16_0_5 hb) (Kd.R_below att16_0_6 hb) (Kd.R_below att16_0_9 hb) (blk_below (g := gb681) (o := .cells #[.int .i64 a1_0, .int .i64 a1_1, .int .i64 a1_2, .int .i64 a1_3, .int .i64 a1_4] 82 (0, 0)) att16_0_2 hb) (below_step att16_0_0 hb) ?_; clear HO684 HO692 HO695 HO698 HO701 BK681 HB; intro HO684 HO692 HO695 HO698 HO701 BK681 HB; (try clear hb); (try clear hb2); (try clear hk); (try clear hi); obtain ⟨Ao145, co145, eo145⟩ := Kd.R_slice HO698.out; subst eo145; obtain ⟨Ao146, co146, eo146⟩ := Kd.R_slice HO701.out; subst eo146) | ((with_reducible refine gate_callee (f := 22) rfl ?_); refine goesL_ (some 40) rfl rfl Try.func22 (by kernel_rfl) rfl #[.slice Ao145 t696.length co145, .agg #[.int .i64 t702, .int .i64 t703, .int .i64 t704, .int .i64 t705, .int .i64 t706], .int .i64 a2, .slice Ao146 t699.length co146] rfl atgM_ ?_; (with_reducible refine (impl_Emit.calls k _ _ t696 t702 t703 t704 t705 t706 a2 _ _ t699 t707 _ ?side1 ?side2 ?side3 ?side4 A16.out).mono ?_); (case side1 => repeat (first | exact (Kd.R_reads' HO698.out).2.2 | (with_reducible refine Kd.C_alloc ?_ _) | (with_reducible refine Kd.C_drewN ?_ _) | (with_reducible refine Kd.C_drew ?_))); (case side2 => exact (Kd.R_reads' HO698.out).2.1); (case side3 => repeat (first | exact (Kd.R_reads' HO701.out).2.2 | (with_reducible refine Kd.C_alloc ?_ _) | (with_reducible refine Kd.C_drewN ?_ _) | (with_reducible refine Kd.C_drew ?_))); (case side4 => exact (Kd.R_reads' HO701.out).2.1); rintro e w147 ⟨v708, rfl, ho0, hb⟩; refine ⟨_, rfl, ?_⟩; refine swap8_ (Kd.R_below att16_0_3 hb) (Kd.R_below att16_0_4 hb) (Kd.R_elder' att16_0_5 (Kd.R_base ho0) hb) (Kd.R_below att16_0_6 hb) (Kd.R_below att16_0_9 hb) (Kd.R_lower (Kd.R_new' ho0 (Kd.R_lt att16_0_5)) (below_size att16_0_0)) (blk_below (g := gb681) (o := .cells #[.int .i64 a1_0, .int .i64 a1_1, .int .i64 a1_2, .int .i64 a1_3, .int .i64 a1_4] 82 (0, 0)) att16_0_2 hb) (below_step att16_0_0 hb) ?_; clear HO684 HO692 HO695 HO698 HO701 BK681 HB; intro HO684 HO692 HO695 HO698 HO701 HO709 BK681 HB; (try clear hb); (try clear hb2); (try clear hk); (try clear hi); (try clear ho0); obtain ⟨Ao148, co148, eo148⟩ := Kd.R_slice HO709.out; subst eo148; obtain ⟨Ao149, co149, eo149⟩ := Kd.R_slice HO695.out; subst eo149) | ((with_reducible refine gate_callee (f := 68) rfl ?_); refine goesL_ (some 43) rfl rfl Try.func68 (by kernel_rfl) rfl #[.slice Ao148 t707.length co148, .slice Ao149 t693.length co149] rfl atgM_ ?_; (with_reducible refine (laws_eqStepS.calls k _ _ t707 _ _ t693 true _ ?side1 ?side2 ?side3 ?side4 A17.out).mono ?_); (case side1 => repeat (first | exact (Kd.R_reads' HO709.out).2.2 | (with_reducible refine Kd.C_alloc ?_ _) | (with_reducible refine Kd.C_drewN ?_ _) | (with_reducible refine Kd.C_drew ?_))); (case side2 => exact (Kd.R_reads' HO709.out).2.1); (case side3 => repeat (first | exact (Kd.R_reads' HO695.out).2.2 | (with_reducible refine Kd.C_alloc ?_ _) | (with_reducible refine Kd.C_drewN ?_ _) | (with_reducible refine Kd.C_drew ?_))); (case side4 => exact (Kd.R_reads' HO695.out).2.1); rintro e w150 ⟨rfl, hb⟩; refine ⟨_, rfl, ?_⟩; refine swap8_ (Kd.R_below att16_0_3 hb) (Kd.R_below att16_0_4 hb) (Kd.R_below att16_0_5 hb) (Kd.R_below att16_0_6 hb) (Kd.R_below att16_0_9 hb) (Kd.R_below att16_0_13 hb) (blk_below (g := gb681) (o := .cells #[.int .i64 a1_0, .int .i64 a1_1, .int .i64 a1_2, .int .i64 a1_3, .int .i64 a1_4] 82 (0, 0)) att16_0_2 hb) (below_step att16_0_0 hb) ?_; clear HO684 HO692 HO695 HO698 HO701 HO709 BK681 HB; intro HO684 HO692 HO695 HO698 HO701 HO709 BK681 HB; (try clear hb); (try clear hb2); (try clear hk); (try clear hi)) | ((with_reducible refine gate_callee (f := 36) rfl ?_); refine goesL_ (some 47) rfl rfl Try.func36 (by kernel_rfl) rfl #[.slice A0 l0.length c0] rfl atgM_ ?_; (with_reducible refine (laws_toIntS.calls k _ _ l0 t711 _ ?side1 ?side2 A19.out).mono ?_); (case side1 => repeat (first | exact (Kd.C_below HR0.out HB.out) | (with_reducible refine Kd.C_alloc ?_ _) | (with_reducible refine Kd.C_drewN ?_ _) | (with_reducible refine Kd.C_drew ?_))); (case side2 => exact HC0.out); rintro e w151 ⟨v712, rfl, ho0, hb⟩; refine ⟨_, rfl, ?_⟩; have n0_ := Aside0.mk (Kd.R_elder' att16_0_3 (Kd.R_base ho0) hb); have n1_ := Aside0.mk (Kd.R_elder' att16_0_4 (Kd.R_base ho0) hb); have n2_ := Aside0.mk (Kd.R_below att16_0_5 hb); have n3_ := Aside0.mk (Kd.R_elder' att16_0_6 (Kd.R_base ho0) hb); have n4_ := Aside0.mk (Kd.R_elder' att16_0_9 (Kd.R_base ho0) hb); have n5_ := Aside0.mk (Kd.R_below att16_0_13 hb); have n6_ := Aside0.mk (Kd.R_lower (Kd.R_new' (Kd.R_new' (Kd.R_new' (Kd.R_new' ho0 (Kd.R_lt att16_0_3)) (Kd.R_lt att16_0_4)) (Kd.R_lt att16_0_6)) (Kd.R_lt att16_0_9)) (below_size att16_0_0)); have n7_ := Aside0.mk (blk_below (g := gb681) (o := .cells #[.int .i64 a1_0, .int .i64 a1_1, .int .i64 a1_2, .int .i64 a1_3, .int .i64 a1_4] 82 (0, 0)) att16_0_2 hb); have n8_ := Aside0.mk (below_step att16_0_0 hb); clear HO684; clear HO692; clear HO695; clear HO698; clear HO701; clear HO709; clear BK681; clear HB; have HO684 := n0_; have HO692 := n1_; have HO695 := n2_; have HO698 := n3_; have HO701 := n4_; have HO709 := n5_; have HO713 := n6_; have BK681 := n7_; have HB := n8_; clear n0_ n1_ n2_ n3_ n4_ n5_ n6_ n7_ n8_; (try clear hb); (try clear hb2); (try clear hk); (try clear hi); (try clear ho0); obtain ⟨Ao152, co152, eo152⟩ := Kd.R_slice HO713.out; subst eo152) | ((with_reducible refine gate_callee (f := 38) rfl ?_); refine goesL_ (some 48) rfl rfl Try.func38 (by kernel_rfl) rfl #[.slice Ao145 t696.length co145, .slice Ao152 t711.length co152] rfl atgM_ ?_; (with_reducible refine (laws_eqIntS.calls k _ _ t696 _ _ t711 false _ ?side1 ?side2 ?side3 ?side4 A20.out).mono ?_); (case side1 => repeat (first | exact (Kd.R_reads' HO698.out).2.2 | (with_reducible refine Kd.C_alloc ?_ _) | (with_reducible refine Kd.C_drewN ?_ _) | (with_reducible refine Kd.C_drew ?_))); (case side2 => exact (Kd.R_reads' HO698.out).2.1); (case side3 => repeat (first | exact (Kd.R_reads' HO713.out).2.2 | (with_reducible refine Kd.C_alloc ?_ _) | (with_reducible refine Kd.C_drewN ?_ _) | (with_reducible refine Kd.C_drew ?_))); (case side4 => exact (Kd.R_reads' HO713.out).2.1); rintro e w' ⟨rfl, ⟨nd, rfl⟩⟩; refine ⟨_, rfl, ?_⟩))
     go_ret
     exact ⟨retT_, att16_0_0⟩
   ·replace c18 := Bool.eq_false_iff.mpr c18
    subst c18
    rw [if_neg (show ¬ (false = true) by decide)] at H
    obtain rfl := Option.some.inj H
    go_enter Try.func11, Try.ntmps11
    try go_wp2_with (first | ((with_reducible refine gate_dst (N := 5) rfl ?_); refine box_event ?hg (N := 5) ?hd (cs := #[.int .i64 a1_0, .int .i64 a1_1, .int .i64 a1_2, .int .i64 a1_3, .int .i64 a1_4]) (t := 82) ?hr ?_; (case hd => rfl); (case hg => rfl); (case hr => first | (go_simp; done) | (go_simp; rfl)); intro gb681 hg w153 hbox hb; refine swap4_ (below_step atgB_ hb) (hbox) ((by rw [hg]; exact (below_size atgB_) : w.heap.size ≤ gb681)) ((by rw [hg]; exact (below_size atgB_) : w.heap.size ≤ gb681)) ?_; clear HB; intro HB BK681 GW681 GE681; clear hb hbox hg))
    have n0_ := Aside0.mk (blk_drew BK681.out)
    have n1_ := Aside0.mk (below_drew1 HB.out)
    clear BK681
    clear HB
    have BK681 := n0_
    have HB := n1_
    clear n0_ n1_
    refine start_ (n := 9) (S := fun w' => w'.cell? ⟨gb681, 0, none⟩ = some (.int .i64 a1_0) ∧ w'.cell? ⟨gb681, 1, none⟩ = some (.int .i64 a1_1) ∧ w'.cell? ⟨gb681, 2, none⟩ = some (.int .i64 a1_2) ∧ w'.cell? ⟨gb681, 3, none⟩ = some (.int .i64 a1_3) ∧ w'.cell? ⟨gb681, 4, none⟩ = some (.int .i64 a1_4)) (ds := []) (tf_ 0 9) (by kernel_rfl) rfl rfl ⟨(blk_cell BK681.out 0).trans rfl, (blk_cell BK681.out 1).trans rfl, (blk_cell BK681.out 2).trans rfl, (blk_cell BK681.out 3).trans rfl, (blk_cell BK681.out 4).trans rfl⟩ (fun hHeld => ?_); refine with_tabW laws_FnExactEmit.tab5 laws_FnExactEmit.bits5 (fun HT_ HW_ => ?_)
    generalize w153.drew = w154 at BK681 HB hHeld ⊢
    refine pureQ_ (i := 0) (N := some 23) (tf_ 1 8) (h := ?_)
    refine pureQ_ (i := 4) (N := some 27) #[true, false, false, false, true, false, false, false, false] (h := ?_)
    refine pureQ_ (i := 5) (N := some 28) #[true, false, false, false, true, true, false, false, false] (h := ?_)
    refine takeQ_ (i := 2) (N := some 25) #[true, false, true, false, true, true, false, false, false] hHeld (hy := Or.inl ⟨by rfl, att16_0_16⟩) (h := ?_)
    refine one_ (i := 1) (N := some 24) #[true, true, true, false, true, true, false, false, false] rfl rfl (one_of HT_.out (by kernel_rfl)) (by decide) (fun K hK => ?_)
    refine goes_ Try.func36 (by kernel_rfl) rfl #[.slice A0 l0.length c0] (by rfl) rfl rfl atgM_ ?_
    with_reducible refine (laws_toIntS.calls k _ _ l0 t682 _ ?side1 ?side2 A9.out).mono ?_
    (case side1 => repeat (first | exact (Kd.C_below HR0.out HB.out) | (with_reducible refine Kd.C_alloc ?_ _) | (with_reducible refine Kd.C_drewN ?_ _) | (with_reducible refine Kd.C_drew ?_)))
    (case side2 => exact HC0.out)
    rintro e w155 ⟨v683, rfl, ho0, hb⟩
    refine ⟨_, rfl, ?_⟩
    have n0_ := Aside0.mk (Kd.R_lower ho0 (below_size att16_0_0))
    have n1_ := Aside0.mk (blk_below (g := gb681) (o := .cells #[.int .i64 a1_0, .int .i64 a1_1, .int .i64 a1_2, .int .i64 a1_3, .int .i64 a1_4] 82 (0, 0)) att16_0_2 hb)
    have n2_ := Aside0.mk (below_step att16_0_0 hb)
    clear BK681
    clear HB
    have HO684 := n0_
    have BK681 := n1_
    have HB := n2_
    clear n0_ n1_ n2_
    (try clear hb)
    (try clear hb2)
    (try clear hk)
    (try clear hi)
    (try clear ho0)
    refine hK.out _ _ ⟨(blk_cell BK681.out 0).trans rfl, (blk_cell BK681.out 1).trans rfl, (blk_cell BK681.out 2).trans rfl, (blk_cell BK681.out 3).trans rfl, (blk_cell BK681.out 4).trans rfl⟩ (fun hHeld => ?_)
    clear hK K
    refine normS_ (N := some 24) (h := ?_)
    refine one_ (i := 3) (N := some 26) (tf_ 6 3) rfl rfl (one_of HT_.out (by kernel_rfl)) (by decide) (fun K hK => ?_)
    refine goes_ Try.func67 (by kernel_rfl) rfl #[.agg #[.int .i64 a1_0, .int .i64 a1_1, .int .i64 a1_2, .int .i64 a1_3, .int .i64 a1_4]] (by rfl) rfl rfl atgM_ ?_
    with_reducible refine (laws_toIns.calls a1_0 a1_1 a1_2 a1_3 a1_4 t685 t686 t687 t688 t689 _ A10.out).mono ?_
    rintro e w156 ⟨rfl, hb⟩
    refine ⟨_, rfl, ?_⟩
    have n0_ := Aside0.mk (Kd.R_below att16_0_3 hb)
    have n1_ := Aside0.mk (blk_below (g := gb681) (o := .cells #[.int .i64 a1_0, .int .i64 a1_1, .int .i64 a1_2, .int .i64 a1_3, .int .i64 a1_4] 82 (0, 0)) att16_0_2 hb)
    have n2_ := Aside0.mk (below_step att16_0_0 hb)
    clear HO684
    clear BK681
    clear HB
    have HO684 := n0_
    have BK681 := n1_
    have HB := n2_
    clear n0_ n1_ n2_
    (try clear hb)
    (try clear hb2)
    (try clear hk)
    (try clear hi)
    refine hK.out _ _ ⟨(blk_cell BK681.out 0).trans rfl, (blk_cell BK681.out 1).trans rfl, (blk_cell BK681.out 2).trans rfl, (blk_cell BK681.out 3).trans rfl, (blk_cell BK681.out 4).trans rfl⟩ (fun hHeld => ?_)
    clear hK K
    refine normS_ (N := some 26) (h := ?_)
    refine one_ (i := 6) (N := some 29) (tf_ 7 2) rfl rfl (one_of HT_.out (by kernel_rfl)) (by decide) (fun K hK => ?_)
    refine goes_ Try.func36 (by kernel_rfl) rfl #[.slice A3 l3.length c3] (by rfl) rfl rfl atgM_ ?_
    with_reducible refine (laws_toIntS.calls k _ _ l3 t690 _ ?side1 ?side2 A11.out).mono ?_
    (case side1 => repeat (first | exact (Kd.C_below HR3.out HB.out) | (with_reducible refine Kd.C_alloc ?_ _) | (with_reducible refine Kd.C_drewN ?_ _) | (with_reducible refine Kd.C_drew ?_)))
    (case side2 => exact HC3.out)
    rintro e w157 ⟨v691, rfl, ho0, hb⟩
    refine ⟨_, rfl, ?_⟩
    have n0_ := Aside0.mk (Kd.R_elder' att16_0_3 (Kd.R_base ho0) hb)
    have n1_ := Aside0.mk (Kd.R_lower (Kd.R_new' ho0 (Kd.R_lt att16_0_3)) (below_size att16_0_0))
    have n2_ := Aside0.mk (blk_below (g := gb681) (o := .cells #[.int .i64 a1_0, .int .i64 a1_1, .int .i64 a1_2, .int .i64 a1_3, .int .i64 a1_4] 82 (0, 0)) att16_0_2 hb)
    have n3_ := Aside0.mk (below_step att16_0_0 hb)
    clear HO684
    clear BK681
    clear HB
    have HO684 := n0_
    have HO692 := n1_
    have BK681 := n2_
    have HB := n3_
    clear n0_ n1_ n2_ n3_
    (try clear hb)
    (try clear hb2)
    (try clear hk)
    (try clear hi)
    (try clear ho0)
    obtain ⟨Ao158, co158, eo158⟩ := Kd.R_slice HO684.out
    (first | subst eo158 | (injection eo158 with f1_ f2_ f3_; have f4_ := f1_.symm; have f5_ := f3_.symm; clear f1_ f2_ f3_; subst f4_; subst f5_))
    obtain ⟨Ao159, co159, eo159⟩ := Kd.R_slice HO692.out
    (first | subst eo159 | (injection eo159 with f1_ f2_ f3_; have f4_ := f1_.symm; have f5_ := f3_.symm; clear f1_ f2_ f3_; subst f4_; subst f5_))
    refine hK.out _ _ ⟨(blk_cell BK681.out 0).trans rfl, (blk_cell BK681.out 1).trans rfl, (blk_cell BK681.out 2).trans rfl, (blk_cell BK681.out 3).trans rfl, (blk_cell BK681.out 4).trans rfl⟩ (fun hHeld => ?_)
    clear hK K
    refine normS_ (N := some 29) (h := ?_)
    refine one_ (i := 7) (N := some 30) (tf_ 8 1) rfl rfl (one_of HT_.out (by kernel_rfl)) (by decide) (fun K hK => ?_)
    refine goes_ Try.func23 (by kernel_rfl) rfl #[.slice Ao158 t682.length co158, .agg #[.int .i64 t685, .int .i64 t686, .int .i64 t687, .int .i64 t688, .int .i64 t689], .int .i64 a2, .slice Ao159 t690.length co159] (by rfl) rfl rfl atgM_ ?_
    with_reducible refine (spec_Emit.calls k _ _ t682 t685 t686 t687 t688 t689 a2 _ _ t690 t693 _ ?side1 ?side2 ?side3 ?side4 A12.out).mono ?_
    (case side1 => repeat (first | exact (Kd.R_reads' HO684.out).2.2 | (with_reducible refine Kd.C_alloc ?_ _) | (with_reducible refine Kd.C_drewN ?_ _) | (with_reducible refine Kd.C_drew ?_)))
    (case side2 => exact (Kd.R_reads' HO684.out).2.1)
    (case side3 => repeat (first | exact (Kd.R_reads' HO692.out).2.2 | (with_reducible refine Kd.C_alloc ?_ _) | (with_reducible refine Kd.C_drewN ?_ _) | (with_reducible refine Kd.C_drew ?_)))
    (case side4 => exact (Kd.R_reads' HO692.out).2.1)
    rintro e w160 ⟨v694, rfl, ho0, hb⟩
    refine ⟨_, rfl, ?_⟩
    have n0_ := Aside0.mk (Kd.R_below att16_0_3 hb)
    have n1_ := Aside0.mk (Kd.R_below att16_0_4 hb)
    have n2_ := Aside0.mk (Kd.R_lower ho0 (below_size att16_0_0))
    have n3_ := Aside0.mk (blk_below (g := gb681) (o := .cells #[.int .i64 a1_0, .int .i64 a1_1, .int .i64 a1_2, .int .i64 a1_3, .int .i64 a1_4] 82 (0, 0)) att16_0_2 hb)
    have n4_ := Aside0.mk (below_step att16_0_0 hb)
    clear HO684
    clear HO692
    clear BK681
    clear HB
    have HO684 := n0_
    have HO692 := n1_
    have HO695 := n2_
    have BK681 := n3_
    have HB := n4_
    clear n0_ n1_ n2_ n3_ n4_
    (try clear hb)
    (try clear hb2)
    (try clear hk)
    (try clear hi)
    (try clear ho0)
    refine hK.out _ _ ⟨(blk_cell BK681.out 0).trans rfl, (blk_cell BK681.out 1).trans rfl, (blk_cell BK681.out 2).trans rfl, (blk_cell BK681.out 3).trans rfl, (blk_cell BK681.out 4).trans rfl⟩ (fun hHeld => ?_)
    clear hK K
    refine normS_ (N := some 30) (h := ?_)
    refine pureQ_ (i := 8) (N := some 9) (tf_ 9 0) (h := ?_)
    refine done_ (done_of HT_.out (by kernel_rfl)) ?_
    try go_wp2_with (first | ((with_reducible refine gate_callee (f := 36) rfl ?_); refine goesL_ (some 32) rfl rfl Try.func36 (by kernel_rfl) rfl #[.slice A0 l0.length c0] rfl atgM_ ?_; (with_reducible refine (laws_toIntS.calls k _ _ l0 t696 _ ?side1 ?side2 A13.out).mono ?_); (case side1 => repeat (first | exact (Kd.C_below HR0.out HB.out) | (with_reducible refine Kd.C_alloc ?_ _) | (with_reducible refine Kd.C_drewN ?_ _) | (with_reducible refine Kd.C_drew ?_))); (case side2 => exact HC0.out); rintro e w161 ⟨v697, rfl, ho0, hb⟩; refine ⟨_, rfl, ?_⟩; refine swap6_ (Kd.R_elder' att16_0_3 (Kd.R_base ho0) hb) (Kd.R_elder' att16_0_4 (Kd.R_base ho0) hb) (Kd.R_below att16_0_5 hb) (Kd.R_lower (Kd.R_new' (Kd.R_new' ho0 (Kd.R_lt att16_0_3)) (Kd.R_lt att16_0_4)) (below_size att16_0_0)) (blk_below (g := gb681) (o := .cells #[.int .i64 a1_0, .int .i64 a1_1, .int .i64 a1_2, .int .i64 a1_3, .int .i64 a1_4] 82 (0, 0)) att16_0_2 hb) (below_step att16_0_0 hb) ?_; clear HO684 HO692 HO695 BK681 HB; intro HO684 HO692 HO695 HO698 BK681 HB; (try clear hb); (try clear hb2); (try clear hk); (try clear hi); (try clear ho0)) | ((with_reducible refine gate_callee (f := 36) rfl ?_); refine goesL_ (some 34) rfl rfl Try.func36 (by kernel_rfl) rfl #[.slice A3 l3.length c3] rfl atgM_ ?_; (with_reducible refine (laws_toIntS.calls k _ _ l3 t699 _ ?side1 ?side2 A14.out).mono ?_); (case side1 => repeat (first | exact (Kd.C_below HR3.out HB.out) | (with_reducible refine Kd.C_alloc ?_ _) | (with_reducible refine Kd.C_drewN ?_ _) | (with_reducible refine Kd.C_drew ?_))); (case side2 => exact HC3.out); rintro e w162 ⟨v700, rfl, ho0, hb⟩; refine ⟨_, rfl, ?_⟩; refine swap7_ (Kd.R_elder' att16_0_3 (Kd.R_base ho0) hb) (Kd.R_elder' att16_0_4 (Kd.R_base ho0) hb) (Kd.R_below att16_0_5 hb) (Kd.R_elder' att16_0_6 (Kd.R_base ho0) hb) (Kd.R_lower (Kd.R_new' (Kd.R_new' (Kd.R_new' ho0 (Kd.R_lt att16_0_3)) (Kd.R_lt att16_0_4)) (Kd.R_lt att16_0_6)) (below_size att16_0_0)) (blk_below (g := gb681) (o := .cells #[.int .i64 a1_0, .int .i64 a1_1, .int .i64 a1_2, .int .i64 a1_3, .int .i64 a1_4] 82 (0, 0)) att16_0_2 hb) (below_step att16_0_0 hb) ?_; clear HO684 HO692 HO695 HO698 BK681 HB; intro HO684 HO692 HO695 HO698 HO701 BK681 HB; (try clear hb); (try clear hb2); (try clear hk); (try clear hi); (try clear ho0); obtain ⟨hcz163_0, hcz163_1, hcz163_2, hcz163_3, hcz163_4, hfz163_0, hfz163_1, hfz163_2, hfz163_3, hfz163_4⟩ := blkB5_ BK681) | ((with_reducible refine gate_callee (f := 67) rfl ?_); refine goesL_ (some 37) rfl rfl Try.func67 (by kernel_rfl) rfl #[.agg #[.int .i64 a1_0, .int .i64 a1_1, .int .i64 a1_2, .int .i64 a1_3, .int .i64 a1_4]] rfl atgM_ ?_; (with_reducible refine (laws_toIns.calls a1_0 a1_1 a1_2 a1_3 a1_4 t702 t703 t704 t705 t706 _ A15.out).mono ?_); rintro e w164 ⟨rfl, hb⟩; refine ⟨_, rfl, ?_⟩; refine swap7_ (Kd.R_below att16_0_3 hb) (Kd.R_below att16_0_4 hb) (Kd.R_below att16_0_5 hb) (Kd.R_below att16_0_6 hb) (Kd.R_below att16_0_9 hb) (blk_below (g := gb681) (o := .cells #[.int .i64 a1_0, .int .i64 a1_1, .int .i64 a1_2, .int .i64 a1_3, .int .i64 a1_4] 82 (0, 0)) att16_0_2 hb) (below_step att16_0_0 hb) ?_; clear HO684 HO692 HO695 HO698 HO701 BK681 HB; intro HO684 HO692 HO695 HO698 HO701 BK681 HB; (try clear hb); (try clear hb2); (try clear hk); (try clear hi); obtain ⟨Ao165, co165, eo165⟩ := Kd.R_slice HO698.out; subst eo165; obtain ⟨Ao166, co166, eo166⟩ := Kd.R_slice HO701.out; subst eo166) | ((with_reducible refine gate_callee (f := 22) rfl ?_); refine goesL_ (some 40) rfl rfl Try.func22 (by kernel_rfl) rfl #[.slice Ao165 t696.length co165, .agg #[.int .i64 t702, .int .i64 t703, .int .i64 t704, .int .i64 t705, .int .i64 t706], .int .i64 a2, .slice Ao166 t699.length co166] rfl atgM_ ?_; (with_reducible refine (impl_Emit.calls k _ _ t696 t702 t703 t704 t705 t706 a2 _ _ t699 t707 _ ?side1 ?side2 ?side3 ?side4 A16.out).mono ?_); (case side1 => repeat (first | exact (Kd.R_reads' HO698.out).2.2 | (with_reducible refine Kd.C_alloc ?_ _) | (with_reducible refine Kd.C_drewN ?_ _) | (with_reducible refine Kd.C_drew ?_))); (case side2 => exact (Kd.R_reads' HO698.out).2.1); (case side3 => repeat (first | exact (Kd.R_reads' HO701.out).2.2 | (with_reducible refine Kd.C_alloc ?_ _) | (with_reducible refine Kd.C_drewN ?_ _) | (with_reducible refine Kd.C_drew ?_))); (case side4 => exact (Kd.R_reads' HO701.out).2.1); rintro e w167 ⟨v708, rfl, ho0, hb⟩; refine ⟨_, rfl, ?_⟩; refine swap8_ (Kd.R_below att16_0_3 hb) (Kd.R_below att16_0_4 hb) (Kd.R_elder' att16_0_5 (Kd.R_base ho0) hb) (Kd.R_below att16_0_6 hb) (Kd.R_below att16_0_9 hb) (Kd.R_lower (Kd.R_new' ho0 (Kd.R_lt att16_0_5)) (below_size att16_0_0)) (blk_below (g := gb681) (o := .cells #[.int .i64 a1_0, .int .i64 a1_1, .int .i64 a1_2, .int .i64 a1_3, .int .i64 a1_4] 82 (0, 0)) att16_0_2 hb) (below_step att16_0_0 hb) ?_; clear HO684 HO692 HO695 HO698 HO701 BK681 HB; intro HO684 HO692 HO695 HO698 HO701 HO709 BK681 HB; (try clear hb); (try clear hb2); (try clear hk); (try clear hi); (try clear ho0); obtain ⟨Ao168, co168, eo168⟩ := Kd.R_slice HO709.out; subst eo168; obtain ⟨Ao169, co169, eo169⟩ := Kd.R_slice HO695.out; subst eo169) | ((with_reducible refine gate_callee (f := 68) rfl ?_); refine goesL_ (some 43) rfl rfl Try.func68 (by kernel_rfl) rfl #[.slice Ao168 t707.length co168, .slice Ao169 t693.length co169] rfl atgM_ ?_; (with_reducible refine (laws_eqStepS.calls k _ _ t707 _ _ t693 false _ ?side1 ?side2 ?side3 ?side4 A17.out).mono ?_); (case side1 => repeat (first | exact (Kd.R_reads' HO709.out).2.2 | (with_reducible refine Kd.C_alloc ?_ _) | (with_reducible refine Kd.C_drewN ?_ _) | (with_reducible refine Kd.C_drew ?_))); (case side2 => exact (Kd.R_reads' HO709.out).2.1); (case side3 => repeat (first | exact (Kd.R_reads' HO695.out).2.2 | (with_reducible refine Kd.C_alloc ?_ _) | (with_reducible refine Kd.C_drewN ?_ _) | (with_reducible refine Kd.C_drew ?_))); (case side4 => exact (Kd.R_reads' HO695.out).2.1); rintro e w170 ⟨rfl, hb⟩; refine ⟨_, rfl, ?_⟩; refine swap8_ (Kd.R_below att16_0_3 hb) (Kd.R_below att16_0_4 hb) (Kd.R_below att16_0_5 hb) (Kd.R_below att16_0_6 hb) (Kd.R_below att16_0_9 hb) (Kd.R_below att16_0_13 hb) (blk_below (g := gb681) (o := .cells #[.int .i64 a1_0, .int .i64 a1_1, .int .i64 a1_2, .int .i64 a1_3, .int .i64 a1_4] 82 (0, 0)) att16_0_2 hb) (below_step att16_0_0 hb) ?_; clear HO684 HO692 HO695 HO698 HO701 HO709 BK681 HB; intro HO684 HO692 HO695 HO698 HO701 HO709 BK681 HB; (try clear hb); (try clear hb2); (try clear hk); (try clear hi)))
    go_ret
    exact ⟨retT_, att16_0_0⟩

end Go.Proofs.Ytonlhgkpmjefkaa.XFnExactEmit
