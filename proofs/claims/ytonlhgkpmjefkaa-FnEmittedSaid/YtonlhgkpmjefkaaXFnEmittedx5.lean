/- Each Go function that the law reaches as a Lean function, and that Go comes to just its answer; written by this session's xprint.py over the kit's printer. -/
import Derived.Test.YtonlhgkpmjefkaaXFnEmittedx0
import Derived.Test.YtonlhgkpmjefkaaXFnEmittedx3
import Derived.Test.YtonlhgkpmjefkaaXFnEmittedx4
namespace Go.Proofs.Ytonlhgkpmjefkaa.XFnEmitted
open Go.RowKit Go.Proofs.YtonlhgkpmjefkaaW.PrintWords Go.Proofs.YtonlhgkpmjefkaaW.PrintLast Go.Proofs.YtonlhgkpmjefkaaW.PrintMore
attribute [local go_sem] max2_int min2_int max_two min_two max_three min_three max_four min_four   -- for this text's walks alone
set_option linter.unusedVariables false
set_option linter.unusedSimpArgs false

theorem att6_0_1 {p : Prop} (h : p := by (with_reducible repeat (first | refine blk_drewN ?_ _ | refine blk_drew ?_ | refine blk_alloc ?_ _)); exact BK210.out) : p := h
theorem att6_0_3 {p : Prop} (h : p := by (with_reducible repeat (first | refine blk_drewN ?_ _ | refine blk_drew ?_ | refine blk_alloc ?_ _)); refine blk_far ?_ NB210_227.out _; (with_reducible repeat (first | refine blk_drewN ?_ _ | refine blk_drew ?_ | refine blk_alloc ?_ _)); refine blk_far ?_ NB210_227.out _; (with_reducible repeat (first | refine blk_drewN ?_ _ | refine blk_drew ?_ | refine blk_alloc ?_ _)); refine blk_far ?_ NB210_227.out _; (with_reducible repeat (first | refine blk_drewN ?_ _ | refine blk_drew ?_ | refine blk_alloc ?_ _)); refine blk_far ?_ NB210_227.out _; (with_reducible repeat (first | refine blk_drewN ?_ _ | refine blk_drew ?_ | refine blk_alloc ?_ _)); refine blk_far ?_ NB210_227.out _; (with_reducible repeat (first | refine blk_drewN ?_ _ | refine blk_drew ?_ | refine blk_alloc ?_ _)); exact BK210.out) : p := h
theorem att6_0_4 {p : Prop} (h : p := by repeat (first | (with_reducible first | exact HB.out | apply below_alloc | apply pw_below_drewN | apply below_drew1 | refine below_set ?_ (IsS170.ge HI214.out) | refine below_set ?_ GE210.out) | exact HB.out)) : p := h
theorem att6_0_5 {p : Prop} (h : p := by repeat (first | (with_reducible first | exact HB.out | apply below_alloc | apply pw_below_drewN | apply below_drew1 | refine below_set ?_ (IsS170.ge HI214.out) | refine below_set ?_ GE210.out | refine below_set ?_ GE227.out) | exact HB.out)) : p := h
theorem att6_0_6 {p : Prop} (h : p := by exact toR_ (HO217.out)) : p := h
theorem att6_0_7 {p : Prop} (h : p := by (with_reducible repeat (first | refine blk_drewN ?_ _ | refine blk_drew ?_ | refine blk_alloc ?_ _)); refine blk_put (cs := #[.int .i64 t220, .int .i64 t221, .int .i64 t222, .int .i64 t223, .int .i64 0]) ?_ 4 _ rfl; (with_reducible repeat (first | refine blk_drewN ?_ _ | refine blk_drew ?_ | refine blk_alloc ?_ _)); refine blk_put (cs := #[.int .i64 t220, .int .i64 t221, .int .i64 t222, .int .i64 0, .int .i64 0]) ?_ 3 _ rfl; (with_reducible repeat (first | refine blk_drewN ?_ _ | refine blk_drew ?_ | refine blk_alloc ?_ _)); refine blk_put (cs := #[.int .i64 t220, .int .i64 t221, .int .i64 0, .int .i64 0, .int .i64 0]) ?_ 2 _ rfl; (with_reducible repeat (first | refine blk_drewN ?_ _ | refine blk_drew ?_ | refine blk_alloc ?_ _)); refine blk_put (cs := #[.int .i64 t220, .int .i64 0, .int .i64 0, .int .i64 0, .int .i64 0]) ?_ 1 _ rfl; (with_reducible repeat (first | refine blk_drewN ?_ _ | refine blk_drew ?_ | refine blk_alloc ?_ _)); refine blk_put (cs := #[.int .i64 0, .int .i64 0, .int .i64 0, .int .i64 0, .int .i64 0]) ?_ 0 _ rfl; (with_reducible repeat (first | refine blk_drewN ?_ _ | refine blk_drew ?_ | refine blk_alloc ?_ _)); exact BK227.out) : p := h
theorem att6_0_8 {p : Prop} (h : p := by repeat (first | (with_reducible first | exact HI214.out | apply IsS170.alloc | apply IsS170.drewN | apply IsS170.drew | apply IsS170.set_1 | apply IsS170.set_2 | refine IsS170.far ?_ NB214_210.out _ | refine IsS170.far ?_ NB214_227.out _) | exact HI214.out)) : p := h
theorem att6_0_9 {p : Prop} (h : p := by repeat (first | (with_reducible first | exact HB.out | apply below_alloc | apply pw_below_drewN | apply below_drew1 | refine below_set ?_ GE210.out | refine below_set ?_ GE227.out) | exact HB.out)) : p := h
theorem att6_0_10 {p : Prop} (h : p := by (with_reducible repeat (first | refine blk_drewN ?_ _ | refine blk_drew ?_ | refine blk_alloc ?_ _)); exact BK227.out) : p := h
theorem att6_0_11 {p : Prop} (h : p := by repeat (first | (with_reducible first | exact HB.out | apply below_alloc | apply pw_below_drewN | apply below_drew1 | refine below_set ?_ GE250.out) | exact HB.out)) : p := h
theorem att6_0_12 {p : Prop} (h : p := by (with_reducible repeat (first | refine blk_drewN ?_ _ | refine blk_drew ?_ | refine blk_alloc ?_ _)); refine blk_far ?_ NB227_210.out _; (with_reducible repeat (first | refine blk_drewN ?_ _ | refine blk_drew ?_ | refine blk_alloc ?_ _)); refine blk_far ?_ NB227_210.out _; (with_reducible repeat (first | refine blk_drewN ?_ _ | refine blk_drew ?_ | refine blk_alloc ?_ _)); refine blk_far ?_ NB227_210.out _; (with_reducible repeat (first | refine blk_drewN ?_ _ | refine blk_drew ?_ | refine blk_alloc ?_ _)); refine blk_far ?_ NB227_210.out _; (with_reducible repeat (first | refine blk_drewN ?_ _ | refine blk_drew ?_ | refine blk_alloc ?_ _)); refine blk_far ?_ NB227_210.out _; (with_reducible repeat (first | refine blk_drewN ?_ _ | refine blk_drew ?_ | refine blk_alloc ?_ _)); exact BK227.out) : p := h
theorem att6_0_13 {p : Prop} (h : p := by exact toR_ ((Kd.R_mono (farR5_ (Kd.R_types HO217.out BK227.out (by decide))) (fun _ h_ => h_.1)))) : p := h
theorem att6_0_14 {p : Prop} (h : p := by repeat (first | (with_reducible first | exact (Q_HI214_e3 h0_) | apply IsS170.alloc | apply IsS170.drewN | apply IsS170.drew | apply IsS170.set_1 | apply IsS170.set_2 | refine IsS170.far ?_ NB214_210.out _ | refine IsS170.far ?_ NB214_227.out _) | exact (Q_HI214_e3 h0_))) : p := h
theorem att6_0_16 {p : Prop} (h : p := by repeat (first | (with_reducible first | exact (Q_HI214 h0_) | apply IsS170.alloc | apply IsS170.drewN | apply IsS170.drew | apply IsS170.set_1 | apply IsS170.set_2 | refine IsS170.far ?_ NB214_210.out _ | refine IsS170.far ?_ NB214_227.out _) | exact (Q_HI214 h0_))) : p := h
theorem att6_0_17 {p : Prop} (h : p := by repeat (first | (with_reducible first | exact HI214.out | apply IsS170.alloc | apply IsS170.drewN | apply IsS170.drew | apply IsS170.set_1 | apply IsS170.set_2 | refine IsS170.far ?_ NB214_210.out _) | exact HI214.out)) : p := h
theorem att6_0_18 {p : Prop} (h : p := by exact toR_ (Kd.R_mono HO217.out (fun _ hk => trivial))) : p := h
theorem att6_0_19 {p : Prop} (h : p := by (with_reducible repeat (first | refine blk_drewN ?_ _ | refine blk_drew ?_ | refine blk_alloc ?_ _)); exact (Q_BK210_e6 h0_)) : p := h
theorem att6_0_20 {p : Prop} (h : p := by (with_reducible repeat (first | refine blk_drewN ?_ _ | refine blk_drew ?_ | refine blk_alloc ?_ _)); exact (Q_BK210 h0_)) : p := h
theorem att6_0_21 {p : Prop} (h : p := by exact toR_ ((Q_HO249 h0_))) : p := h
theorem att6_0_22 {p : Prop} (h : p := by exact toR_ ((Q_HO243 h0_))) : p := h
theorem att6_0_23 {p : Prop} (h : p := by repeat (first | exact Below.refl _ _ | apply below_alloc | apply below_drew1)) : p := h
/-! ### spec_DrawEmit: function 21 -/
def spec_DrawEmit.f (k : Nat) (l0 : List Int) : Option (List Int × Int × Int × Int × Int × Int × Int × List Int) := (spec_l1New.f k l0).bind fun bt211 => ((spec_l9DrawCaps.f k bt211.1 bt211.2.1 bt211.2.2).bind fun bt215 => ((spec_l1DrawIns.f k bt211.1 bt215.2.1 bt215.2.2 5 (bt215.1.length : Int)).bind fun bt220 => ((spec_l1Once.f bt211.1 bt220.2.2.2.2.2.1 bt220.2.2.2.2.2.2 6).bind fun bt228 => (if bt228.1 = true then ((spec_l1Spoil.f bt211.1 bt228.2.1 bt228.2.2 bt220.1 bt220.2.1 bt220.2.2.1 bt220.2.2.2.1 bt220.2.2.2.2.1).bind fun bt231 => ((spec_l1Below.f bt211.1 bt231.2.2.2.2.2.1 bt231.2.2.2.2.2.2 200).bind fun bt238 => (some (bt215.1, bt231.1, bt231.2.1, bt231.2.2.1, bt231.2.2.2.1, bt231.2.2.2.2.1, bt238.1, (([0, 1, 30, 60, 61] : List Int)))))) else ((spec_l1Below.f bt211.1 bt228.2.1 bt228.2.2 200).bind fun bt244 => (some (bt215.1, bt220.1, bt220.2.1, bt220.2.2.1, bt220.2.2.2.1, bt220.2.2.2.2.1, bt244.1, (([0, 1, 30, 60, 61] : List Int)))))))))
theorem spec_DrawEmit.mono : ∀ a0 k, LeO (spec_DrawEmit.f k a0) (spec_DrawEmit.f (k + 1) a0) := by
 intro a0 k
 unfold spec_DrawEmit.f
 repeat' (with_reducible first | exact spec_l1DrawIns.mono .. | exact spec_l1New.mono _ _ | exact spec_l9DrawCaps.mono .. | exact LeO.refl _ | exact LeO.none _ | refine LeO.ite ?_ ?_ | refine LeO.bind ?_ (fun _ => ?_))
def spec_DrawEmit.T6 : Bool × List (List Nat × List Nat) := (true, [([], []), ([], []), ([], []), ([2], [2]), ([], []), ([0, 3, 0], [0]), ([1, 5, 0, 1, 5], [1]), ([3, 6, 0, 1, 2, 3, 5, 6], [3]), ([4, 7, 0, 1, 2, 3, 4, 5, 6, 7], [4])])
def spec_DrawEmit.B6 : List Nat := [0, 0, 0, 4, 0, 13, 47, 111, 255]
theorem spec_DrawEmit.tab6 : rtab .any (opsOf Try.f21 6) = spec_DrawEmit.T6 := by kernel_rfl
theorem spec_DrawEmit.bits6 : waitsOk spec_DrawEmit.T6.2 spec_DrawEmit.B6 = true := by kernel_rfl
set_option maxHeartbeats 80000000 in
set_option maxRecDepth 100000 in
theorem spec_DrawEmit.calls (k : Nat) (A0 : Option Addr) (c0 : Nat) (l0 : List Int) (r1 : List Int) (r2 : Int) (r3 : Int) (r4 : Int) (r5 : Int) (r6 : Int) (r7 : Int) (r8 : List Int) (w : World) (hr0 : Kd.C (Kd.int .u8) w A0 l0.length l0) (hc0 : l0.length ≤ c0) (h : spec_DrawEmit.f k l0 = some (r1, r2, r3, r4, r5, r6, r7, r8)) :
  Calls Try.prog 21 #[.slice A0 l0.length c0] w fun e w' => ∃ v0_ v7_ : Value, e = .returned (.tuple #[v0_, .agg #[.int .i64 r2, .int .i64 r3, .int .i64 r4, .int .i64 r5, .int .i64 r6], .int .i64 r7, v7_]) ∧ Kd.R (Kd.int .i64) 3 w' w.heap.size (fun k_ => some k_ ≠ (v7_ : Value).ownBlock) v0_ r1 ∧ Kd.R (Kd.int .i64) 3 w' w.heap.size (fun k_ => some k_ ≠ (v0_ : Value).ownBlock) v7_ r8 ∧ Below w.heap.size w w' := by
 have hu37 := Try.underlying37
 have HR0 := Aside0.mk hr0
 have HC0 := Aside0.mk hc0
 clear hr0 hc0
 have HB := Aside0.mk (Below.refl w.heap.size w)
 have H : ((spec_l1New.f k l0).bind fun bt211 => ((spec_l9DrawCaps.f k bt211.1 bt211.2.1 bt211.2.2).bind fun bt215 => ((spec_l1DrawIns.f k bt211.1 bt215.2.1 bt215.2.2 5 (bt215.1.length : Int)).bind fun bt220 => ((spec_l1Once.f bt211.1 bt220.2.2.2.2.2.1 bt220.2.2.2.2.2.2 6).bind fun bt228 => (if bt228.1 = true then ((spec_l1Spoil.f bt211.1 bt228.2.1 bt228.2.2 bt220.1 bt220.2.1 bt220.2.2.1 bt220.2.2.2.1 bt220.2.2.2.2.1).bind fun bt231 => ((spec_l1Below.f bt211.1 bt231.2.2.2.2.2.1 bt231.2.2.2.2.2.2 200).bind fun bt238 => (some (bt215.1, bt231.1, bt231.2.1, bt231.2.2.1, bt231.2.2.2.1, bt231.2.2.2.2.1, bt238.1, (([0, 1, 30, 60, 61] : List Int)))))) else ((spec_l1Below.f bt211.1 bt228.2.1 bt228.2.2 200).bind fun bt244 => (some (bt215.1, bt220.1, bt220.2.1, bt220.2.2.1, bt220.2.2.2.1, bt220.2.2.2.2.1, bt244.1, (([0, 1, 30, 60, 61] : List Int)))))))))) = some (r1, r2, r3, r4, r5, r6, r7, r8) := h
 clear h
 replace H := Option.bind_eq_some_iff.mp H
 obtain ⟨⟨t211, t212, t213⟩, A20, H⟩ := H
 (try dsimp only at H)
 have A2 := Aside0.mk A20
 clear A20
 replace H := Option.bind_eq_some_iff.mp H
 obtain ⟨⟨t215, t218, t219⟩, A30, H⟩ := H
 (try dsimp only at H)
 have A3 := Aside0.mk A30
 clear A30
 replace H := Option.bind_eq_some_iff.mp H
 obtain ⟨⟨t220, t221, t222, t223, t224, t225, t226⟩, A40, H⟩ := H
 (try dsimp only at H)
 have A4 := Aside0.mk A40
 clear A40
 replace H := Option.bind_eq_some_iff.mp H
 obtain ⟨⟨t228, t229, t230⟩, A50, H⟩ := H
 (try dsimp only at H)
 have A5 := Aside0.mk A50
 clear A50
 by_cases c6 : t228 = true
 ·subst c6
  rw [if_pos rfl] at H
  replace H := Option.bind_eq_some_iff.mp H
  obtain ⟨⟨t231, t232, t233, t234, t235, t236, t237⟩, A70, H⟩ := H
  (try dsimp only at H)
  have A7 := Aside0.mk A70
  clear A70
  replace H := Option.bind_eq_some_iff.mp H
  obtain ⟨⟨t238, t239, t240⟩, A80, H⟩ := H
  (try dsimp only at H)
  have A8 := Aside0.mk A80
  clear A80
  obtain ⟨y241, hy241⟩ : ∃ y_ : List Int, y_ = (([0, 1, 30, 60, 61] : List Int)) := ⟨_, rfl⟩
  replace H : (some (t215, t231, t232, t233, t234, t235, t238, y241)) = some (r1, r2, r3, r4, r5, r6, r7, r8) := by rw [hy241]; exact H
  have Ny241 := Aside0.mk hy241
  clear hy241
  simp only [Option.some.injEq, Prod.mk.injEq] at H
  obtain ⟨rfl, rfl, rfl, rfl, rfl, rfl, rfl, rfl⟩ := H
  go_enter Try.func21, Try.ntmps21
  try go_wp2_with (first | ((with_reducible refine gate_dst (N := 3) rfl ?_); refine box_event ?hg (N := 3) ?hd (cs := #[.int .i64 0, .int .i64 0, .int .i64 0, .int .i64 0, .int .i64 0]) (t := 37) ?hr ?_; (case hd => rfl); (case hg => rfl); (case hr => first | (go_simp; done) | (go_simp; rfl)); intro gb210 hg w9 hbox hb; refine swap4_ (below_step atgB_ hb) (hbox) ((by rw [hg]; exact (below_size atgB_) : w.heap.size ≤ gb210)) ((by rw [hg]; exact (below_size atgB_) : w.heap.size ≤ gb210)) ?_; clear HB; intro HB BK210 GW210 GE210; clear hb hbox hg) | ((with_reducible refine gate_callee (f := 92) rfl ?_); refine goesL_ (some 10) rfl rfl Try.func92 (by kernel_rfl) rfl #[.slice A0 l0.length c0] rfl atgM_ ?_; (with_reducible refine (spec_l1New.calls k _ _ l0 t211 t212 t213 w _ ?side1 ?side2 ?side3 A2.out).mono ?_); (case side1 => repeat (first | (with_reducible first | exact HB.out | apply below_alloc | apply pw_below_drewN | apply below_drew1 | refine below_set ?_ GE210.out) | exact HB.out)); (case side2 => exact HR0.out); (case side3 => exact HC0.out); rintro e w10 ⟨g214, rfl, hi, hb, hb2⟩; refine ⟨_, rfl, ?_⟩; refine swap5_ (blk_below (g := gb210) (o := .cells #[.int .i64 0, .int .i64 0, .int .i64 0, .int .i64 0, .int .i64 0] 37 (0, 0)) att6_0_1 hb2) (hb) (hi) (IsS170.ne_blk hi (blk_below (g := gb210) (o := .cells #[.int .i64 0, .int .i64 0, .int .i64 0, .int .i64 0, .int .i64 0] 37 (0, 0)) att6_0_1 hb2) (by decide)) (Ne.symm (IsS170.ne_blk hi (blk_below (g := gb210) (o := .cells #[.int .i64 0, .int .i64 0, .int .i64 0, .int .i64 0, .int .i64 0] 37 (0, 0)) att6_0_1 hb2) (by decide))) ?_; clear BK210 HB; intro BK210 HB HI214 NB214_210 NB210_214; (try clear hb); (try clear hb2); (try clear hk); (try clear hi)) | ((with_reducible refine gate_callee (f := 93) rfl ?_); refine goesL_ (some 12) rfl rfl Try.func93 (by kernel_rfl) rfl #[.pointer (some ⟨g214, 0, none⟩)] rfl atgM_ ?_; (with_reducible refine (spec_l9DrawCaps.calls k g214 t211 t212 t213 t215 t218 t219 w _ ?side1 ?side2 A3.out).mono ?_); (case side1 => repeat (first | (with_reducible first | exact HI214.out | apply IsS170.alloc | apply IsS170.drewN | apply IsS170.drew | apply IsS170.set_1 | apply IsS170.set_2 | refine IsS170.far ?_ NB214_210.out _) | exact HI214.out)); (case side2 => repeat (first | (with_reducible first | exact HB.out | apply below_alloc | apply pw_below_drewN | apply below_drew1 | refine below_set ?_ (IsS170.ge HI214.out) | refine below_set ?_ GE210.out) | exact HB.out)); rintro e w11 ⟨v216, rfl, ho0, hi, hb, hk⟩; refine ⟨_, rfl, ?_⟩; refine swap4_ (KeepBut.blk hk (g' := gb210) (o := .cells #[.int .i64 0, .int .i64 0, .int .i64 0, .int .i64 0, .int .i64 0] 37 (0, 0)) att6_0_1 NB210_214.out (by simp)) (Kd.R_lower ho0 (below_size att6_0_4)) (hb) (hi) ?_; clear BK210 HB HI214; intro BK210 HO217 HB HI214; (try clear hb); (try clear hb2); (try clear hk); (try clear hi); (try clear ho0); obtain ⟨Ao12, co12, eo12⟩ := Kd.R_slice HO217.out; subst eo12) | ((with_reducible refine gate_callee (f := 94) rfl ?_); refine goesL_ (some 16) rfl rfl Try.func94 (by kernel_rfl) rfl #[.pointer (some ⟨g214, 0, none⟩), .int .i64 5, .int .i64 (t215.length : Int)] rfl atgM_ ?_; (with_reducible refine (spec_l1DrawIns.calls k g214 t211 t218 t219 5 (t215.length : Int) t220 t221 t222 t223 t224 t225 t226 w _ ?side1 ?side2 A4.out).mono ?_); (case side1 => repeat (first | (with_reducible first | exact HI214.out | apply IsS170.alloc | apply IsS170.drewN | apply IsS170.drew | apply IsS170.set_1 | apply IsS170.set_2 | refine IsS170.far ?_ NB214_210.out _) | exact HI214.out)); (case side2 => repeat (first | (with_reducible first | exact HB.out | apply below_alloc | apply pw_below_drewN | apply below_drew1 | refine below_set ?_ (IsS170.ge HI214.out) | refine below_set ?_ GE210.out) | exact HB.out)); rintro e w13 ⟨rfl, hi, hb, hk⟩; refine ⟨_, rfl, ?_⟩; refine swap4_ (KeepBut.blk hk (g' := gb210) (o := .cells #[.int .i64 0, .int .i64 0, .int .i64 0, .int .i64 0, .int .i64 0] 37 (0, 0)) att6_0_1 NB210_214.out (by simp)) (Kd.R_mono (Kd.R_keep (IsS170.apart (show IsS170 w _ g214 t211 t218 t219 from by repeat (first | (with_reducible first | exact HI214.out | apply IsS170.alloc | apply IsS170.drewN | apply IsS170.drew | apply IsS170.set_1 | apply IsS170.set_2 | refine IsS170.far ?_ NB214_210.out _) | exact HI214.out)) att6_0_6 (by decide)) hk (fun _ h => h.2)) (fun _ h => h.1)) (hb) (hi) ?_; clear BK210 HO217 HB HI214; intro BK210 HO217 HB HI214; (try clear hb); (try clear hb2); (try clear hk); (try clear hi)) | ((with_reducible refine gate_dst (N := 8) rfl ?_); refine box_event ?hg (N := 8) ?hd (cs := #[.int .i64 0, .int .i64 0, .int .i64 0, .int .i64 0, .int .i64 0]) (t := 37) ?hr ?_; (case hd => rfl); (case hg => rfl); (case hr => first | (go_simp; done) | (go_simp; rfl)); intro gb227 hg w14 hbox hb; refine swap11_ (Kd.R_below att6_0_6 hb) (blk_below (g := gb210) (o := .cells #[.int .i64 0, .int .i64 0, .int .i64 0, .int .i64 0, .int .i64 0] 37 (0, 0)) att6_0_1 hb) (IsS170.below att6_0_17 hb) (below_step att6_0_4 hb) (hbox) ((by rw [hg]; exact (below_size att6_0_4) : w.heap.size ≤ gb227)) ((by rw [hg]; exact (below_size att6_0_4) : w.heap.size ≤ gb227)) ((by rw [hg]; exact Nat.ne_of_lt (blk_lt (g := gb210) (o := .cells #[.int .i64 0, .int .i64 0, .int .i64 0, .int .i64 0, .int .i64 0] 37 (0, 0)) att6_0_1) : gb210 ≠ gb227)) ((by rw [hg]; exact Nat.ne_of_gt (blk_lt (g := gb210) (o := .cells #[.int .i64 0, .int .i64 0, .int .i64 0, .int .i64 0, .int .i64 0] 37 (0, 0)) att6_0_1) : gb227 ≠ gb210)) ((by rw [hg]; exact Nat.ne_of_lt (IsS170.lt (show IsS170 w _ g214 t211 t225 t226 from by repeat (first | (with_reducible first | exact HI214.out | apply IsS170.alloc | apply IsS170.drewN | apply IsS170.drew | apply IsS170.set_1 | apply IsS170.set_2 | refine IsS170.far ?_ NB214_210.out _) | exact HI214.out))) : g214 ≠ gb227)) ((by rw [hg]; exact Nat.ne_of_gt (IsS170.lt (show IsS170 w _ g214 t211 t225 t226 from by repeat (first | (with_reducible first | exact HI214.out | apply IsS170.alloc | apply IsS170.drewN | apply IsS170.drew | apply IsS170.set_1 | apply IsS170.set_2 | refine IsS170.far ?_ NB214_210.out _) | exact HI214.out))) : gb227 ≠ g214)) ?_; clear HO217 BK210 HI214 HB; intro HO217 BK210 HI214 HB BK227 GW227 GE227 NB210_227 NB227_210 NB214_227 NB227_214; clear hb hbox hg; have hnb15 := NB227_210.out; have hnc15 := NB210_227.out; have hnb16 := NB227_214.out; have hnc16 := NB214_227.out; obtain ⟨hcz17_0, hcz17_1, hcz17_2, hcz17_3, hcz17_4, hfz17_0, hfz17_1, hfz17_2, hfz17_3, hfz17_4⟩ := blkB5_ BK227) | ((with_reducible refine gate_callee (f := 95) rfl ?_); refine goesL_ (some 18) rfl rfl Try.func95 (by kernel_rfl) rfl #[.pointer (some ⟨g214, 0, none⟩), .int .i64 6] rfl atgM_ ?_; (with_reducible refine (spec_l1Once.calls g214 t211 t225 t226 6 true t229 t230 w _ ?side1 ?side2 A5.out).mono ?_); (case side1 => repeat (first | (with_reducible first | exact HI214.out | apply IsS170.alloc | apply IsS170.drewN | apply IsS170.drew | apply IsS170.set_1 | apply IsS170.set_2 | refine IsS170.far ?_ NB214_210.out _ | refine IsS170.far ?_ NB214_227.out _) | exact HI214.out)); (case side2 => repeat (first | (with_reducible first | exact HB.out | apply below_alloc | apply pw_below_drewN | apply below_drew1 | refine below_set ?_ (IsS170.ge HI214.out) | refine below_set ?_ GE210.out | refine below_set ?_ GE227.out) | exact HB.out)); rintro e w18 ⟨rfl, hi, hb, hk⟩; refine ⟨_, rfl, ?_⟩; refine swap5_ (KeepBut.blk hk (g' := gb210) (o := .cells #[.int .i64 0, .int .i64 0, .int .i64 0, .int .i64 0, .int .i64 0] 37 (0, 0)) att6_0_3 NB210_214.out (by simp)) (Kd.R_mono (Kd.R_keep (IsS170.apart (show IsS170 w _ g214 t211 t225 t226 from by repeat (first | (with_reducible first | exact HI214.out | apply IsS170.alloc | apply IsS170.drewN | apply IsS170.drew | apply IsS170.set_1 | apply IsS170.set_2 | refine IsS170.far ?_ NB214_210.out _ | refine IsS170.far ?_ NB214_227.out _) | exact HI214.out)) att6_0_13 (by decide)) hk (fun _ h => h.2)) (fun _ h => h.1)) (KeepBut.blk hk (g' := gb227) (o := .cells #[.int .i64 t220, .int .i64 t221, .int .i64 t222, .int .i64 t223, .int .i64 t224] 37 (0, 0)) att6_0_7 NB227_214.out (by simp)) (hb) (hi) ?_; clear BK210 HO217 BK227 HB HI214; intro BK210 HO217 BK227 HB HI214; (try clear hb); (try clear hb2); (try clear hk); (try clear hi); obtain ⟨hcz19_0, hcz19_1, hcz19_2, hcz19_3, hcz19_4, hfz19_0, hfz19_1, hfz19_2, hfz19_3, hfz19_4⟩ := blkB5_ BK227) | ((with_reducible refine gate_callee (f := 96) rfl ?_); refine goesL_ (some 21) rfl rfl Try.func96 (by kernel_rfl) rfl #[.pointer (some ⟨g214, 0, none⟩), .agg #[.int .i64 t220, .int .i64 t221, .int .i64 t222, .int .i64 t223, .int .i64 t224]] rfl atgM_ ?_; (with_reducible refine (spec_l1Spoil.calls g214 t211 t229 t230 t220 t221 t222 t223 t224 t231 t232 t233 t234 t235 t236 t237 w _ ?side1 ?side2 A7.out).mono ?_); (case side1 => repeat (first | (with_reducible first | exact HI214.out | apply IsS170.alloc | apply IsS170.drewN | apply IsS170.drew | apply IsS170.set_1 | apply IsS170.set_2 | refine IsS170.far ?_ NB214_210.out _ | refine IsS170.far ?_ NB214_227.out _) | exact HI214.out)); (case side2 => repeat (first | (with_reducible first | exact HB.out | apply below_alloc | apply pw_below_drewN | apply below_drew1 | refine below_set ?_ (IsS170.ge HI214.out) | refine below_set ?_ GE210.out | refine below_set ?_ GE227.out) | exact HB.out)); rintro e w20 ⟨rfl, hi, hb, hk⟩; refine ⟨_, rfl, ?_⟩; refine swap5_ (KeepBut.blk hk (g' := gb210) (o := .cells #[.int .i64 0, .int .i64 0, .int .i64 0, .int .i64 0, .int .i64 0] 37 (0, 0)) att6_0_1 NB210_214.out (by simp)) (Kd.R_mono (Kd.R_keep (IsS170.apart (show IsS170 w _ g214 t211 t229 t230 from by repeat (first | (with_reducible first | exact HI214.out | apply IsS170.alloc | apply IsS170.drewN | apply IsS170.drew | apply IsS170.set_1 | apply IsS170.set_2 | refine IsS170.far ?_ NB214_210.out _ | refine IsS170.far ?_ NB214_227.out _) | exact HI214.out)) att6_0_6 (by decide)) hk (fun _ h => h.2)) (fun _ h => h.1)) (KeepBut.blk hk (g' := gb227) (o := .cells #[.int .i64 t220, .int .i64 t221, .int .i64 t222, .int .i64 t223, .int .i64 t224] 37 (0, 0)) att6_0_10 NB227_214.out (by simp)) (hb) (hi) ?_; clear BK210 HO217 BK227 HB HI214; intro BK210 HO217 BK227 HB HI214; (try clear hb); (try clear hb2); (try clear hk); (try clear hi); obtain ⟨hcz21_0, hcz21_1, hcz21_2, hcz21_3, hcz21_4, hfz21_0, hfz21_1, hfz21_2, hfz21_3, hfz21_4⟩ := blkB5_ BK227))
  have n0_ : Aside0 (Kd.R (Kd.int .i64) 3 (((((w20.setCell ⟨gb227, 0, none⟩ (.int .i64 t231)).setCell ⟨gb227, 1, none⟩ (.int .i64 t232)).setCell ⟨gb227, 2, none⟩ (.int .i64 t233)).setCell ⟨gb227, 3, none⟩ (.int .i64 t234)).setCell ⟨gb227, 4, none⟩ (.int .i64 t235)) w.heap.size (fun _ => True) (.slice Ao12 t215.length co12) t215) := ⟨by exact toR_ (Kd.R_mono (farR5_ (Kd.R_types HO217.out BK227.out (by decide))) (fun _ hk => trivial))⟩
  have n1_ : Aside0 ((((((w20.setCell ⟨gb227, 0, none⟩ (.int .i64 t231)).setCell ⟨gb227, 1, none⟩ (.int .i64 t232)).setCell ⟨gb227, 2, none⟩ (.int .i64 t233)).setCell ⟨gb227, 3, none⟩ (.int .i64 t234)).setCell ⟨gb227, 4, none⟩ (.int .i64 t235)).heap[gb210]? = some (.cells #[.int .i64 0, .int .i64 0, .int .i64 0, .int .i64 0, .int .i64 0] 37 (0, 0))) := ⟨att6_0_3⟩
  have n2_ : Aside0 ((((((w20.setCell ⟨gb227, 0, none⟩ (.int .i64 t231)).setCell ⟨gb227, 1, none⟩ (.int .i64 t232)).setCell ⟨gb227, 2, none⟩ (.int .i64 t233)).setCell ⟨gb227, 3, none⟩ (.int .i64 t234)).setCell ⟨gb227, 4, none⟩ (.int .i64 t235)).heap[gb227]? = some (.cells #[.int .i64 t231, .int .i64 t232, .int .i64 t233, .int .i64 t234, .int .i64 t235] 37 (0, 0))) := ⟨by (with_reducible repeat (first | refine blk_drewN ?_ _ | refine blk_drew ?_ | refine blk_alloc ?_ _)); refine blk_put (cs := #[.int .i64 t231, .int .i64 t232, .int .i64 t233, .int .i64 t234, .int .i64 t224]) ?_ 4 _ rfl; (with_reducible repeat (first | refine blk_drewN ?_ _ | refine blk_drew ?_ | refine blk_alloc ?_ _)); refine blk_put (cs := #[.int .i64 t231, .int .i64 t232, .int .i64 t233, .int .i64 t223, .int .i64 t224]) ?_ 3 _ rfl; (with_reducible repeat (first | refine blk_drewN ?_ _ | refine blk_drew ?_ | refine blk_alloc ?_ _)); refine blk_put (cs := #[.int .i64 t231, .int .i64 t232, .int .i64 t222, .int .i64 t223, .int .i64 t224]) ?_ 2 _ rfl; (with_reducible repeat (first | refine blk_drewN ?_ _ | refine blk_drew ?_ | refine blk_alloc ?_ _)); refine blk_put (cs := #[.int .i64 t231, .int .i64 t221, .int .i64 t222, .int .i64 t223, .int .i64 t224]) ?_ 1 _ rfl; (with_reducible repeat (first | refine blk_drewN ?_ _ | refine blk_drew ?_ | refine blk_alloc ?_ _)); refine blk_put (cs := #[.int .i64 t220, .int .i64 t221, .int .i64 t222, .int .i64 t223, .int .i64 t224]) ?_ 0 _ rfl; (with_reducible repeat (first | refine blk_drewN ?_ _ | refine blk_drew ?_ | refine blk_alloc ?_ _)); exact BK227.out⟩
  have n3_ : Aside0 (IsS170 w (((((w20.setCell ⟨gb227, 0, none⟩ (.int .i64 t231)).setCell ⟨gb227, 1, none⟩ (.int .i64 t232)).setCell ⟨gb227, 2, none⟩ (.int .i64 t233)).setCell ⟨gb227, 3, none⟩ (.int .i64 t234)).setCell ⟨gb227, 4, none⟩ (.int .i64 t235)) g214 t211 t236 t237) := ⟨att6_0_8⟩
  have n4_ : Aside0 (Below w.heap.size w (((((w20.setCell ⟨gb227, 0, none⟩ (.int .i64 t231)).setCell ⟨gb227, 1, none⟩ (.int .i64 t232)).setCell ⟨gb227, 2, none⟩ (.int .i64 t233)).setCell ⟨gb227, 3, none⟩ (.int .i64 t234)).setCell ⟨gb227, 4, none⟩ (.int .i64 t235))) := ⟨att6_0_5⟩
  (try clear HO217)
  (try clear BK210)
  (try clear BK227)
  (try clear HI214)
  (try clear HB)
  generalize (((((w20.setCell ⟨gb227, 0, none⟩ (.int .i64 t231)).setCell ⟨gb227, 1, none⟩ (.int .i64 t232)).setCell ⟨gb227, 2, none⟩ (.int .i64 t233)).setCell ⟨gb227, 3, none⟩ (.int .i64 t234)).setCell ⟨gb227, 4, none⟩ (.int .i64 t235)) = w22 at n0_ n1_ n2_ n3_ n4_ ⊢
  have HO217 := n0_
  have BK210 := n1_
  have BK227 := n2_
  have HI214 := n3_
  have HB := n4_
  clear n0_ n1_ n2_ n3_ n4_
  refine swap5_ (Kd.R_drew HO217.out) (blk_drew BK210.out) (blk_drew BK227.out) (IsS170.drew HI214.out) (below_drew1 HB.out) ?_
  clear HO217 BK210 BK227 HI214 HB
  intro HO217 BK210 BK227 HI214 HB
  refine start_ (n := 9) (S := fun w' => True) (ds := []) (tf_ 0 9) (by kernel_rfl) rfl rfl trivial (fun hHeld => ?_); refine with_tabW spec_DrawEmit.tab6 spec_DrawEmit.bits6 (fun HT_ HW_ => ?_)
  generalize w22.drew = w23 at HO217 BK210 BK227 HI214 HB hHeld ⊢
  refine pureQ_ (i := 0) (N := some 22) (tf_ 1 8) (h := ?_)
  refine pureQ_ (i := 2) (N := some 24) #[true, false, true, false, false, false, false, false, false] (h := ?_)
  refine inv_at [1, 3, 4, 5, 6, 7, 8] (fun a0_ b a w' => ∃ (v242 : Value) (m8_ : Value), a = putSel a0_ b [(1, 23, .agg #[.int .i64 t231, .int .i64 t232, .int .i64 t233, .int .i64 t234, .int .i64 t235]), (3, 25, .int .i64 t238), (4, 26, v242), (5, 2, .slice Ao12 t215.length co12), (7, 4, .int .i64 t238), (8, 5, m8_)] ∧ (Kd.R (Kd.int .i64) 3 w' w.heap.size (fun _ => True) (.slice Ao12 t215.length co12) t215) ∧ (b 6 = false → w'.heap[gb210]? = some (.cells #[.int .i64 0, .int .i64 0, .int .i64 0, .int .i64 0, .int .i64 0] 37 (0, 0))) ∧ (w'.heap[gb227]? = some (.cells #[.int .i64 t231, .int .i64 t232, .int .i64 t233, .int .i64 t234, .int .i64 t235] 37 (0, 0))) ∧ (b 3 = false → IsS170 w w' g214 t211 t236 t237) ∧ (Below w.heap.size w w') ∧ (b 3 = true → IsS170 w w' g214 t211 t239 t240) ∧ (b 4 = true → Kd.R (Kd.int .i64) 3 w' w.heap.size (fun k_ => some k_ ≠ (.slice Ao12 t215.length co12 : Value).ownBlock) v242 y241) ∧ (b 6 = true → w'.heap[gb210]? = some (.cells #[.int .i64 t231, .int .i64 t232, .int .i64 t233, .int .i64 t234, .int .i64 t235] 37 (0, 0))) ∧ (b 8 = true → (m8_ : Value) = v242)) HT_.out HW_.out (by kernel_rfl) (by kernel_rfl) ?_ ?_ ?_
  ·exact ⟨.bool false, .bool false, by simp only [putSel, Bool.false_eq_true, if_false], HO217.out, fun _ => BK210.out, BK227.out, fun _ => HI214.out, HB.out, fun h_ => absurd h_ (by decide), fun h_ => absurd h_ (by decide), fun h_ => absurd h_ (by decide), fun h_ => absurd h_ (by decide)⟩
  ·skip
   clear BK210 BK227 HB HI214 HO217
   refine steps_cons ?_ ?_
   ·rintro b a w' ⟨v242, m8_, ha, Q_HO217, Q_BK210, Q_BK227, Q_HI214, Q_HB, Q_HI214_e3, Q_HO243, Q_BK210_e6, Q_X8_⟩ hb_ hon hoff
    refine ⟨_, rfl, fun K hK => ?_⟩
    have e8 : a.tmps[8]? = some (.pointer (some ⟨gb227, 0, none⟩)) := by rw [ha]; exact (putSel_off rfl).trans rfl
    replace ha := Aside0.mk ha
    have HO217 := Aside0.mk Q_HO217
    have BK210 := Aside0.mk (Q_BK210 (hoff 6 (by kernel_rfl)))
    have BK227 := Aside0.mk Q_BK227
    have HB := Aside0.mk Q_HB
    have hc0_ : w'.cell? ⟨gb227, 0, none⟩ = some (.int .i64 t231) := (blk_cell BK227.out 0).trans rfl
    have hc1_ : w'.cell? ⟨gb227, 1, none⟩ = some (.int .i64 t232) := (blk_cell BK227.out 1).trans rfl
    have hc2_ : w'.cell? ⟨gb227, 2, none⟩ = some (.int .i64 t233) := (blk_cell BK227.out 2).trans rfl
    have hc3_ : w'.cell? ⟨gb227, 3, none⟩ = some (.int .i64 t234) := (blk_cell BK227.out 3).trans rfl
    have hc4_ : w'.cell? ⟨gb227, 4, none⟩ = some (.int .i64 t235) := (blk_cell BK227.out 4).trans rfl
    refine value_ (w1 := w') (v := .agg #[.int .i64 t231, .int .i64 t232, .int .i64 t233, .int .i64 t234, .int .i64 t235]) (by rfl) rfl ?_ ?_
    ·go_simp
     (try simp only [i64_w])
     try rfl
    refine hK.out _ _ ⟨v242, m8_, (by rw [ha.out]; exact putSel_upk 0 hb_ rfl rfl rfl), Q_HO217, Q_BK210, Q_BK227, Q_HI214, Q_HB, Q_HI214_e3, Q_HO243, fun h0_ => absurd ((hoff 6 (by kernel_rfl)).symm.trans h0_) (by decide), fun h0_ => absurd ((hoff 8 (by kernel_rfl)).symm.trans h0_) (by decide)⟩
   refine steps_cons ?_ ?_
   ·rintro b a w' ⟨v242, m8_, ha, Q_HO217, Q_BK210, Q_BK227, Q_HI214, Q_HB, Q_HI214_e3, Q_HO243, Q_BK210_e6, Q_X8_⟩ hb_ hon hoff
    refine ⟨_, rfl, fun K hK => ?_⟩
    have e24 : a.tmps[24]? = some (.pointer (some ⟨g214, 0, none⟩)) := by rw [ha]; exact (putSel_off rfl).trans rfl
    replace ha := Aside0.mk ha
    have HO217 := Aside0.mk Q_HO217
    have BK210 := Aside0.mk (Q_BK210 (hoff 6 (by kernel_rfl)))
    have BK227 := Aside0.mk Q_BK227
    have HI214 := Aside0.mk (Q_HI214 hb_)
    have HB := Aside0.mk Q_HB
    refine goes_ Try.func97 (by kernel_rfl) rfl #[.pointer (some ⟨g214, 0, none⟩), .int .i64 200] (by rfl) rfl rfl (by first | (simp only [List.map_toArray, List.map_cons, List.map_nil, Act.eval, Array.getD_eq_getD_getElem?, Option.getD_some, e24]; done) | (simp only [List.map_toArray, List.map_cons, List.map_nil, Act.eval, Array.getD_eq_getD_getElem?, Option.getD_some, e24]; rfl)) ?_
    with_reducible refine (spec_l1Below.calls g214 t211 t236 t237 200 t238 t239 t240 w _ ?side1 ?side2 A8.out).mono ?_
    (case side1 => repeat (first | (with_reducible first | exact HI214.out | apply IsS170.alloc | apply IsS170.drewN | apply IsS170.drew | apply IsS170.set_1 | apply IsS170.set_2 | refine IsS170.far ?_ NB214_210.out _ | refine IsS170.far ?_ NB214_227.out _) | exact HI214.out))
    (case side2 => repeat (first | (with_reducible first | exact HB.out | apply below_alloc | apply pw_below_drewN | apply below_drew1 | refine below_set ?_ (IsS170.ge HI214.out) | refine below_set ?_ GE210.out | refine below_set ?_ GE227.out) | exact HB.out))
    rintro e w24 ⟨rfl, hi, hb, hk⟩
    refine ⟨_, rfl, ?_⟩
    have n0_ := Aside0.mk (KeepBut.blk hk (g' := gb210) (o := .cells #[.int .i64 0, .int .i64 0, .int .i64 0, .int .i64 0, .int .i64 0] 37 (0, 0)) att6_0_1 NB210_214.out (by simp))
    have n1_ := Aside0.mk (Kd.R_mono (Kd.R_keep (IsS170.apart (show IsS170 w _ g214 t211 t236 t237 from by repeat (first | (with_reducible first | exact HI214.out | apply IsS170.alloc | apply IsS170.drewN | apply IsS170.drew | apply IsS170.set_1 | apply IsS170.set_2 | refine IsS170.far ?_ NB214_210.out _ | refine IsS170.far ?_ NB214_227.out _) | exact HI214.out)) att6_0_6 (by decide)) hk (fun _ h => h.2)) (fun _ h => h.1))
    have n2_ := Aside0.mk (KeepBut.blk hk (g' := gb227) (o := .cells #[.int .i64 t231, .int .i64 t232, .int .i64 t233, .int .i64 t234, .int .i64 t235] 37 (0, 0)) att6_0_10 NB227_214.out (by simp))
    have n3_ := Aside0.mk (hb)
    have n4_ := Aside0.mk (hi)
    have z_HO243 := fun (h0_ : b 4 = true) => (show Kd.R (Kd.int .i64) 3 w24 w.heap.size (fun k_ => some k_ ≠ (.slice Ao12 t215.length co12 : Value).ownBlock) v242 y241 from by first | exact (Kd.R_mono (Kd.R_keep (IsS170.apart (show IsS170 w _ g214 t211 t236 t237 from by repeat (first | (with_reducible first | exact HI214.out | apply IsS170.alloc | apply IsS170.drewN | apply IsS170.drew | apply IsS170.set_1 | apply IsS170.set_2 | refine IsS170.far ?_ NB214_210.out _ | refine IsS170.far ?_ NB214_227.out _) | exact HI214.out)) att6_0_22 (by decide)) hk (fun _ h => h.2)) (fun _ h => h.1)) | exact Kd.R_mono (Kd.R_mono (Kd.R_keep (IsS170.apart (show IsS170 w _ g214 t211 t236 t237 from by repeat (first | (with_reducible first | exact HI214.out | apply IsS170.alloc | apply IsS170.drewN | apply IsS170.drew | apply IsS170.set_1 | apply IsS170.set_2 | refine IsS170.far ?_ NB214_210.out _ | refine IsS170.far ?_ NB214_227.out _) | exact HI214.out)) att6_0_22 (by decide)) hk (fun _ h => h.2)) (fun _ h => h.1)) (fun _ h_ => by first | trivial | exact h_ | exact h_.1))
    clear BK210
    clear HO217
    clear BK227
    clear HB
    clear HI214
    have BK210 := n0_
    have HO217 := n1_
    have BK227 := n2_
    have HB := n3_
    have HI214 := n4_
    clear n0_ n1_ n2_ n3_ n4_
    (try clear hb)
    (try clear hb2)
    (try clear hk)
    (try clear hi)
    refine hK.out _ _ ⟨v242, m8_, (by rw [ha.out]; exact putSel_upk 1 hb_ rfl rfl rfl), att6_0_6, fun _ => att6_0_1, att6_0_10, fun h0_ => absurd ((up_self b 3).symm.trans h0_) (by decide), att6_0_5, fun _ => att6_0_8, z_HO243, fun h0_ => absurd ((hoff 6 (by kernel_rfl)).symm.trans h0_) (by decide), fun h0_ => absurd ((hoff 8 (by kernel_rfl)).symm.trans h0_) (by decide)⟩
   refine steps_cons ?_ ?_
   ·rintro b a w' ⟨v242, m8_, ha, Q_HO217, Q_BK210, Q_BK227, Q_HI214, Q_HB, Q_HI214_e3, Q_HO243, Q_BK210_e6, Q_X8_⟩ hb_ hon hoff
    refine ⟨_, rfl, fun K hK => ?_⟩
    replace ha := Aside0.mk ha
    have HO217 := Aside0.mk Q_HO217
    have BK227 := Aside0.mk Q_BK227
    have HB := Aside0.mk Q_HB
    refine Kd.R_lit_step (Kd.int .i64) _ 3 ?hg (N := 26) ?hd (xs := ([0, 1, 30, 60, 61] : List Int)) (inner := [.int .i64 0, .int .i64 1, .int .i64 30, .int .i64 60, .int .i64 61]) (ok := fun _ => True) (okp := fun _ => True) ?hr ?hp (fun _ hk => hk) trivial (Below.refl _ _) (Nat.le_refl _) (by simp) ?_; (case hd => rfl); (case hg => rfl); (case hr => first | (go_simp; done) | (go_simp; rfl)); (case hp => exact (Reps.one (show Kd.M (Kd.int .i64) _ _ _ 0 [.int .i64 0] from rfl) (Reps.one (show Kd.M (Kd.int .i64) _ _ _ 1 [.int .i64 1] from rfl) (Reps.one (show Kd.M (Kd.int .i64) _ _ _ 30 [.int .i64 30] from rfl) (Reps.one (show Kd.M (Kd.int .i64) _ _ _ 60 [.int .i64 60] from rfl) (Reps.one (show Kd.M (Kd.int .i64) _ _ _ 61 [.int .i64 61] from rfl) (Reps.none _ _)))))))
    intro v242 w24 ho25 hb hg_ hnew_
    clear hg_ hnew_
    (first | rw [← Ny241.out] at ho25 | (simp only [Int.reduceToNat] at ho25; rw [← Ny241.out] at ho25))
    have n0_ := Aside0.mk (Kd.R_elder' att6_0_6 (Kd.R_base ho25) hb)
    have n1_ := Aside0.mk (Kd.R_lower (Kd.R_new' ho25 (Kd.R_lt att6_0_6)) (below_size att6_0_9))
    have n4_ := Aside0.mk (blk_below (g := gb227) (o := .cells #[.int .i64 t231, .int .i64 t232, .int .i64 t233, .int .i64 t234, .int .i64 t235] 37 (0, 0)) att6_0_10 hb)
    have n5_ := Aside0.mk (below_step att6_0_9 hb)
    have z_BK210 := fun (h0_ : b 6 = false) => (show w24.heap[gb210]? = some (.cells #[.int .i64 0, .int .i64 0, .int .i64 0, .int .i64 0, .int .i64 0] 37 (0, 0)) from by first | exact (blk_below (g := gb210) (o := .cells #[.int .i64 0, .int .i64 0, .int .i64 0, .int .i64 0, .int .i64 0] 37 (0, 0)) att6_0_20 hb))
    have z_HI214 := fun (h0_ : b 3 = false) => (show IsS170 w w24 g214 t211 t236 t237 from by first | exact (IsS170.below att6_0_16 hb))
    have z_HI214_e3 := fun (h0_ : b 3 = true) => (show IsS170 w w24 g214 t211 t239 t240 from by first | exact (IsS170.below att6_0_14 hb))
    have z_BK210_e6 := fun (h0_ : b 6 = true) => (show w24.heap[gb210]? = some (.cells #[.int .i64 t231, .int .i64 t232, .int .i64 t233, .int .i64 t234, .int .i64 t235] 37 (0, 0)) from by first | exact (blk_below (g := gb210) (o := .cells #[.int .i64 t231, .int .i64 t232, .int .i64 t233, .int .i64 t234, .int .i64 t235] 37 (0, 0)) att6_0_19 hb))
    clear HO217
    clear BK227
    clear HB
    have HO217 := n0_
    have HO243 := n1_
    have BK227 := n4_
    have HB := n5_
    clear n0_ n1_ n4_ n5_
    clear hb ho25
    refine hK.out _ _ ⟨v242, m8_, (by rw [ha.out]; exact putSel_upk 2 hb_ rfl rfl rfl), att6_0_18, z_BK210, att6_0_10, z_HI214, att6_0_9, z_HI214_e3, fun _ => (by exact toR_ (Kd.R_mono HO243.out (fun _ hk => hk.2))), z_BK210_e6, fun h0_ => absurd ((hoff 8 (by kernel_rfl)).symm.trans h0_) (by decide)⟩
   refine steps_cons ?_ ?_
   ·rintro b a w' ⟨v242, m8_, ha, Q_HO217, Q_BK210, Q_BK227, Q_HI214, Q_HB, Q_HI214_e3, Q_HO243, Q_BK210_e6, Q_X8_⟩ hb_ hon hoff
    refine ⟨_, rfl, fun K hK => ?_⟩
    have e22 : a.tmps[22]? = some (.slice Ao12 t215.length co12) := by rw [ha]; exact (putSel_off rfl).trans rfl
    replace ha := Aside0.mk ha
    have HO217 := Aside0.mk Q_HO217
    have BK210 := Aside0.mk (Q_BK210 (hoff 6 (by kernel_rfl)))
    have BK227 := Aside0.mk Q_BK227
    have HB := Aside0.mk Q_HB
    have HI214 := Aside0.mk (Q_HI214_e3 (hon 3 (by kernel_rfl)))
    refine value_ (w1 := w') (v := .slice Ao12 t215.length co12) (by rfl) rfl ?_ ?_
    ·go_simp
     (try simp only [i64_w])
     try rfl
    refine hK.out _ _ ⟨v242, m8_, (by rw [ha.out]; exact putSel_upk 3 hb_ rfl rfl rfl), Q_HO217, Q_BK210, Q_BK227, fun h0_ => absurd ((hon 3 (by kernel_rfl)).symm.trans h0_) (by decide), Q_HB, Q_HI214_e3, Q_HO243, fun h0_ => absurd ((hoff 6 (by kernel_rfl)).symm.trans h0_) (by decide), fun h0_ => absurd ((hoff 8 (by kernel_rfl)).symm.trans h0_) (by decide)⟩
   refine steps_cons ?_ ?_
   ·rintro b a w' ⟨v242, m8_, ha, Q_HO217, Q_BK210, Q_BK227, Q_HI214, Q_HB, Q_HI214_e3, Q_HO243, Q_BK210_e6, Q_X8_⟩ hb_ hon hoff
    refine ⟨_, rfl, fun K hK => ?_⟩
    have e3 : a.tmps[3]? = some (.pointer (some ⟨gb210, 0, none⟩)) := by rw [ha]; exact (putSel_off rfl).trans rfl
    have e23 : a.tmps[23]? = some (.agg #[.int .i64 t231, .int .i64 t232, .int .i64 t233, .int .i64 t234, .int .i64 t235]) := by rw [ha]; exact putSel_on (e := (1, 23, .agg #[.int .i64 t231, .int .i64 t232, .int .i64 t233, .int .i64 t234, .int .i64 t235])) 0 rfl rfl (hon 1 (by kernel_rfl)) rfl
    replace ha := Aside0.mk ha
    have HO217 := Aside0.mk Q_HO217
    have BK210 := Aside0.mk (Q_BK210 hb_)
    have BK227 := Aside0.mk Q_BK227
    have HB := Aside0.mk Q_HB
    have HI214 := Aside0.mk (Q_HI214_e3 (hon 3 (by kernel_rfl)))
    have hs26 : w'.cell? ⟨gb210, 0, none⟩ = some (.int .i64 0) := (blk_cell BK210.out 0).trans rfl
    have hfs26 := blk_frozen BK210.out 0
    have hns26_1 := NB227_210.out
    have hms26_1 := NB210_227.out
    have hs27 : w'.cell? ⟨gb210, 1, none⟩ = some (.int .i64 0) := (blk_cell BK210.out 1).trans rfl
    have hfs27 := blk_frozen BK210.out 1
    have hns27_1 := NB227_210.out
    have hms27_1 := NB210_227.out
    have hs28 : w'.cell? ⟨gb210, 2, none⟩ = some (.int .i64 0) := (blk_cell BK210.out 2).trans rfl
    have hfs28 := blk_frozen BK210.out 2
    have hns28_1 := NB227_210.out
    have hms28_1 := NB210_227.out
    have hs29 : w'.cell? ⟨gb210, 3, none⟩ = some (.int .i64 0) := (blk_cell BK210.out 3).trans rfl
    have hfs29 := blk_frozen BK210.out 3
    have hns29_1 := NB227_210.out
    have hms29_1 := NB210_227.out
    have hs30 : w'.cell? ⟨gb210, 4, none⟩ = some (.int .i64 0) := (blk_cell BK210.out 4).trans rfl
    have hfs30 := blk_frozen BK210.out 4
    have hns30_1 := NB227_210.out
    have hms30_1 := NB210_227.out
    refine skip_ (w1 := ?_) (by rfl) rfl ?_ ?_
    rotate_left
    ·go_simp
     rfl
    refine hK.out _ _ ⟨v242, m8_, (by rw [ha.out]; exact putSel_none (v := undef) rfl), (by exact toR_ (Kd.R_mono (farR5_ (Kd.R_types HO217.out BK210.out (by decide))) (fun _ hk => trivial))), fun h0_ => absurd ((up_self b 6).symm.trans h0_) (by decide), att6_0_12, fun h0_ => absurd ((hon 3 (by kernel_rfl)).symm.trans h0_) (by decide), att6_0_5, fun _ => att6_0_8, fun h0_ => (by exact toR_ (Kd.R_mono (farR5_ (Kd.R_types (Q_HO243 h0_) BK210.out (by decide))) (fun _ hk => hk.1))), fun _ => (by (with_reducible repeat (first | refine blk_drewN ?_ _ | refine blk_drew ?_ | refine blk_alloc ?_ _)); refine blk_put (cs := #[.int .i64 t231, .int .i64 t232, .int .i64 t233, .int .i64 t234, .int .i64 0]) ?_ 4 _ rfl; (with_reducible repeat (first | refine blk_drewN ?_ _ | refine blk_drew ?_ | refine blk_alloc ?_ _)); refine blk_put (cs := #[.int .i64 t231, .int .i64 t232, .int .i64 t233, .int .i64 0, .int .i64 0]) ?_ 3 _ rfl; (with_reducible repeat (first | refine blk_drewN ?_ _ | refine blk_drew ?_ | refine blk_alloc ?_ _)); refine blk_put (cs := #[.int .i64 t231, .int .i64 t232, .int .i64 0, .int .i64 0, .int .i64 0]) ?_ 2 _ rfl; (with_reducible repeat (first | refine blk_drewN ?_ _ | refine blk_drew ?_ | refine blk_alloc ?_ _)); refine blk_put (cs := #[.int .i64 t231, .int .i64 0, .int .i64 0, .int .i64 0, .int .i64 0]) ?_ 1 _ rfl; (with_reducible repeat (first | refine blk_drewN ?_ _ | refine blk_drew ?_ | refine blk_alloc ?_ _)); refine blk_put (cs := #[.int .i64 0, .int .i64 0, .int .i64 0, .int .i64 0, .int .i64 0]) ?_ 0 _ rfl; (with_reducible repeat (first | refine blk_drewN ?_ _ | refine blk_drew ?_ | refine blk_alloc ?_ _)); exact BK210.out), fun h0_ => absurd ((hoff 8 (by kernel_rfl)).symm.trans h0_) (by decide)⟩
   refine steps_cons ?_ ?_
   ·rintro b a w' ⟨v242, m8_, ha, Q_HO217, Q_BK210, Q_BK227, Q_HI214, Q_HB, Q_HI214_e3, Q_HO243, Q_BK210_e6, Q_X8_⟩ hb_ hon hoff
    refine ⟨_, rfl, fun K hK => ?_⟩
    have e25 : a.tmps[25]? = some (.int .i64 t238) := by rw [ha]; exact putSel_on (e := (3, 25, .int .i64 t238)) 1 rfl rfl (hon 3 (by kernel_rfl)) rfl
    replace ha := Aside0.mk ha
    have HO217 := Aside0.mk Q_HO217
    have BK227 := Aside0.mk Q_BK227
    have HB := Aside0.mk Q_HB
    have HI214 := Aside0.mk (Q_HI214_e3 (hon 3 (by kernel_rfl)))
    have BK210 := Aside0.mk (Q_BK210_e6 (hon 6 (by kernel_rfl)))
    refine value_ (w1 := w') (v := .int .i64 t238) (by rfl) rfl ?_ ?_
    ·go_simp
     (try simp only [i64_w])
     try rfl
    refine hK.out _ _ ⟨v242, m8_, (by rw [ha.out]; exact putSel_upk 4 hb_ rfl rfl rfl), Q_HO217, fun h0_ => absurd ((hon 6 (by kernel_rfl)).symm.trans h0_) (by decide), Q_BK227, fun h0_ => absurd ((hon 3 (by kernel_rfl)).symm.trans h0_) (by decide), Q_HB, Q_HI214_e3, Q_HO243, Q_BK210_e6, fun h0_ => absurd ((hoff 8 (by kernel_rfl)).symm.trans h0_) (by decide)⟩
   refine steps_cons ?_ ?_
   ·rintro b a w' ⟨v242, m8_, ha, Q_HO217, Q_BK210, Q_BK227, Q_HI214, Q_HB, Q_HI214_e3, Q_HO243, Q_BK210_e6, Q_X8_⟩ hb_ hon hoff
    refine ⟨_, rfl, fun K hK => ?_⟩
    have e26 : a.tmps[26]? = some (v242) := by rw [ha]; exact putSel_on (e := (4, 26, v242)) 2 rfl rfl (hon 4 (by kernel_rfl)) rfl
    replace ha := Aside0.mk ha
    have HO217 := Aside0.mk Q_HO217
    have BK227 := Aside0.mk Q_BK227
    have HB := Aside0.mk Q_HB
    have HI214 := Aside0.mk (Q_HI214_e3 (hon 3 (by kernel_rfl)))
    have HO243 := Aside0.mk (Q_HO243 (hon 4 (by kernel_rfl)))
    have BK210 := Aside0.mk (Q_BK210_e6 (hon 6 (by kernel_rfl)))
    refine value_ (w1 := w') (v := v242) (by rfl) rfl ?_ ?_
    ·go_simp
     (try simp only [i64_w])
     try rfl
    refine hK.out _ _ ⟨v242, (v242), (by rw [ha.out]; exact putSel_upk 5 hb_ rfl rfl rfl), Q_HO217, fun h0_ => absurd ((hon 6 (by kernel_rfl)).symm.trans h0_) (by decide), Q_BK227, fun h0_ => absurd ((hon 3 (by kernel_rfl)).symm.trans h0_) (by decide), Q_HB, Q_HI214_e3, Q_HO243, Q_BK210_e6, fun _ => rfl⟩
   exact steps_nil
  rintro b a w32 hall ⟨v242, m8_, ha, Q_HO217, Q_BK210, Q_BK227, Q_HI214, Q_HB, Q_HI214_e3, Q_HO243, Q_BK210_e6, Q_X8_⟩
  clear BK210 BK227 HB HI214 HO217
  have hb1_ := hall 1 (by kernel_rfl)
  have hb3_ := hall 3 (by kernel_rfl)
  have hb4_ := hall 4 (by kernel_rfl)
  have hb5_ := hall 5 (by kernel_rfl)
  have hb6_ := hall 6 (by kernel_rfl)
  have hb7_ := hall 7 (by kernel_rfl)
  have hb8_ := hall 8 (by kernel_rfl)
  subst ha
  obtain rfl := Q_X8_ hb8_
  simp only [putSel, hb1_, hb3_, hb4_, hb5_, hb6_, hb7_, hb8_, if_true, Act.put, List.setIfInBounds_toArray, List.set_cons_zero, List.set_cons_succ]
  have HO217 := Aside0.mk Q_HO217
  clear Q_HO217
  clear Q_BK210
  have BK227 := Aside0.mk Q_BK227
  clear Q_BK227
  clear Q_HI214
  have HB := Aside0.mk Q_HB
  clear Q_HB
  have HI214 := Aside0.mk (Q_HI214_e3 hb3_)
  clear Q_HI214_e3
  have HO243 := Aside0.mk (Q_HO243 hb4_)
  clear Q_HO243
  have BK210 := Aside0.mk (Q_BK210_e6 hb6_)
  clear Q_BK210_e6
  clear hall hb1_ hb3_ hb4_ hb5_ hb6_ hb7_ hb8_
  try go_wp2
  refine bodyPost_ret (results_list (rs := [.tmp 2, .cell 3 37, .tmp 4, .tmp 5]) rfl (by simp) (.tmp (.cell gb210 37 #[.int .i64 t231, .int .i64 t232, .int .i64 t233, .int .i64 t234, .int .i64 t235] (0, 0) _ rfl att6_0_1 Try.underlying37 rfl (by kernel_rfl) (.tmp (.tmp .nil))))) rfl ?_
  exact ⟨_, _, retT_, ⟨fun k hk e => HO243.out.1 k e.symm hk.symm, HO217.out.2⟩, by exact toR_ (HO243.out), att6_0_5⟩
 ·replace c6 := Bool.eq_false_iff.mpr c6
  subst c6
  rw [if_neg (show ¬ (false = true) by decide)] at H
  replace H := Option.bind_eq_some_iff.mp H
  obtain ⟨⟨t244, t245, t246⟩, A330, H⟩ := H
  (try dsimp only at H)
  have A33 := Aside0.mk A330
  clear A330
  obtain ⟨y247, hy247⟩ : ∃ y_ : List Int, y_ = (([0, 1, 30, 60, 61] : List Int)) := ⟨_, rfl⟩
  replace H : (some (t215, t220, t221, t222, t223, t224, t244, y247)) = some (r1, r2, r3, r4, r5, r6, r7, r8) := by rw [hy247]; exact H
  have Ny247 := Aside0.mk hy247
  clear hy247
  simp only [Option.some.injEq, Prod.mk.injEq] at H
  obtain ⟨rfl, rfl, rfl, rfl, rfl, rfl, rfl, rfl⟩ := H
  go_enter Try.func21, Try.ntmps21
  try go_wp2_with (first | ((with_reducible refine gate_dst (N := 3) rfl ?_); refine box_event ?hg (N := 3) ?hd (cs := #[.int .i64 0, .int .i64 0, .int .i64 0, .int .i64 0, .int .i64 0]) (t := 37) ?hr ?_; (case hd => rfl); (case hg => rfl); (case hr => first | (go_simp; done) | (go_simp; rfl)); intro gb210 hg w34 hbox hb; refine swap4_ (below_step atgB_ hb) (hbox) ((by rw [hg]; exact (below_size atgB_) : w.heap.size ≤ gb210)) ((by rw [hg]; exact (below_size atgB_) : w.heap.size ≤ gb210)) ?_; clear HB; intro HB BK210 GW210 GE210; clear hb hbox hg) | ((with_reducible refine gate_callee (f := 92) rfl ?_); refine goesL_ (some 10) rfl rfl Try.func92 (by kernel_rfl) rfl #[.slice A0 l0.length c0] rfl atgM_ ?_; (with_reducible refine (spec_l1New.calls k _ _ l0 t211 t212 t213 w _ ?side1 ?side2 ?side3 A2.out).mono ?_); (case side1 => repeat (first | (with_reducible first | exact HB.out | apply below_alloc | apply pw_below_drewN | apply below_drew1 | refine below_set ?_ GE210.out) | exact HB.out)); (case side2 => exact HR0.out); (case side3 => exact HC0.out); rintro e w35 ⟨g214, rfl, hi, hb, hb2⟩; refine ⟨_, rfl, ?_⟩; refine swap5_ (blk_below (g := gb210) (o := .cells #[.int .i64 0, .int .i64 0, .int .i64 0, .int .i64 0, .int .i64 0] 37 (0, 0)) att6_0_1 hb2) (hb) (hi) (IsS170.ne_blk hi (blk_below (g := gb210) (o := .cells #[.int .i64 0, .int .i64 0, .int .i64 0, .int .i64 0, .int .i64 0] 37 (0, 0)) att6_0_1 hb2) (by decide)) (Ne.symm (IsS170.ne_blk hi (blk_below (g := gb210) (o := .cells #[.int .i64 0, .int .i64 0, .int .i64 0, .int .i64 0, .int .i64 0] 37 (0, 0)) att6_0_1 hb2) (by decide))) ?_; clear BK210 HB; intro BK210 HB HI214 NB214_210 NB210_214; (try clear hb); (try clear hb2); (try clear hk); (try clear hi)) | ((with_reducible refine gate_callee (f := 93) rfl ?_); refine goesL_ (some 12) rfl rfl Try.func93 (by kernel_rfl) rfl #[.pointer (some ⟨g214, 0, none⟩)] rfl atgM_ ?_; (with_reducible refine (spec_l9DrawCaps.calls k g214 t211 t212 t213 t215 t218 t219 w _ ?side1 ?side2 A3.out).mono ?_); (case side1 => repeat (first | (with_reducible first | exact HI214.out | apply IsS170.alloc | apply IsS170.drewN | apply IsS170.drew | apply IsS170.set_1 | apply IsS170.set_2 | refine IsS170.far ?_ NB214_210.out _) | exact HI214.out)); (case side2 => repeat (first | (with_reducible first | exact HB.out | apply below_alloc | apply pw_below_drewN | apply below_drew1 | refine below_set ?_ (IsS170.ge HI214.out) | refine below_set ?_ GE210.out) | exact HB.out)); rintro e w36 ⟨v216, rfl, ho0, hi, hb, hk⟩; refine ⟨_, rfl, ?_⟩; refine swap4_ (KeepBut.blk hk (g' := gb210) (o := .cells #[.int .i64 0, .int .i64 0, .int .i64 0, .int .i64 0, .int .i64 0] 37 (0, 0)) att6_0_1 NB210_214.out (by simp)) (Kd.R_lower ho0 (below_size att6_0_4)) (hb) (hi) ?_; clear BK210 HB HI214; intro BK210 HO217 HB HI214; (try clear hb); (try clear hb2); (try clear hk); (try clear hi); (try clear ho0); obtain ⟨Ao37, co37, eo37⟩ := Kd.R_slice HO217.out; subst eo37) | ((with_reducible refine gate_callee (f := 94) rfl ?_); refine goesL_ (some 16) rfl rfl Try.func94 (by kernel_rfl) rfl #[.pointer (some ⟨g214, 0, none⟩), .int .i64 5, .int .i64 (t215.length : Int)] rfl atgM_ ?_; (with_reducible refine (spec_l1DrawIns.calls k g214 t211 t218 t219 5 (t215.length : Int) t220 t221 t222 t223 t224 t225 t226 w _ ?side1 ?side2 A4.out).mono ?_); (case side1 => repeat (first | (with_reducible first | exact HI214.out | apply IsS170.alloc | apply IsS170.drewN | apply IsS170.drew | apply IsS170.set_1 | apply IsS170.set_2 | refine IsS170.far ?_ NB214_210.out _) | exact HI214.out)); (case side2 => repeat (first | (with_reducible first | exact HB.out | apply below_alloc | apply pw_below_drewN | apply below_drew1 | refine below_set ?_ (IsS170.ge HI214.out) | refine below_set ?_ GE210.out) | exact HB.out)); rintro e w38 ⟨rfl, hi, hb, hk⟩; refine ⟨_, rfl, ?_⟩; refine swap4_ (KeepBut.blk hk (g' := gb210) (o := .cells #[.int .i64 0, .int .i64 0, .int .i64 0, .int .i64 0, .int .i64 0] 37 (0, 0)) att6_0_1 NB210_214.out (by simp)) (Kd.R_mono (Kd.R_keep (IsS170.apart (show IsS170 w _ g214 t211 t218 t219 from by repeat (first | (with_reducible first | exact HI214.out | apply IsS170.alloc | apply IsS170.drewN | apply IsS170.drew | apply IsS170.set_1 | apply IsS170.set_2 | refine IsS170.far ?_ NB214_210.out _) | exact HI214.out)) att6_0_6 (by decide)) hk (fun _ h => h.2)) (fun _ h => h.1)) (hb) (hi) ?_; clear BK210 HO217 HB HI214; intro BK210 HO217 HB HI214; (try clear hb); (try clear hb2); (try clear hk); (try clear hi)) | ((with_reducible refine gate_dst (N := 8) rfl ?_); refine box_event ?hg (N := 8) ?hd (cs := #[.int .i64 0, .int .i64 0, .int .i64 0, .int .i64 0, .int .i64 0]) (t := 37) ?hr ?_; (case hd => rfl); (case hg => rfl); (case hr => first | (go_simp; done) | (go_simp; rfl)); intro gb227 hg w39 hbox hb; refine swap11_ (Kd.R_below att6_0_6 hb) (blk_below (g := gb210) (o := .cells #[.int .i64 0, .int .i64 0, .int .i64 0, .int .i64 0, .int .i64 0] 37 (0, 0)) att6_0_1 hb) (IsS170.below att6_0_17 hb) (below_step att6_0_4 hb) (hbox) ((by rw [hg]; exact (below_size att6_0_4) : w.heap.size ≤ gb227)) ((by rw [hg]; exact (below_size att6_0_4) : w.heap.size ≤ gb227)) ((by rw [hg]; exact Nat.ne_of_lt (blk_lt (g := gb210) (o := .cells #[.int .i64 0, .int .i64 0, .int .i64 0, .int .i64 0, .int .i64 0] 37 (0, 0)) att6_0_1) : gb210 ≠ gb227)) ((by rw [hg]; exact Nat.ne_of_gt (blk_lt (g := gb210) (o := .cells #[.int .i64 0, .int .i64 0, .int .i64 0, .int .i64 0, .int .i64 0] 37 (0, 0)) att6_0_1) : gb227 ≠ gb210)) ((by rw [hg]; exact Nat.ne_of_lt (IsS170.lt (show IsS170 w _ g214 t211 t225 t226 from by repeat (first | (with_reducible first | exact HI214.out | apply IsS170.alloc | apply IsS170.drewN | apply IsS170.drew | apply IsS170.set_1 | apply IsS170.set_2 | refine IsS170.far ?_ NB214_210.out _) | exact HI214.out))) : g214 ≠ gb227)) ((by rw [hg]; exact Nat.ne_of_gt (IsS170.lt (show IsS170 w _ g214 t211 t225 t226 from by repeat (first | (with_reducible first | exact HI214.out | apply IsS170.alloc | apply IsS170.drewN | apply IsS170.drew | apply IsS170.set_1 | apply IsS170.set_2 | refine IsS170.far ?_ NB214_210.out _) | exact HI214.out))) : gb227 ≠ g214)) ?_; clear HO217 BK210 HI214 HB; intro HO217 BK210 HI214 HB BK227 GW227 GE227 NB210_227 NB227_210 NB214_227 NB227_214; clear hb hbox hg; have hnb40 := NB227_210.out; have hnc40 := NB210_227.out; have hnb41 := NB227_214.out; have hnc41 := NB214_227.out; obtain ⟨hcz42_0, hcz42_1, hcz42_2, hcz42_3, hcz42_4, hfz42_0, hfz42_1, hfz42_2, hfz42_3, hfz42_4⟩ := blkB5_ BK227) | ((with_reducible refine gate_callee (f := 95) rfl ?_); refine goesL_ (some 18) rfl rfl Try.func95 (by kernel_rfl) rfl #[.pointer (some ⟨g214, 0, none⟩), .int .i64 6] rfl atgM_ ?_; (with_reducible refine (spec_l1Once.calls g214 t211 t225 t226 6 false t229 t230 w _ ?side1 ?side2 A5.out).mono ?_); (case side1 => repeat (first | (with_reducible first | exact HI214.out | apply IsS170.alloc | apply IsS170.drewN | apply IsS170.drew | apply IsS170.set_1 | apply IsS170.set_2 | refine IsS170.far ?_ NB214_210.out _ | refine IsS170.far ?_ NB214_227.out _) | exact HI214.out)); (case side2 => repeat (first | (with_reducible first | exact HB.out | apply below_alloc | apply pw_below_drewN | apply below_drew1 | refine below_set ?_ (IsS170.ge HI214.out) | refine below_set ?_ GE210.out | refine below_set ?_ GE227.out) | exact HB.out)); rintro e w43 ⟨rfl, hi, hb, hk⟩; refine ⟨_, rfl, ?_⟩; refine swap5_ (KeepBut.blk hk (g' := gb210) (o := .cells #[.int .i64 0, .int .i64 0, .int .i64 0, .int .i64 0, .int .i64 0] 37 (0, 0)) att6_0_3 NB210_214.out (by simp)) (Kd.R_mono (Kd.R_keep (IsS170.apart (show IsS170 w _ g214 t211 t225 t226 from by repeat (first | (with_reducible first | exact HI214.out | apply IsS170.alloc | apply IsS170.drewN | apply IsS170.drew | apply IsS170.set_1 | apply IsS170.set_2 | refine IsS170.far ?_ NB214_210.out _ | refine IsS170.far ?_ NB214_227.out _) | exact HI214.out)) att6_0_13 (by decide)) hk (fun _ h => h.2)) (fun _ h => h.1)) (KeepBut.blk hk (g' := gb227) (o := .cells #[.int .i64 t220, .int .i64 t221, .int .i64 t222, .int .i64 t223, .int .i64 t224] 37 (0, 0)) att6_0_7 NB227_214.out (by simp)) (hb) (hi) ?_; clear BK210 HO217 BK227 HB HI214; intro BK210 HO217 BK227 HB HI214; (try clear hb); (try clear hb2); (try clear hk); (try clear hi)))
  refine swap5_ (Kd.R_drew HO217.out) (blk_drew BK210.out) (blk_drew BK227.out) (IsS170.drew HI214.out) (below_drew1 HB.out) ?_
  clear HO217 BK210 BK227 HI214 HB
  intro HO217 BK210 BK227 HI214 HB
  refine start_ (n := 9) (S := fun w' => True) (ds := []) (tf_ 0 9) (by kernel_rfl) rfl rfl trivial (fun hHeld => ?_); refine with_tabW spec_DrawEmit.tab6 spec_DrawEmit.bits6 (fun HT_ HW_ => ?_)
  generalize w43.drew = w44 at HO217 BK210 BK227 HI214 HB hHeld ⊢
  refine pureQ_ (i := 0) (N := some 22) (tf_ 1 8) (h := ?_)
  refine pureQ_ (i := 2) (N := some 24) #[true, false, true, false, false, false, false, false, false] (h := ?_)
  refine inv_at [1, 3, 4, 5, 6, 7, 8] (fun a0_ b a w' => ∃ (v248 : Value) (m8_ : Value), a = putSel a0_ b [(1, 23, .agg #[.int .i64 t220, .int .i64 t221, .int .i64 t222, .int .i64 t223, .int .i64 t224]), (3, 25, .int .i64 t244), (4, 26, v248), (5, 2, .slice Ao37 t215.length co37), (7, 4, .int .i64 t244), (8, 5, m8_)] ∧ (Kd.R (Kd.int .i64) 3 w' w.heap.size (fun _ => True) (.slice Ao37 t215.length co37) t215) ∧ (b 6 = false → w'.heap[gb210]? = some (.cells #[.int .i64 0, .int .i64 0, .int .i64 0, .int .i64 0, .int .i64 0] 37 (0, 0))) ∧ (w'.heap[gb227]? = some (.cells #[.int .i64 t220, .int .i64 t221, .int .i64 t222, .int .i64 t223, .int .i64 t224] 37 (0, 0))) ∧ (b 3 = false → IsS170 w w' g214 t211 t229 t230) ∧ (Below w.heap.size w w') ∧ (b 3 = true → IsS170 w w' g214 t211 t245 t246) ∧ (b 4 = true → Kd.R (Kd.int .i64) 3 w' w.heap.size (fun k_ => some k_ ≠ (.slice Ao37 t215.length co37 : Value).ownBlock) v248 y247) ∧ (b 6 = true → w'.heap[gb210]? = some (.cells #[.int .i64 t220, .int .i64 t221, .int .i64 t222, .int .i64 t223, .int .i64 t224] 37 (0, 0))) ∧ (b 8 = true → (m8_ : Value) = v248)) HT_.out HW_.out (by kernel_rfl) (by kernel_rfl) ?_ ?_ ?_
  ·exact ⟨.bool false, .bool false, by simp only [putSel, Bool.false_eq_true, if_false], HO217.out, fun _ => BK210.out, BK227.out, fun _ => HI214.out, HB.out, fun h_ => absurd h_ (by decide), fun h_ => absurd h_ (by decide), fun h_ => absurd h_ (by decide), fun h_ => absurd h_ (by decide)⟩
  ·skip
   clear BK210 BK227 HB HI214 HO217
   refine steps_cons ?_ ?_
   ·rintro b a w' ⟨v248, m8_, ha, Q_HO217, Q_BK210, Q_BK227, Q_HI214, Q_HB, Q_HI214_e3, Q_HO249, Q_BK210_e6, Q_X8_⟩ hb_ hon hoff
    refine ⟨_, rfl, fun K hK => ?_⟩
    have e8 : a.tmps[8]? = some (.pointer (some ⟨gb227, 0, none⟩)) := by rw [ha]; exact (putSel_off rfl).trans rfl
    replace ha := Aside0.mk ha
    have HO217 := Aside0.mk Q_HO217
    have BK210 := Aside0.mk (Q_BK210 (hoff 6 (by kernel_rfl)))
    have BK227 := Aside0.mk Q_BK227
    have HB := Aside0.mk Q_HB
    have hc0_ : w'.cell? ⟨gb227, 0, none⟩ = some (.int .i64 t220) := (blk_cell BK227.out 0).trans rfl
    have hc1_ : w'.cell? ⟨gb227, 1, none⟩ = some (.int .i64 t221) := (blk_cell BK227.out 1).trans rfl
    have hc2_ : w'.cell? ⟨gb227, 2, none⟩ = some (.int .i64 t222) := (blk_cell BK227.out 2).trans rfl
    have hc3_ : w'.cell? ⟨gb227, 3, none⟩ = some (.int .i64 t223) := (blk_cell BK227.out 3).trans rfl
    have hc4_ : w'.cell? ⟨gb227, 4, none⟩ = some (.int .i64 t224) := (blk_cell BK227.out 4).trans rfl
    refine value_ (w1 := w') (v := .agg #[.int .i64 t220, .int .i64 t221, .int .i64 t222, .int .i64 t223, .int .i64 t224]) (by rfl) rfl ?_ ?_
    ·go_simp
     (try simp only [i64_w])
     try rfl
    refine hK.out _ _ ⟨v248, m8_, (by rw [ha.out]; exact putSel_upk 0 hb_ rfl rfl rfl), Q_HO217, Q_BK210, Q_BK227, Q_HI214, Q_HB, Q_HI214_e3, Q_HO249, fun h0_ => absurd ((hoff 6 (by kernel_rfl)).symm.trans h0_) (by decide), fun h0_ => absurd ((hoff 8 (by kernel_rfl)).symm.trans h0_) (by decide)⟩
   refine steps_cons ?_ ?_
   ·rintro b a w' ⟨v248, m8_, ha, Q_HO217, Q_BK210, Q_BK227, Q_HI214, Q_HB, Q_HI214_e3, Q_HO249, Q_BK210_e6, Q_X8_⟩ hb_ hon hoff
    refine ⟨_, rfl, fun K hK => ?_⟩
    have e24 : a.tmps[24]? = some (.pointer (some ⟨g214, 0, none⟩)) := by rw [ha]; exact (putSel_off rfl).trans rfl
    replace ha := Aside0.mk ha
    have HO217 := Aside0.mk Q_HO217
    have BK210 := Aside0.mk (Q_BK210 (hoff 6 (by kernel_rfl)))
    have BK227 := Aside0.mk Q_BK227
    have HI214 := Aside0.mk (Q_HI214 hb_)
    have HB := Aside0.mk Q_HB
    refine goes_ Try.func97 (by kernel_rfl) rfl #[.pointer (some ⟨g214, 0, none⟩), .int .i64 200] (by rfl) rfl rfl (by first | (simp only [List.map_toArray, List.map_cons, List.map_nil, Act.eval, Array.getD_eq_getD_getElem?, Option.getD_some, e24]; done) | (simp only [List.map_toArray, List.map_cons, List.map_nil, Act.eval, Array.getD_eq_getD_getElem?, Option.getD_some, e24]; rfl)) ?_
    with_reducible refine (spec_l1Below.calls g214 t211 t229 t230 200 t244 t245 t246 w _ ?side1 ?side2 A33.out).mono ?_
    (case side1 => repeat (first | (with_reducible first | exact HI214.out | apply IsS170.alloc | apply IsS170.drewN | apply IsS170.drew | apply IsS170.set_1 | apply IsS170.set_2 | refine IsS170.far ?_ NB214_210.out _ | refine IsS170.far ?_ NB214_227.out _) | exact HI214.out))
    (case side2 => repeat (first | (with_reducible first | exact HB.out | apply below_alloc | apply pw_below_drewN | apply below_drew1 | refine below_set ?_ (IsS170.ge HI214.out) | refine below_set ?_ GE210.out | refine below_set ?_ GE227.out) | exact HB.out))
    rintro e w45 ⟨rfl, hi, hb, hk⟩
    refine ⟨_, rfl, ?_⟩
    have n0_ := Aside0.mk (KeepBut.blk hk (g' := gb210) (o := .cells #[.int .i64 0, .int .i64 0, .int .i64 0, .int .i64 0, .int .i64 0] 37 (0, 0)) att6_0_1 NB210_214.out (by simp))
    have n1_ := Aside0.mk (Kd.R_mono (Kd.R_keep (IsS170.apart (show IsS170 w _ g214 t211 t229 t230 from by repeat (first | (with_reducible first | exact HI214.out | apply IsS170.alloc | apply IsS170.drewN | apply IsS170.drew | apply IsS170.set_1 | apply IsS170.set_2 | refine IsS170.far ?_ NB214_210.out _ | refine IsS170.far ?_ NB214_227.out _) | exact HI214.out)) att6_0_6 (by decide)) hk (fun _ h => h.2)) (fun _ h => h.1))
    have n2_ := Aside0.mk (KeepBut.blk hk (g' := gb227) (o := .cells #[.int .i64 t220, .int .i64 t221, .int .i64 t222, .int .i64 t223, .int .i64 t224] 37 (0, 0)) att6_0_10 NB227_214.out (by simp))
    have n3_ := Aside0.mk (hb)
    have n4_ := Aside0.mk (hi)
    have z_HO249 := fun (h0_ : b 4 = true) => (show Kd.R (Kd.int .i64) 3 w45 w.heap.size (fun k_ => some k_ ≠ (.slice Ao37 t215.length co37 : Value).ownBlock) v248 y247 from by first | exact (Kd.R_mono (Kd.R_keep (IsS170.apart (show IsS170 w _ g214 t211 t229 t230 from by repeat (first | (with_reducible first | exact HI214.out | apply IsS170.alloc | apply IsS170.drewN | apply IsS170.drew | apply IsS170.set_1 | apply IsS170.set_2 | refine IsS170.far ?_ NB214_210.out _ | refine IsS170.far ?_ NB214_227.out _) | exact HI214.out)) att6_0_21 (by decide)) hk (fun _ h => h.2)) (fun _ h => h.1)) | exact Kd.R_mono (Kd.R_mono (Kd.R_keep (IsS170.apart (show IsS170 w _ g214 t211 t229 t230 from by repeat (first | (with_reducible first | exact HI214.out | apply IsS170.alloc | apply IsS170.drewN | apply IsS170.drew | apply IsS170.set_1 | apply IsS170.set_2 | refine IsS170.far ?_ NB214_210.out _ | refine IsS170.far ?_ NB214_227.out _) | exact HI214.out)) att6_0_21 (by decide)) hk (fun _ h => h.2)) (fun _ h => h.1)) (fun _ h_ => by first | trivial | exact h_ | exact h_.1))
    clear BK210
    clear HO217
    clear BK227
    clear HB
    clear HI214
    have BK210 := n0_
    have HO217 := n1_
    have BK227 := n2_
    have HB := n3_
    have HI214 := n4_
    clear n0_ n1_ n2_ n3_ n4_
    (try clear hb)
    (try clear hb2)
    (try clear hk)
    (try clear hi)
    refine hK.out _ _ ⟨v248, m8_, (by rw [ha.out]; exact putSel_upk 1 hb_ rfl rfl rfl), att6_0_6, fun _ => att6_0_1, att6_0_10, fun h0_ => absurd ((up_self b 3).symm.trans h0_) (by decide), att6_0_5, fun _ => att6_0_8, z_HO249, fun h0_ => absurd ((hoff 6 (by kernel_rfl)).symm.trans h0_) (by decide), fun h0_ => absurd ((hoff 8 (by kernel_rfl)).symm.trans h0_) (by decide)⟩
   refine steps_cons ?_ ?_
   ·rintro b a w' ⟨v248, m8_, ha, Q_HO217, Q_BK210, Q_BK227, Q_HI214, Q_HB, Q_HI214_e3, Q_HO249, Q_BK210_e6, Q_X8_⟩ hb_ hon hoff
    refine ⟨_, rfl, fun K hK => ?_⟩
    replace ha := Aside0.mk ha
    have HO217 := Aside0.mk Q_HO217
    have BK227 := Aside0.mk Q_BK227
    have HB := Aside0.mk Q_HB
    refine Kd.R_lit_step (Kd.int .i64) _ 3 ?hg (N := 26) ?hd (xs := ([0, 1, 30, 60, 61] : List Int)) (inner := [.int .i64 0, .int .i64 1, .int .i64 30, .int .i64 60, .int .i64 61]) (ok := fun _ => True) (okp := fun _ => True) ?hr ?hp (fun _ hk => hk) trivial (Below.refl _ _) (Nat.le_refl _) (by simp) ?_; (case hd => rfl); (case hg => rfl); (case hr => first | (go_simp; done) | (go_simp; rfl)); (case hp => exact (Reps.one (show Kd.M (Kd.int .i64) _ _ _ 0 [.int .i64 0] from rfl) (Reps.one (show Kd.M (Kd.int .i64) _ _ _ 1 [.int .i64 1] from rfl) (Reps.one (show Kd.M (Kd.int .i64) _ _ _ 30 [.int .i64 30] from rfl) (Reps.one (show Kd.M (Kd.int .i64) _ _ _ 60 [.int .i64 60] from rfl) (Reps.one (show Kd.M (Kd.int .i64) _ _ _ 61 [.int .i64 61] from rfl) (Reps.none _ _)))))))
    intro v248 w45 ho46 hb hg_ hnew_
    clear hg_ hnew_
    (first | rw [← Ny247.out] at ho46 | (simp only [Int.reduceToNat] at ho46; rw [← Ny247.out] at ho46))
    have n0_ := Aside0.mk (Kd.R_elder' att6_0_6 (Kd.R_base ho46) hb)
    have n1_ := Aside0.mk (Kd.R_lower (Kd.R_new' ho46 (Kd.R_lt att6_0_6)) (below_size att6_0_9))
    have n4_ := Aside0.mk (blk_below (g := gb227) (o := .cells #[.int .i64 t220, .int .i64 t221, .int .i64 t222, .int .i64 t223, .int .i64 t224] 37 (0, 0)) att6_0_10 hb)
    have n5_ := Aside0.mk (below_step att6_0_9 hb)
    have z_BK210 := fun (h0_ : b 6 = false) => (show w45.heap[gb210]? = some (.cells #[.int .i64 0, .int .i64 0, .int .i64 0, .int .i64 0, .int .i64 0] 37 (0, 0)) from by first | exact (blk_below (g := gb210) (o := .cells #[.int .i64 0, .int .i64 0, .int .i64 0, .int .i64 0, .int .i64 0] 37 (0, 0)) att6_0_20 hb))
    have z_HI214 := fun (h0_ : b 3 = false) => (show IsS170 w w45 g214 t211 t229 t230 from by first | exact (IsS170.below att6_0_16 hb))
    have z_HI214_e3 := fun (h0_ : b 3 = true) => (show IsS170 w w45 g214 t211 t245 t246 from by first | exact (IsS170.below att6_0_14 hb))
    have z_BK210_e6 := fun (h0_ : b 6 = true) => (show w45.heap[gb210]? = some (.cells #[.int .i64 t220, .int .i64 t221, .int .i64 t222, .int .i64 t223, .int .i64 t224] 37 (0, 0)) from by first | exact (blk_below (g := gb210) (o := .cells #[.int .i64 t220, .int .i64 t221, .int .i64 t222, .int .i64 t223, .int .i64 t224] 37 (0, 0)) att6_0_19 hb))
    clear HO217
    clear BK227
    clear HB
    have HO217 := n0_
    have HO249 := n1_
    have BK227 := n4_
    have HB := n5_
    clear n0_ n1_ n4_ n5_
    clear hb ho46
    refine hK.out _ _ ⟨v248, m8_, (by rw [ha.out]; exact putSel_upk 2 hb_ rfl rfl rfl), att6_0_18, z_BK210, att6_0_10, z_HI214, att6_0_9, z_HI214_e3, fun _ => (by exact toR_ (Kd.R_mono HO249.out (fun _ hk => hk.2))), z_BK210_e6, fun h0_ => absurd ((hoff 8 (by kernel_rfl)).symm.trans h0_) (by decide)⟩
   refine steps_cons ?_ ?_
   ·rintro b a w' ⟨v248, m8_, ha, Q_HO217, Q_BK210, Q_BK227, Q_HI214, Q_HB, Q_HI214_e3, Q_HO249, Q_BK210_e6, Q_X8_⟩ hb_ hon hoff
    refine ⟨_, rfl, fun K hK => ?_⟩
    have e22 : a.tmps[22]? = some (.slice Ao37 t215.length co37) := by rw [ha]; exact (putSel_off rfl).trans rfl
    replace ha := Aside0.mk ha
    have HO217 := Aside0.mk Q_HO217
    have BK210 := Aside0.mk (Q_BK210 (hoff 6 (by kernel_rfl)))
    have BK227 := Aside0.mk Q_BK227
    have HB := Aside0.mk Q_HB
    have HI214 := Aside0.mk (Q_HI214_e3 (hon 3 (by kernel_rfl)))
    refine value_ (w1 := w') (v := .slice Ao37 t215.length co37) (by rfl) rfl ?_ ?_
    ·go_simp
     (try simp only [i64_w])
     try rfl
    refine hK.out _ _ ⟨v248, m8_, (by rw [ha.out]; exact putSel_upk 3 hb_ rfl rfl rfl), Q_HO217, Q_BK210, Q_BK227, fun h0_ => absurd ((hon 3 (by kernel_rfl)).symm.trans h0_) (by decide), Q_HB, Q_HI214_e3, Q_HO249, fun h0_ => absurd ((hoff 6 (by kernel_rfl)).symm.trans h0_) (by decide), fun h0_ => absurd ((hoff 8 (by kernel_rfl)).symm.trans h0_) (by decide)⟩
   refine steps_cons ?_ ?_
   ·rintro b a w' ⟨v248, m8_, ha, Q_HO217, Q_BK210, Q_BK227, Q_HI214, Q_HB, Q_HI214_e3, Q_HO249, Q_BK210_e6, Q_X8_⟩ hb_ hon hoff
    refine ⟨_, rfl, fun K hK => ?_⟩
    have e3 : a.tmps[3]? = some (.pointer (some ⟨gb210, 0, none⟩)) := by rw [ha]; exact (putSel_off rfl).trans rfl
    have e23 : a.tmps[23]? = some (.agg #[.int .i64 t220, .int .i64 t221, .int .i64 t222, .int .i64 t223, .int .i64 t224]) := by rw [ha]; exact putSel_on (e := (1, 23, .agg #[.int .i64 t220, .int .i64 t221, .int .i64 t222, .int .i64 t223, .int .i64 t224])) 0 rfl rfl (hon 1 (by kernel_rfl)) rfl
    replace ha := Aside0.mk ha
    have HO217 := Aside0.mk Q_HO217
    have BK210 := Aside0.mk (Q_BK210 hb_)
    have BK227 := Aside0.mk Q_BK227
    have HB := Aside0.mk Q_HB
    have HI214 := Aside0.mk (Q_HI214_e3 (hon 3 (by kernel_rfl)))
    have hs47 : w'.cell? ⟨gb210, 0, none⟩ = some (.int .i64 0) := (blk_cell BK210.out 0).trans rfl
    have hfs47 := blk_frozen BK210.out 0
    have hns47_1 := NB227_210.out
    have hms47_1 := NB210_227.out
    have hs48 : w'.cell? ⟨gb210, 1, none⟩ = some (.int .i64 0) := (blk_cell BK210.out 1).trans rfl
    have hfs48 := blk_frozen BK210.out 1
    have hns48_1 := NB227_210.out
    have hms48_1 := NB210_227.out
    have hs49 : w'.cell? ⟨gb210, 2, none⟩ = some (.int .i64 0) := (blk_cell BK210.out 2).trans rfl
    have hfs49 := blk_frozen BK210.out 2
    have hns49_1 := NB227_210.out
    have hms49_1 := NB210_227.out
    have hs50 : w'.cell? ⟨gb210, 3, none⟩ = some (.int .i64 0) := (blk_cell BK210.out 3).trans rfl
    have hfs50 := blk_frozen BK210.out 3
    have hns50_1 := NB227_210.out
    have hms50_1 := NB210_227.out
    have hs51 : w'.cell? ⟨gb210, 4, none⟩ = some (.int .i64 0) := (blk_cell BK210.out 4).trans rfl
    have hfs51 := blk_frozen BK210.out 4
    have hns51_1 := NB227_210.out
    have hms51_1 := NB210_227.out
    refine skip_ (w1 := ?_) (by rfl) rfl ?_ ?_
    rotate_left
    ·go_simp
     rfl
    refine hK.out _ _ ⟨v248, m8_, (by rw [ha.out]; exact putSel_none (v := undef) rfl), (by exact toR_ (Kd.R_mono (farR5_ (Kd.R_types HO217.out BK210.out (by decide))) (fun _ hk => trivial))), fun h0_ => absurd ((up_self b 6).symm.trans h0_) (by decide), att6_0_12, fun h0_ => absurd ((hon 3 (by kernel_rfl)).symm.trans h0_) (by decide), att6_0_5, fun _ => att6_0_8, fun h0_ => (by exact toR_ (Kd.R_mono (farR5_ (Kd.R_types (Q_HO249 h0_) BK210.out (by decide))) (fun _ hk => hk.1))), fun _ => (by (with_reducible repeat (first | refine blk_drewN ?_ _ | refine blk_drew ?_ | refine blk_alloc ?_ _)); refine blk_put (cs := #[.int .i64 t220, .int .i64 t221, .int .i64 t222, .int .i64 t223, .int .i64 0]) ?_ 4 _ rfl; (with_reducible repeat (first | refine blk_drewN ?_ _ | refine blk_drew ?_ | refine blk_alloc ?_ _)); refine blk_put (cs := #[.int .i64 t220, .int .i64 t221, .int .i64 t222, .int .i64 0, .int .i64 0]) ?_ 3 _ rfl; (with_reducible repeat (first | refine blk_drewN ?_ _ | refine blk_drew ?_ | refine blk_alloc ?_ _)); refine blk_put (cs := #[.int .i64 t220, .int .i64 t221, .int .i64 0, .int .i64 0, .int .i64 0]) ?_ 2 _ rfl; (with_reducible repeat (first | refine blk_drewN ?_ _ | refine blk_drew ?_ | refine blk_alloc ?_ _)); refine blk_put (cs := #[.int .i64 t220, .int .i64 0, .int .i64 0, .int .i64 0, .int .i64 0]) ?_ 1 _ rfl; (with_reducible repeat (first | refine blk_drewN ?_ _ | refine blk_drew ?_ | refine blk_alloc ?_ _)); refine blk_put (cs := #[.int .i64 0, .int .i64 0, .int .i64 0, .int .i64 0, .int .i64 0]) ?_ 0 _ rfl; (with_reducible repeat (first | refine blk_drewN ?_ _ | refine blk_drew ?_ | refine blk_alloc ?_ _)); exact BK210.out), fun h0_ => absurd ((hoff 8 (by kernel_rfl)).symm.trans h0_) (by decide)⟩
   refine steps_cons ?_ ?_
   ·rintro b a w' ⟨v248, m8_, ha, Q_HO217, Q_BK210, Q_BK227, Q_HI214, Q_HB, Q_HI214_e3, Q_HO249, Q_BK210_e6, Q_X8_⟩ hb_ hon hoff
    refine ⟨_, rfl, fun K hK => ?_⟩
    have e25 : a.tmps[25]? = some (.int .i64 t244) := by rw [ha]; exact putSel_on (e := (3, 25, .int .i64 t244)) 1 rfl rfl (hon 3 (by kernel_rfl)) rfl
    replace ha := Aside0.mk ha
    have HO217 := Aside0.mk Q_HO217
    have BK227 := Aside0.mk Q_BK227
    have HB := Aside0.mk Q_HB
    have HI214 := Aside0.mk (Q_HI214_e3 (hon 3 (by kernel_rfl)))
    have BK210 := Aside0.mk (Q_BK210_e6 (hon 6 (by kernel_rfl)))
    refine value_ (w1 := w') (v := .int .i64 t244) (by rfl) rfl ?_ ?_
    ·go_simp
     (try simp only [i64_w])
     try rfl
    refine hK.out _ _ ⟨v248, m8_, (by rw [ha.out]; exact putSel_upk 4 hb_ rfl rfl rfl), Q_HO217, fun h0_ => absurd ((hon 6 (by kernel_rfl)).symm.trans h0_) (by decide), Q_BK227, fun h0_ => absurd ((hon 3 (by kernel_rfl)).symm.trans h0_) (by decide), Q_HB, Q_HI214_e3, Q_HO249, Q_BK210_e6, fun h0_ => absurd ((hoff 8 (by kernel_rfl)).symm.trans h0_) (by decide)⟩
   refine steps_cons ?_ ?_
   ·rintro b a w' ⟨v248, m8_, ha, Q_HO217, Q_BK210, Q_BK227, Q_HI214, Q_HB, Q_HI214_e3, Q_HO249, Q_BK210_e6, Q_X8_⟩ hb_ hon hoff
    refine ⟨_, rfl, fun K hK => ?_⟩
    have e26 : a.tmps[26]? = some (v248) := by rw [ha]; exact putSel_on (e := (4, 26, v248)) 2 rfl rfl (hon 4 (by kernel_rfl)) rfl
    replace ha := Aside0.mk ha
    have HO217 := Aside0.mk Q_HO217
    have BK227 := Aside0.mk Q_BK227
    have HB := Aside0.mk Q_HB
    have HI214 := Aside0.mk (Q_HI214_e3 (hon 3 (by kernel_rfl)))
    have HO249 := Aside0.mk (Q_HO249 (hon 4 (by kernel_rfl)))
    have BK210 := Aside0.mk (Q_BK210_e6 (hon 6 (by kernel_rfl)))
    refine value_ (w1 := w') (v := v248) (by rfl) rfl ?_ ?_
    ·go_simp
     (try simp only [i64_w])
     try rfl
    refine hK.out _ _ ⟨v248, (v248), (by rw [ha.out]; exact putSel_upk 5 hb_ rfl rfl rfl), Q_HO217, fun h0_ => absurd ((hon 6 (by kernel_rfl)).symm.trans h0_) (by decide), Q_BK227, fun h0_ => absurd ((hon 3 (by kernel_rfl)).symm.trans h0_) (by decide), Q_HB, Q_HI214_e3, Q_HO249, Q_BK210_e6, fun _ => rfl⟩
   exact steps_nil
  rintro b a w53 hall ⟨v248, m8_, ha, Q_HO217, Q_BK210, Q_BK227, Q_HI214, Q_HB, Q_HI214_e3, Q_HO249, Q_BK210_e6, Q_X8_⟩
  clear BK210 BK227 HB HI214 HO217
  have hb1_ := hall 1 (by kernel_rfl)
  have hb3_ := hall 3 (by kernel_rfl)
  have hb4_ := hall 4 (by kernel_rfl)
  have hb5_ := hall 5 (by kernel_rfl)
  have hb6_ := hall 6 (by kernel_rfl)
  have hb7_ := hall 7 (by kernel_rfl)
  have hb8_ := hall 8 (by kernel_rfl)
  subst ha
  obtain rfl := Q_X8_ hb8_
  simp only [putSel, hb1_, hb3_, hb4_, hb5_, hb6_, hb7_, hb8_, if_true, Act.put, List.setIfInBounds_toArray, List.set_cons_zero, List.set_cons_succ]
  have HO217 := Aside0.mk Q_HO217
  clear Q_HO217
  clear Q_BK210
  have BK227 := Aside0.mk Q_BK227
  clear Q_BK227
  clear Q_HI214
  have HB := Aside0.mk Q_HB
  clear Q_HB
  have HI214 := Aside0.mk (Q_HI214_e3 hb3_)
  clear Q_HI214_e3
  have HO249 := Aside0.mk (Q_HO249 hb4_)
  clear Q_HO249
  have BK210 := Aside0.mk (Q_BK210_e6 hb6_)
  clear Q_BK210_e6
  clear hall hb1_ hb3_ hb4_ hb5_ hb6_ hb7_ hb8_
  try go_wp2
  refine bodyPost_ret (results_list (rs := [.tmp 2, .cell 3 37, .tmp 4, .tmp 5]) rfl (by simp) (.tmp (.cell gb210 37 #[.int .i64 t220, .int .i64 t221, .int .i64 t222, .int .i64 t223, .int .i64 t224] (0, 0) _ rfl att6_0_1 Try.underlying37 rfl (by kernel_rfl) (.tmp (.tmp .nil))))) rfl ?_
  exact ⟨_, _, retT_, ⟨fun k hk e => HO249.out.1 k e.symm hk.symm, HO217.out.2⟩, by exact toR_ (HO249.out), att6_0_5⟩

/-! ### impl_number: function 116 -/
def impl_number.f (a0 : Bool) : Option (Int) := if a0 = true then (some 1) else (some 0)
set_option maxHeartbeats 80000000 in
set_option maxRecDepth 100000 in
theorem impl_number.calls (a0 : Bool) (r : Int) (w : World) (h : impl_number.f a0 = some r) :
  Calls Try.prog 116 #[.bool a0] w fun e w' => e = .returned (.int .i64 r) ∧ Drawn0 w w' := by
 have H : (if a0 = true then (some 1) else (some 0)) = some r := h
 clear h
 by_cases c2 : a0 = true
 ·subst c2
  rw [if_pos rfl] at H
  obtain rfl := Option.some.inj H
  go_enter Try.func116, Try.ntmps116
  go_wp2
  go_ret
  exact ⟨by first | rfl | (simp; done) | (simp [*]; done), atgD_⟩
 ·replace c2 := Bool.eq_false_iff.mpr c2
  subst c2
  rw [if_neg (show ¬ (false = true) by decide)] at H
  obtain rfl := Option.some.inj H
  go_enter Try.func116, Try.ntmps116
  go_wp2
  go_ret
  exact ⟨by first | rfl | (simp; done) | (simp [*]; done), atgD_⟩

/-! ### impl_within: function 117 -/
def impl_within.f (a0 : Int) (a1 : Int) (a2 : Int) : Option (Bool) := if a0 ≥ a1 then (some (decide (a0 ≤ a2))) else (some false)
set_option maxHeartbeats 80000000 in
set_option maxRecDepth 100000 in
theorem impl_within.calls (a0 : Int) (a1 : Int) (a2 : Int) (r : Bool) (w : World) (h : impl_within.f a0 a1 a2 = some r) :
  Calls Try.prog 117 #[.int .i64 a0, .int .i64 a1, .int .i64 a2] w fun e w' => e = .returned (.bool r) ∧ Drawn0 w w' := by
 have H : (if a0 ≥ a1 then (some (decide (a0 ≤ a2))) else (some false)) = some r := h
 clear h
 by_cases c4 : a0 ≥ a1
 ·rw [if_pos c4] at H
  have c4b0 := decide_eq_true c4
  clear c4
  obtain rfl := Option.some.inj H
  go_enter Try.func117, Try.ntmps117
  go_wp2
  go_ret
  exact ⟨by first | rfl | (simp; done) | (simp [*]; done), atgD_⟩
 ·rw [if_neg c4] at H
  have c4b0 := decide_eq_false c4
  clear c4
  obtain rfl := Option.some.inj H
  go_enter Try.func117, Try.ntmps117
  go_wp2
  go_ret
  exact ⟨by first | rfl | (simp; done) | (simp [*]; done), atgD_⟩

/-! ### impl_EmitSize: function 26 -/
def impl_EmitSize.f (a0_0 : Int) (a0_1 : Int) (a0_2 : Int) (a0_3 : Int) (a0_4 : Int) : Option (Int) := if a0_0 = 5 then (some 29) else (if a0_0 = 7 then (some 31) else (if a0_0 = 6 then (some 30) else (if a0_0 = 8 then (some 32) else (if a0_0 = 9 then (some 13) else ((impl_within.f a0_0 1 13).bind fun t251 => ((impl_number.f t251).bind fun t252 => (some t252)))))))
set_option maxHeartbeats 80000000 in
set_option maxRecDepth 100000 in
theorem impl_EmitSize.calls (a0_0 : Int) (a0_1 : Int) (a0_2 : Int) (a0_3 : Int) (a0_4 : Int) (r : Int) (w : World) (h : impl_EmitSize.f a0_0 a0_1 a0_2 a0_3 a0_4 = some r) :
  Calls Try.prog 26 #[.agg #[.int .i64 a0_0, .int .i64 a0_1, .int .i64 a0_2, .int .i64 a0_3, .int .i64 a0_4]] w fun e w' => e = .returned (.int .i64 r) ∧ Below w.heap.size w w' := by
 have hu37 := Try.underlying37
 have HB := Aside0.mk (Below.refl w.heap.size w)
 have H : (if a0_0 = 5 then (some 29) else (if a0_0 = 7 then (some 31) else (if a0_0 = 6 then (some 30) else (if a0_0 = 8 then (some 32) else (if a0_0 = 9 then (some 13) else ((impl_within.f a0_0 1 13).bind fun t251 => ((impl_number.f t251).bind fun t252 => (some t252)))))))) = some r := h
 clear h
 by_cases c2 : a0_0 = 5
 ·rw [if_pos c2] at H
  have c2b0 := beq_iff_eq.mpr c2
  have c2b1 := bne_eq_false_iff_eq.mpr c2
  clear c2
  obtain rfl := Option.some.inj H
  go_enter Try.func26, Try.ntmps26
  go_wp2_with (first | ((with_reducible refine gate_dst (N := 1) rfl ?_); refine box_event ?hg (N := 1) ?hd (cs := #[.int .i64 a0_0, .int .i64 a0_1, .int .i64 a0_2, .int .i64 a0_3, .int .i64 a0_4]) (t := 37) ?hr ?_; (case hd => rfl); (case hg => rfl); (case hr => first | (go_simp; done) | (go_simp; rfl)); intro gb250 hg w3 hbox hb; refine swap4_ (below_step atgB_ hb) (hbox) ((by rw [hg]; exact (below_size atgB_) : w.heap.size ≤ gb250)) ((by rw [hg]; exact (below_size atgB_) : w.heap.size ≤ gb250)) ?_; clear HB; intro HB BK250 GW250 GE250; clear hb hbox hg; obtain ⟨hcz4_0, hcz4_1, hcz4_2, hcz4_3, hcz4_4, hfz4_0, hfz4_1, hfz4_2, hfz4_3, hfz4_4⟩ := blkB5_ BK250))
  go_ret
  exact ⟨retT_, att6_0_11⟩
 ·rw [if_neg c2] at H
  have c2b0 := beq_eq_false_iff_ne.mpr c2
  have c2b1 := bne_iff_ne.mpr c2
  by_cases c5 : a0_0 = 7
  ·rw [if_pos c5] at H
   have c5b0 := beq_iff_eq.mpr c5
   have c5b1 := bne_eq_false_iff_eq.mpr c5
   clear c5
   obtain rfl := Option.some.inj H
   go_enter Try.func26, Try.ntmps26
   go_wp2_with (first | ((with_reducible refine gate_dst (N := 1) rfl ?_); refine box_event ?hg (N := 1) ?hd (cs := #[.int .i64 a0_0, .int .i64 a0_1, .int .i64 a0_2, .int .i64 a0_3, .int .i64 a0_4]) (t := 37) ?hr ?_; (case hd => rfl); (case hg => rfl); (case hr => first | (go_simp; done) | (go_simp; rfl)); intro gb250 hg w6 hbox hb; refine swap4_ (below_step atgB_ hb) (hbox) ((by rw [hg]; exact (below_size atgB_) : w.heap.size ≤ gb250)) ((by rw [hg]; exact (below_size atgB_) : w.heap.size ≤ gb250)) ?_; clear HB; intro HB BK250 GW250 GE250; clear hb hbox hg; obtain ⟨hcz7_0, hcz7_1, hcz7_2, hcz7_3, hcz7_4, hfz7_0, hfz7_1, hfz7_2, hfz7_3, hfz7_4⟩ := blkB5_ BK250))
   go_ret
   exact ⟨retT_, att6_0_11⟩
  ·rw [if_neg c5] at H
   have c5b0 := beq_eq_false_iff_ne.mpr c5
   have c5b1 := bne_iff_ne.mpr c5
   by_cases c8 : a0_0 = 6
   ·rw [if_pos c8] at H
    have c8b0 := beq_iff_eq.mpr c8
    have c8b1 := bne_eq_false_iff_eq.mpr c8
    clear c8
    obtain rfl := Option.some.inj H
    go_enter Try.func26, Try.ntmps26
    go_wp2_with (first | ((with_reducible refine gate_dst (N := 1) rfl ?_); refine box_event ?hg (N := 1) ?hd (cs := #[.int .i64 a0_0, .int .i64 a0_1, .int .i64 a0_2, .int .i64 a0_3, .int .i64 a0_4]) (t := 37) ?hr ?_; (case hd => rfl); (case hg => rfl); (case hr => first | (go_simp; done) | (go_simp; rfl)); intro gb250 hg w9 hbox hb; refine swap4_ (below_step atgB_ hb) (hbox) ((by rw [hg]; exact (below_size atgB_) : w.heap.size ≤ gb250)) ((by rw [hg]; exact (below_size atgB_) : w.heap.size ≤ gb250)) ?_; clear HB; intro HB BK250 GW250 GE250; clear hb hbox hg; obtain ⟨hcz10_0, hcz10_1, hcz10_2, hcz10_3, hcz10_4, hfz10_0, hfz10_1, hfz10_2, hfz10_3, hfz10_4⟩ := blkB5_ BK250))
    go_ret
    exact ⟨retT_, att6_0_11⟩
   ·rw [if_neg c8] at H
    have c8b0 := beq_eq_false_iff_ne.mpr c8
    have c8b1 := bne_iff_ne.mpr c8
    by_cases c11 : a0_0 = 8
    ·rw [if_pos c11] at H
     have c11b0 := beq_iff_eq.mpr c11
     have c11b1 := bne_eq_false_iff_eq.mpr c11
     clear c11
     obtain rfl := Option.some.inj H
     go_enter Try.func26, Try.ntmps26
     go_wp2_with (first | ((with_reducible refine gate_dst (N := 1) rfl ?_); refine box_event ?hg (N := 1) ?hd (cs := #[.int .i64 a0_0, .int .i64 a0_1, .int .i64 a0_2, .int .i64 a0_3, .int .i64 a0_4]) (t := 37) ?hr ?_; (case hd => rfl); (case hg => rfl); (case hr => first | (go_simp; done) | (go_simp; rfl)); intro gb250 hg w12 hbox hb; refine swap4_ (below_step atgB_ hb) (hbox) ((by rw [hg]; exact (below_size atgB_) : w.heap.size ≤ gb250)) ((by rw [hg]; exact (below_size atgB_) : w.heap.size ≤ gb250)) ?_; clear HB; intro HB BK250 GW250 GE250; clear hb hbox hg; obtain ⟨hcz13_0, hcz13_1, hcz13_2, hcz13_3, hcz13_4, hfz13_0, hfz13_1, hfz13_2, hfz13_3, hfz13_4⟩ := blkB5_ BK250))
     go_ret
     exact ⟨retT_, att6_0_11⟩
    ·rw [if_neg c11] at H
     have c11b0 := beq_eq_false_iff_ne.mpr c11
     have c11b1 := bne_iff_ne.mpr c11
     by_cases c14 : a0_0 = 9
     ·rw [if_pos c14] at H
      have c14b0 := beq_iff_eq.mpr c14
      have c14b1 := bne_eq_false_iff_eq.mpr c14
      clear c14
      obtain rfl := Option.some.inj H
      go_enter Try.func26, Try.ntmps26
      go_wp2_with (first | ((with_reducible refine gate_dst (N := 1) rfl ?_); refine box_event ?hg (N := 1) ?hd (cs := #[.int .i64 a0_0, .int .i64 a0_1, .int .i64 a0_2, .int .i64 a0_3, .int .i64 a0_4]) (t := 37) ?hr ?_; (case hd => rfl); (case hg => rfl); (case hr => first | (go_simp; done) | (go_simp; rfl)); intro gb250 hg w15 hbox hb; refine swap4_ (below_step atgB_ hb) (hbox) ((by rw [hg]; exact (below_size atgB_) : w.heap.size ≤ gb250)) ((by rw [hg]; exact (below_size atgB_) : w.heap.size ≤ gb250)) ?_; clear HB; intro HB BK250 GW250 GE250; clear hb hbox hg; obtain ⟨hcz16_0, hcz16_1, hcz16_2, hcz16_3, hcz16_4, hfz16_0, hfz16_1, hfz16_2, hfz16_3, hfz16_4⟩ := blkB5_ BK250))
      go_ret
      exact ⟨retT_, att6_0_11⟩
     ·rw [if_neg c14] at H
      have c14b0 := beq_eq_false_iff_ne.mpr c14
      have c14b1 := bne_iff_ne.mpr c14
      replace H := Option.bind_eq_some_iff.mp H
      obtain ⟨t251, A170, H⟩ := H
      (try dsimp only at H)
      have A17 := Aside0.mk A170
      clear A170
      replace H := Option.bind_eq_some_iff.mp H
      obtain ⟨t252, A180, H⟩ := H
      (try dsimp only at H)
      have A18 := Aside0.mk A180
      clear A180
      obtain rfl := Option.some.inj H
      go_enter Try.func26, Try.ntmps26
      go_wp2_with (first | ((with_reducible refine gate_dst (N := 1) rfl ?_); refine box_event ?hg (N := 1) ?hd (cs := #[.int .i64 a0_0, .int .i64 a0_1, .int .i64 a0_2, .int .i64 a0_3, .int .i64 a0_4]) (t := 37) ?hr ?_; (case hd => rfl); (case hg => rfl); (case hr => first | (go_simp; done) | (go_simp; rfl)); intro gb250 hg w19 hbox hb; refine swap4_ (below_step atgB_ hb) (hbox) ((by rw [hg]; exact (below_size atgB_) : w.heap.size ≤ gb250)) ((by rw [hg]; exact (below_size atgB_) : w.heap.size ≤ gb250)) ?_; clear HB; intro HB BK250 GW250 GE250; clear hb hbox hg; obtain ⟨hcz20_0, hcz20_1, hcz20_2, hcz20_3, hcz20_4, hfz20_0, hfz20_1, hfz20_2, hfz20_3, hfz20_4⟩ := blkB5_ BK250) | ((with_reducible refine gate_callee (f := 117) rfl ?_); refine goesL_ (some 17) rfl rfl Try.func117 (by kernel_rfl) rfl #[.int .i64 a0_0, .int .i64 1, .int .i64 13] rfl atgM_ ?_; (with_reducible refine (impl_within.calls a0_0 1 13 t251 _ A17.out).mono ?_); rintro e w' ⟨rfl, ⟨nd, rfl⟩⟩; refine ⟨_, rfl, ?_⟩) | ((with_reducible refine gate_callee (f := 116) rfl ?_); refine goesL_ (some 18) rfl rfl Try.func116 (by kernel_rfl) rfl #[.bool t251] rfl atgM_ ?_; (with_reducible refine (impl_number.calls t251 t252 _ A18.out).mono ?_); rintro e w' ⟨rfl, ⟨nd, rfl⟩⟩; refine ⟨_, rfl, ?_⟩))
      go_ret
      exact ⟨retT_, att6_0_11⟩

/-! ### impl_ofChan: function 99 -/
def impl_ofChan.f (a0 : Int) : Option (Bool) := (impl_within.f a0 5 9).bind fun t253 => (some t253)
set_option maxHeartbeats 80000000 in
set_option maxRecDepth 100000 in
theorem impl_ofChan.calls (a0 : Int) (r : Bool) (w : World) (h : impl_ofChan.f a0 = some r) :
  Calls Try.prog 99 #[.int .i64 a0] w fun e w' => e = .returned (.bool r) ∧ Drawn0 w w' := by
 have H : ((impl_within.f a0 5 9).bind fun t253 => (some t253)) = some r := h
 clear h
 replace H := Option.bind_eq_some_iff.mp H
 obtain ⟨t253, A20, H⟩ := H
 (try dsimp only at H)
 have A2 := Aside0.mk A20
 clear A20
 obtain rfl := Option.some.inj H
 go_enter Try.func99, Try.ntmps99
 go_wp2_with (first | ((with_reducible refine gate_callee (f := 117) rfl ?_); refine goesL_ (some 4) rfl rfl Try.func117 (by kernel_rfl) rfl #[.int .i64 a0, .int .i64 5, .int .i64 9] rfl atgM_ ?_; (with_reducible refine (impl_within.calls a0 5 9 t253 _ A2.out).mono ?_); rintro e w' ⟨rfl, ⟨nd, rfl⟩⟩; refine ⟨_, rfl, ?_⟩))
 go_ret
 exact ⟨by first | rfl | (simp; done) | (simp [*]; done), atgD_⟩

/-! ### impl_named: function 164 -/
def nmR (op r : Int) : Int := if op = 1 ∨ op = 2 ∨ op = 3 ∨ op = 4 ∨ op = 6 ∨ op = 7 ∨ op = 8 then r else 0
def nmA (op a : Int) : Int := if op = 2 ∨ op = 3 ∨ op = 4 ∨ op = 5 ∨ op = 7 ∨ op = 10 ∨ op = 12 then a else 0
def nmB (op b : Int) : Int := if op = 2 ∨ op = 3 ∨ op = 4 ∨ op = 6 ∨ op = 8 then b else 0
def nmN (op n : Int) : Int := if op = 1 ∨ op = 5 ∨ op = 6 ∨ op = 7 ∨ op = 8 ∨ op = 9 ∨ op = 11 ∨ op = 12 then n else 0
def impl_named.f (op r a b n : Int) : Option (Int × Int × Int × Int × Int) := some (op, nmR op r, nmA op a, nmB op b, nmN op n)
set_option maxHeartbeats 4000000 in
set_option maxRecDepth 100000 in
theorem impl_named.hand (op r a b n : Int) (w : World) : Calls Try.prog 164 #[.agg #[.int .i64 op, .int .i64 r, .int .i64 a, .int .i64 b, .int .i64 n]] w fun e w' => e = .returned (.agg #[.int .i64 op, .int .i64 (nmR op r), .int .i64 (nmA op a), .int .i64 (nmB op b), .int .i64 (nmN op n)]) ∧ Below w.heap.size w w' := by
 by_cases h : 1 ≤ op ∧ op ≤ 13
 ·obtain rfl | rfl | rfl | rfl | rfl | rfl | rfl | rfl | rfl | rfl | rfl | rfl | rfl : op = 1 ∨ op = 2 ∨ op = 3 ∨ op = 4 ∨ op = 5 ∨ op = 6 ∨ op = 7 ∨ op = 8 ∨ op = 9 ∨ op = 10 ∨ op = 11 ∨ op = 12 ∨ op = 13 := by omega
  all_goals
   clear h
   simp only [nmR, nmA, nmB, nmN, Int.reduceEq, or_true, true_or, or_false, false_or, if_true, if_false, or_self, reduceIte]
   go_enter Try.func164, Try.ntmps164
   go_wp2
   try (go_region; go_wp2)
   exact bodyPost_ret (v := .agg #[_, _, _, _, _]) (by simp [results, Try.results164, go_sem]) rfl ⟨rfl, att6_0_23⟩
 ·have e1 : (op == 1) = false := beq_eq_false_iff_ne.mpr (by omega)
  have e2 : (op == 2) = false := beq_eq_false_iff_ne.mpr (by omega)
  have e3 : (op == 3) = false := beq_eq_false_iff_ne.mpr (by omega)
  have e4 : (op == 4) = false := beq_eq_false_iff_ne.mpr (by omega)
  have e5 : (op == 5) = false := beq_eq_false_iff_ne.mpr (by omega)
  have e6 : (op == 6) = false := beq_eq_false_iff_ne.mpr (by omega)
  have e7 : (op == 7) = false := beq_eq_false_iff_ne.mpr (by omega)
  have e8 : (op == 8) = false := beq_eq_false_iff_ne.mpr (by omega)
  have e9 : (op == 9) = false := beq_eq_false_iff_ne.mpr (by omega)
  have e10 : (op == 10) = false := beq_eq_false_iff_ne.mpr (by omega)
  have e11 : (op == 11) = false := beq_eq_false_iff_ne.mpr (by omega)
  have e12 : (op == 12) = false := beq_eq_false_iff_ne.mpr (by omega)
  have eR : nmR op r = 0 := by unfold nmR; rw [if_neg (by omega)]
  have eA : nmA op a = 0 := by unfold nmA; rw [if_neg (by omega)]
  have eB : nmB op b = 0 := by unfold nmB; rw [if_neg (by omega)]
  have eN : nmN op n = 0 := by unfold nmN; rw [if_neg (by omega)]
  rw [eR, eA, eB, eN]
  clear h eR eA eB eN
  go_enter Try.func164, Try.ntmps164
  go_wp2
  exact bodyPost_ret (v := .agg #[_, _, _, _, _]) (by simp [results, Try.results164, go_sem]) rfl ⟨rfl, att6_0_23⟩
theorem impl_named.calls (a0_0 a0_1 a0_2 a0_3 a0_4 r1 r2 r3 r4 r5 : Int) (w : World) (h : impl_named.f a0_0 a0_1 a0_2 a0_3 a0_4 = some (r1, r2, r3, r4, r5)) :
  Calls Try.prog 164 #[.agg #[.int .i64 a0_0, .int .i64 a0_1, .int .i64 a0_2, .int .i64 a0_3, .int .i64 a0_4]] w fun e w' => e = .returned (.agg #[.int .i64 r1, .int .i64 r2, .int .i64 r3, .int .i64 r4, .int .i64 r5]) ∧ Below w.heap.size w w' := by
 simp only [impl_named.f, Option.some.injEq, Prod.mk.injEq] at h
 obtain ⟨rfl, rfl, rfl, rfl, rfl⟩ := h
 exact impl_named.hand _ _ _ _ _ w

/-! ### impl_isReg: function 165 -/
def impl_isReg.f (a0 : Int) : Option (Bool) := (impl_within.f a0 0 3).bind fun t254 => (some t254)
set_option maxHeartbeats 80000000 in
set_option maxRecDepth 100000 in
theorem impl_isReg.calls (a0 : Int) (r : Bool) (w : World) (h : impl_isReg.f a0 = some r) :
  Calls Try.prog 165 #[.int .i64 a0] w fun e w' => e = .returned (.bool r) ∧ Drawn0 w w' := by
 have H : ((impl_within.f a0 0 3).bind fun t254 => (some t254)) = some r := h
 clear h
 replace H := Option.bind_eq_some_iff.mp H
 obtain ⟨t254, A20, H⟩ := H
 (try dsimp only at H)
 have A2 := Aside0.mk A20
 clear A20
 obtain rfl := Option.some.inj H
 go_enter Try.func165, Try.ntmps165
 go_wp2_with (first | ((with_reducible refine gate_callee (f := 117) rfl ?_); refine goesL_ (some 4) rfl rfl Try.func117 (by kernel_rfl) rfl #[.int .i64 a0, .int .i64 0, .int .i64 3] rfl atgM_ ?_; (with_reducible refine (impl_within.calls a0 0 3 t254 _ A2.out).mono ?_); rintro e w' ⟨rfl, ⟨nd, rfl⟩⟩; refine ⟨_, rfl, ?_⟩))
 go_ret
 exact ⟨by first | rfl | (simp; done) | (simp [*]; done), atgD_⟩

end Go.Proofs.Ytonlhgkpmjefkaa.XFnEmitted
