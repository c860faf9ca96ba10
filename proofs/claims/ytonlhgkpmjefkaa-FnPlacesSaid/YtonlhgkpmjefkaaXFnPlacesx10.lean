/- Each Go function that the law reaches as a Lean function, and that Go comes to just its answer; written by this session's xprint.py over the kit's printer. -/
import Derived.Test.YtonlhgkpmjefkaaXFnPlacesx0
import Derived.Test.YtonlhgkpmjefkaaXFnPlacesx8
import Derived.Test.YtonlhgkpmjefkaaXFnPlacesx9
namespace Go.Proofs.Ytonlhgkpmjefkaa.XFnPlaces
open Go.RowKit Go.Proofs.YtonlhgkpmjefkaaW.PrintWords Go.Proofs.YtonlhgkpmjefkaaW.PrintLast Go.Proofs.YtonlhgkpmjefkaaW.PrintMore
attribute [local go_sem] max2_int min2_int max_two min_two max_three min_three max_four min_four   -- for this text's walks alone
set_option linter.unusedVariables false
set_option linter.unusedSimpArgs false

theorem att11_0_0 {p : Prop} (h : p := by repeat (first | (with_reducible first | exact HK.out | apply KeepBut.set_ | apply keep_drewN | apply keep_drew | apply keep_alloc) | exact HK.out)) : p := h
theorem att11_0_1 {p : Prop} (h : p := by (try simp only [List.map_toArray, List.map_cons, List.map_nil]); first | done | rfl | (simp only [List.length_drop, List.length_take]; rfl)) : p := h
theorem att11_0_2 {p : Prop} (h : p := by repeat (first | (with_reducible first | exact HK.out | apply KeepBut.set_ | apply keep_drewN | apply keep_drew | apply keep_alloc | refine keep_far ?_ GW325.out _ | refine keep_far ?_ GW326.out _) | exact HK.out)) : p := h
theorem att11_0_3 {p : Prop} (h : p := by repeat (first | (with_reducible first | exact HI0.out | apply IsS170.alloc | apply IsS170.drewN | apply IsS170.drew | apply IsS170.set_1 | apply IsS170.set_2) | exact HI0.out)) : p := h
theorem att11_0_4 {p : Prop} (h : p := by repeat (first | (with_reducible first | exact HB.out | apply below_alloc | apply pw_below_drewN | apply below_drew1 | refine below_set ?_ (IsS170.ge HI0.out)) | exact HB.out)) : p := h
theorem att11_0_5 {p : Prop} (h : p := by repeat (first | (with_reducible first | exact HI0.out | apply IsS170.alloc | apply IsS170.drewN | apply IsS170.drew | apply IsS170.set_1 | apply IsS170.set_2 | refine IsS170.far ?_ NB0_325.out _ | refine IsS170.far ?_ NB0_326.out _) | exact HI0.out)) : p := h
theorem att11_0_6 {p : Prop} (h : p := by repeat (first | (with_reducible first | exact HB.out | apply below_alloc | apply pw_below_drewN | apply below_drew1 | refine below_set ?_ (IsS170.ge HI0.out) | refine below_set ?_ GE325.out | refine below_set ?_ GE326.out) | exact HB.out)) : p := h
theorem att11_0_7 {p : Prop} (h : p := by (with_reducible repeat (first | refine blk_drewN ?_ _ | refine blk_drew ?_ | refine blk_alloc ?_ _)); exact BK325.out) : p := h
theorem att11_0_8 {p : Prop} (h : p := by (with_reducible repeat (first | refine blk_drewN ?_ _ | refine blk_drew ?_ | refine blk_alloc ?_ _)); exact BK326.out) : p := h
theorem att11_0_9 {p : Prop} (h : p := by (with_reducible repeat (first | apply Kd.R_alloc | apply Kd.R_drewN | apply Kd.R_drew)); exact HO_327000.out) : p := h
theorem att11_0_10 {p : Prop} (h : p := by (with_reducible repeat (first | apply Kd.R_alloc | apply Kd.R_drewN | apply Kd.R_drew)); exact HO_8.out) : p := h
theorem att11_0_11 {p : Prop} (h : p := by repeat (first | (with_reducible first | exact HK.out | apply KeepBut.set_ | apply keep_drewN | apply keep_drew | apply keep_alloc | refine keep_far ?_ GW325.out _) | exact HK.out)) : p := h
theorem att11_0_12 {p : Prop} (h : p := by (with_reducible repeat (first | apply Kd.S_alloc | apply Kd.S_drewN | apply Kd.S_drew)); exact HO_327001.out) : p := h
theorem att11_0_13 {p : Prop} (h : p := by (with_reducible repeat (first | refine blk_drewN ?_ _ | refine blk_drew ?_ | refine blk_alloc ?_ _)); refine blk_far ?_ NB325_326.out _; (with_reducible repeat (first | refine blk_drewN ?_ _ | refine blk_drew ?_ | refine blk_alloc ?_ _)); exact BK325.out) : p := h
theorem att11_0_14 {p : Prop} (h : p := by first | rfl | (simp; done) | (simp [*]; done)) : p := h
theorem att11_0_15 {p : Prop} (h : p := by (with_reducible repeat (first | apply Kd.R_alloc | apply Kd.R_drewN | apply Kd.R_drew)); exact HO318.out) : p := h
/-! ### spec_l1DrawBody: function 198 -/
def spec_l1DrawBody.l0 : Nat → Int → Int → List (S37) → Int → List Int → Int → Int → Option ((List (S37)) × Int × Int)
 | 0, _, _, _, _, _, _, _ => none
 | k + 1, x1, x7, x8, x9, x1000, x1001, x1002 => if x9 < x7 then ((spec_l1DrawIns.f k x1000 x1001 x1002 (wrap64 (x7 + 1)) x1).bind fun bt306 => (if x8.length < 3518437208883 then (spec_l1DrawBody.l0 k x1 x7 (x8 ++ [(⟨bt306.1, bt306.2.1, bt306.2.2.1, bt306.2.2.2.1, bt306.2.2.2.2.1⟩ : S37)]) (wrap64 (x9 + 1)) x1000 bt306.2.2.2.2.2.1 bt306.2.2.2.2.2.2) else (none))) else ((spec_l1PickInt.f x1000 x1001 x1002 (([13, 11] : List Int))).bind fun bt319 => (if x8.length < 3518437208883 then (some ((x8 ++ [(⟨bt319.1, 0, 0, 0, 0⟩ : S37)]), bt319.2.1, bt319.2.2)) else (none)))
def spec_l1DrawBody.f (k : Nat) (s0_0 : List Int) (s0_1 : Int) (s0_2 : Int) (a1 : Int) : Option ((List (S37)) × Int × Int) := (spec_l1Below.f s0_0 s0_1 s0_2 a1).bind fun bt279 => ((spec_l1Below.f s0_0 bt279.2.1 bt279.2.2 a1).bind fun bt282 => ((spec_l1Below.f s0_0 bt282.2.1 bt282.2.2 5).bind fun bt285 => (if bt285.1 = 0 then (some ((([(⟨1, 0, 0, 0, 3⟩ : S37), (⟨1, 1, 0, 0, 1⟩ : S37), (⟨5, 0, 0, 0, bt279.1⟩ : S37), (⟨3, 0, 0, 1, 0⟩ : S37), (⟨12, 0, 0, 0, 6⟩ : S37), (⟨11, 0, 0, 0, 2⟩ : S37), (⟨13, 0, 0, 0, 0⟩ : S37)] : List (S37))), bt285.2.1, bt285.2.2)) else (if bt285.1 = 1 then (some ((([(⟨6, 0, 0, 1, bt279.1⟩ : S37), (⟨12, 0, 1, 0, 4⟩ : S37), (⟨10, 0, 0, 0, 0⟩ : S37), (⟨11, 0, 0, 0, 0⟩ : S37), (⟨13, 0, 0, 0, 0⟩ : S37)] : List (S37))), bt285.2.1, bt285.2.2)) else (if bt285.1 = 2 then (some ((([(⟨6, 0, 0, 1, bt279.1⟩ : S37), (⟨2, 0, 0, 1, 0⟩ : S37), (⟨5, 0, 0, 0, bt282.1⟩ : S37), (⟨10, 0, 0, 0, 0⟩ : S37), (⟨11, 0, 0, 0, 0⟩ : S37)] : List (S37))), bt285.2.1, bt285.2.2)) else (if bt285.1 = 3 then (some ((([(⟨1, 2, 0, 0, 5⟩ : S37), (⟨7, 3, 2, 0, bt279.1⟩ : S37), (⟨8, 0, 0, 1, bt282.1⟩ : S37), (⟨10, 0, 1, 0, 0⟩ : S37), (⟨2, 2, 2, 3, 0⟩ : S37), (⟨11, 0, 0, 0, 1⟩ : S37)] : List (S37))), bt285.2.1, bt285.2.2)) else ((spec_l1Below.f s0_0 bt285.2.1 bt285.2.2 9).bind fun bt300 => (spec_l1DrawBody.l0 k a1 (wrap64 (2 + bt300.1)) (([] : List (S37))) 0 s0_0 bt300.2.1 bt300.2.2))))))))
theorem spec_l1DrawBody.mono_l : ∀ k, (∀ y0 y1 y2 y3 y4 y5 y6, LeO (spec_l1DrawBody.l0 k y0 y1 y2 y3 y4 y5 y6) (spec_l1DrawBody.l0 (k + 1) y0 y1 y2 y3 y4 y5 y6))
 | 0 => fun _ _ _ _ _ _ _ r h => by simp [spec_l1DrawBody.l0] at h
 | k + 1 => by
  have ih0 := spec_l1DrawBody.mono_l k
  ·intro y0 y1 y2 y3 y4 y5 y6
   unfold spec_l1DrawBody.l0
   repeat' first
   | (with_reducible exact ih0 _ _ _ _ _ _ _)
   | (with_reducible exact spec_l1DrawIns.mono _ _ _ _ _ _)
   | (with_reducible exact LeO.refl _)
   | (with_reducible exact LeO.none _)
   | (with_reducible refine LeO.ite ?_ ?_)
   | (with_reducible refine LeO.bind ?_ (fun _ => ?_))
   | exact ih0 _ _ _ _ _ _ _
   | exact spec_l1DrawIns.mono _ _ _ _ _ _
   | exact LeO.none _
   | refine LeO.ite ?_ ?_
   | refine LeO.bind ?_ (fun _ => ?_)
theorem spec_l1DrawBody.mono : ∀ a0 a1 a2 a3 k, LeO (spec_l1DrawBody.f k a0 a1 a2 a3) (spec_l1DrawBody.f (k + 1) a0 a1 a2 a3) := by
 intro a0 a1 a2 a3 k
 have ih0 := spec_l1DrawBody.mono_l k
 unfold spec_l1DrawBody.f
 repeat' first
   | (with_reducible exact ih0 _ _ _ _ _ _ _)
   | (with_reducible exact spec_l1DrawIns.mono _ _ _ _ _ _)
   | (with_reducible exact LeO.refl _)
   | (with_reducible exact LeO.none _)
   | (with_reducible refine LeO.ite ?_ ?_)
   | (with_reducible refine LeO.bind ?_ (fun _ => ?_))
   | exact ih0 _ _ _ _ _ _ _
   | exact spec_l1DrawIns.mono _ _ _ _ _ _
   | exact LeO.none _
   | refine LeO.ite ?_ ?_
   | refine LeO.bind ?_ (fun _ => ?_)
set_option maxHeartbeats 80000000 in
set_option maxRecDepth 100000 in
theorem spec_l1DrawBody.calls (k : Nat) (g : Nat) (s0_0 : List Int) (s0_1 : Int) (s0_2 : Int) (a1 : Int) (r1 : List (S37)) (r2 : Int) (r3 : Int) (w0 w : World) (hI : IsS170 w0 w g s0_0 s0_1 s0_2) (hB : Below w0.heap.size w0 w) (h : spec_l1DrawBody.f k s0_0 s0_1 s0_2 a1 = some (r1, r2, r3)) :
  Calls Try.prog 198 #[.pointer (some ⟨g, 0, none⟩), .int .i64 a1] w fun e w' => ∃ v0_ : Value, e = .returned (v0_) ∧ Kd.R k37 37 w' w.heap.size (fun _ => True) v0_ r1 ∧ IsS170 w0 w' g s0_0 r2 r3 ∧ Below w0.heap.size w0 w' ∧ KeepBut w w' g none := by
 have hu37 := Try.underlying37
 have HI0 := Aside0.mk hI
 have HK := Aside0.mk (KeepBut.refl w g none)
 have HL := Aside0.mk hB.size
 clear hI
 have HW0 := Aside0.mk hB.size
 have HB := Aside0.mk hB
 clear hB
 have H : ((spec_l1Below.f s0_0 s0_1 s0_2 a1).bind fun bt279 => ((spec_l1Below.f s0_0 bt279.2.1 bt279.2.2 a1).bind fun bt282 => ((spec_l1Below.f s0_0 bt282.2.1 bt282.2.2 5).bind fun bt285 => (if bt285.1 = 0 then (some ((([(⟨1, 0, 0, 0, 3⟩ : S37), (⟨1, 1, 0, 0, 1⟩ : S37), (⟨5, 0, 0, 0, bt279.1⟩ : S37), (⟨3, 0, 0, 1, 0⟩ : S37), (⟨12, 0, 0, 0, 6⟩ : S37), (⟨11, 0, 0, 0, 2⟩ : S37), (⟨13, 0, 0, 0, 0⟩ : S37)] : List (S37))), bt285.2.1, bt285.2.2)) else (if bt285.1 = 1 then (some ((([(⟨6, 0, 0, 1, bt279.1⟩ : S37), (⟨12, 0, 1, 0, 4⟩ : S37), (⟨10, 0, 0, 0, 0⟩ : S37), (⟨11, 0, 0, 0, 0⟩ : S37), (⟨13, 0, 0, 0, 0⟩ : S37)] : List (S37))), bt285.2.1, bt285.2.2)) else (if bt285.1 = 2 then (some ((([(⟨6, 0, 0, 1, bt279.1⟩ : S37), (⟨2, 0, 0, 1, 0⟩ : S37), (⟨5, 0, 0, 0, bt282.1⟩ : S37), (⟨10, 0, 0, 0, 0⟩ : S37), (⟨11, 0, 0, 0, 0⟩ : S37)] : List (S37))), bt285.2.1, bt285.2.2)) else (if bt285.1 = 3 then (some ((([(⟨1, 2, 0, 0, 5⟩ : S37), (⟨7, 3, 2, 0, bt279.1⟩ : S37), (⟨8, 0, 0, 1, bt282.1⟩ : S37), (⟨10, 0, 1, 0, 0⟩ : S37), (⟨2, 2, 2, 3, 0⟩ : S37), (⟨11, 0, 0, 0, 1⟩ : S37)] : List (S37))), bt285.2.1, bt285.2.2)) else ((spec_l1Below.f s0_0 bt285.2.1 bt285.2.2 9).bind fun bt300 => (spec_l1DrawBody.l0 k a1 (wrap64 (2 + bt300.1)) (([] : List (S37))) 0 s0_0 bt300.2.1 bt300.2.2))))))))) = some (r1, r2, r3) := h
 clear h
 replace H := Option.bind_eq_some_iff.mp H
 obtain ⟨⟨t279, t280, t281⟩, A30, H⟩ := H
 replace H : ((spec_l1Below.f s0_0 t280 t281 a1).bind fun bt282 => ((spec_l1Below.f s0_0 bt282.2.1 bt282.2.2 5).bind fun bt285 => (if bt285.1 = 0 then (some ((([(⟨1, 0, 0, 0, 3⟩ : S37), (⟨1, 1, 0, 0, 1⟩ : S37), (⟨5, 0, 0, 0, t279⟩ : S37), (⟨3, 0, 0, 1, 0⟩ : S37), (⟨12, 0, 0, 0, 6⟩ : S37), (⟨11, 0, 0, 0, 2⟩ : S37), (⟨13, 0, 0, 0, 0⟩ : S37)] : List (S37))), bt285.2.1, bt285.2.2)) else (if bt285.1 = 1 then (some ((([(⟨6, 0, 0, 1, t279⟩ : S37), (⟨12, 0, 1, 0, 4⟩ : S37), (⟨10, 0, 0, 0, 0⟩ : S37), (⟨11, 0, 0, 0, 0⟩ : S37), (⟨13, 0, 0, 0, 0⟩ : S37)] : List (S37))), bt285.2.1, bt285.2.2)) else (if bt285.1 = 2 then (some ((([(⟨6, 0, 0, 1, t279⟩ : S37), (⟨2, 0, 0, 1, 0⟩ : S37), (⟨5, 0, 0, 0, bt282.1⟩ : S37), (⟨10, 0, 0, 0, 0⟩ : S37), (⟨11, 0, 0, 0, 0⟩ : S37)] : List (S37))), bt285.2.1, bt285.2.2)) else (if bt285.1 = 3 then (some ((([(⟨1, 2, 0, 0, 5⟩ : S37), (⟨7, 3, 2, 0, t279⟩ : S37), (⟨8, 0, 0, 1, bt282.1⟩ : S37), (⟨10, 0, 1, 0, 0⟩ : S37), (⟨2, 2, 2, 3, 0⟩ : S37), (⟨11, 0, 0, 0, 1⟩ : S37)] : List (S37))), bt285.2.1, bt285.2.2)) else ((spec_l1Below.f s0_0 bt285.2.1 bt285.2.2 9).bind fun bt300 => (spec_l1DrawBody.l0 k a1 (wrap64 (2 + bt300.1)) (([] : List (S37))) 0 s0_0 bt300.2.1 bt300.2.2)))))))) = some (r1, r2, r3) := H
 have A3 := Aside0.mk A30
 clear A30
 replace H := Option.bind_eq_some_iff.mp H
 obtain ⟨⟨t282, t283, t284⟩, A40, H⟩ := H
 replace H : ((spec_l1Below.f s0_0 t283 t284 5).bind fun bt285 => (if bt285.1 = 0 then (some ((([(⟨1, 0, 0, 0, 3⟩ : S37), (⟨1, 1, 0, 0, 1⟩ : S37), (⟨5, 0, 0, 0, t279⟩ : S37), (⟨3, 0, 0, 1, 0⟩ : S37), (⟨12, 0, 0, 0, 6⟩ : S37), (⟨11, 0, 0, 0, 2⟩ : S37), (⟨13, 0, 0, 0, 0⟩ : S37)] : List (S37))), bt285.2.1, bt285.2.2)) else (if bt285.1 = 1 then (some ((([(⟨6, 0, 0, 1, t279⟩ : S37), (⟨12, 0, 1, 0, 4⟩ : S37), (⟨10, 0, 0, 0, 0⟩ : S37), (⟨11, 0, 0, 0, 0⟩ : S37), (⟨13, 0, 0, 0, 0⟩ : S37)] : List (S37))), bt285.2.1, bt285.2.2)) else (if bt285.1 = 2 then (some ((([(⟨6, 0, 0, 1, t279⟩ : S37), (⟨2, 0, 0, 1, 0⟩ : S37), (⟨5, 0, 0, 0, t282⟩ : S37), (⟨10, 0, 0, 0, 0⟩ : S37), (⟨11, 0, 0, 0, 0⟩ : S37)] : List (S37))), bt285.2.1, bt285.2.2)) else (if bt285.1 = 3 then (some ((([(⟨1, 2, 0, 0, 5⟩ : S37), (⟨7, 3, 2, 0, t279⟩ : S37), (⟨8, 0, 0, 1, t282⟩ : S37), (⟨10, 0, 1, 0, 0⟩ : S37), (⟨2, 2, 2, 3, 0⟩ : S37), (⟨11, 0, 0, 0, 1⟩ : S37)] : List (S37))), bt285.2.1, bt285.2.2)) else ((spec_l1Below.f s0_0 bt285.2.1 bt285.2.2 9).bind fun bt300 => (spec_l1DrawBody.l0 k a1 (wrap64 (2 + bt300.1)) (([] : List (S37))) 0 s0_0 bt300.2.1 bt300.2.2))))))) = some (r1, r2, r3) := H
 have A4 := Aside0.mk A40
 clear A40
 replace H := Option.bind_eq_some_iff.mp H
 obtain ⟨⟨t285, t286, t287⟩, A50, H⟩ := H
 replace H : (if t285 = 0 then (some ((([(⟨1, 0, 0, 0, 3⟩ : S37), (⟨1, 1, 0, 0, 1⟩ : S37), (⟨5, 0, 0, 0, t279⟩ : S37), (⟨3, 0, 0, 1, 0⟩ : S37), (⟨12, 0, 0, 0, 6⟩ : S37), (⟨11, 0, 0, 0, 2⟩ : S37), (⟨13, 0, 0, 0, 0⟩ : S37)] : List (S37))), t286, t287)) else (if t285 = 1 then (some ((([(⟨6, 0, 0, 1, t279⟩ : S37), (⟨12, 0, 1, 0, 4⟩ : S37), (⟨10, 0, 0, 0, 0⟩ : S37), (⟨11, 0, 0, 0, 0⟩ : S37), (⟨13, 0, 0, 0, 0⟩ : S37)] : List (S37))), t286, t287)) else (if t285 = 2 then (some ((([(⟨6, 0, 0, 1, t279⟩ : S37), (⟨2, 0, 0, 1, 0⟩ : S37), (⟨5, 0, 0, 0, t282⟩ : S37), (⟨10, 0, 0, 0, 0⟩ : S37), (⟨11, 0, 0, 0, 0⟩ : S37)] : List (S37))), t286, t287)) else (if t285 = 3 then (some ((([(⟨1, 2, 0, 0, 5⟩ : S37), (⟨7, 3, 2, 0, t279⟩ : S37), (⟨8, 0, 0, 1, t282⟩ : S37), (⟨10, 0, 1, 0, 0⟩ : S37), (⟨2, 2, 2, 3, 0⟩ : S37), (⟨11, 0, 0, 0, 1⟩ : S37)] : List (S37))), t286, t287)) else ((spec_l1Below.f s0_0 t286 t287 9).bind fun bt300 => (spec_l1DrawBody.l0 k a1 (wrap64 (2 + bt300.1)) (([] : List (S37))) 0 s0_0 bt300.2.1 bt300.2.2)))))) = some (r1, r2, r3) := H
 have A5 := Aside0.mk A50
 clear A50
 by_cases c6 : t285 = 0
 ·rw [if_pos c6] at H
  have c6b0 : (t285 == 0) = true := beq_iff_eq.mpr c6
  have c6b1 : (t285 != 0) = false := bne_eq_false_iff_eq.mpr c6
  clear c6
  obtain ⟨y288, hy288⟩ : ∃ y_ : List (S37), y_ = (([(⟨1, 0, 0, 0, 3⟩ : S37), (⟨1, 1, 0, 0, 1⟩ : S37), (⟨5, 0, 0, 0, t279⟩ : S37), (⟨3, 0, 0, 1, 0⟩ : S37), (⟨12, 0, 0, 0, 6⟩ : S37), (⟨11, 0, 0, 0, 2⟩ : S37), (⟨13, 0, 0, 0, 0⟩ : S37)] : List (S37))) := ⟨_, rfl⟩
  replace H : (some (y288, t286, t287)) = some (r1, r2, r3) := by first | (rw [hy288]; with_reducible exact H) | (have H2_ := (Option.bind_some _ _).symm.trans H; rw [hy288]; with_reducible exact H2_) | (have H2_ := (Option.bind_some _ _).symm.trans H; with_reducible exact H2_) | with_reducible exact H | (rw [hy288]; exact H) | exact H
  have Ny288 := Aside0.mk hy288
  clear hy288
  simp only [Option.some.injEq, Prod.mk.injEq] at H
  obtain ⟨rfl, rfl, rfl⟩ := H
  go_enter Try.func198, Try.ntmps198
  go_wp2_with (first | ((with_reducible refine gate_callee (f := 97) rfl ?_); refine goesL_ (some 12) rfl rfl Try.func97 (by kernel_rfl) rfl #[.pointer (some ⟨g, 0, none⟩), .int .i64 a1] rfl att11_0_1 ?_; (with_reducible refine (spec_l1Below.calls g s0_0 s0_1 s0_2 a1 t279 t280 t281 w0 _ ?side1 ?side2 A3.out).mono ?_); (case side1 => repeat (first | (with_reducible first | exact HI0.out | apply IsS170.alloc | apply IsS170.drewN | apply IsS170.drew | apply IsS170.set_1 | apply IsS170.set_2) | exact HI0.out)); (case side2 => repeat (first | (with_reducible first | exact HB.out | apply below_alloc | apply pw_below_drewN | apply below_drew1 | refine below_set ?_ (IsS170.ge HI0.out)) | exact HB.out)); rintro e w7 ⟨rfl, hi, hb, hk⟩; refine ⟨_, rfl, ?_⟩; have n0_ := Aside0.mk (KeepBut.trans att11_0_0 hk (.inl rfl)); have n1_ := Aside0.mk (hb); have n2_ := Aside0.mk (hi); clear HK; clear HB; clear HI0; have HK := n0_; have HB := n1_; have HI0 := n2_; clear n0_ n1_ n2_; (try clear hb); (try clear hb2); (try clear hk); (try clear hi)) | ((with_reducible refine gate_callee (f := 97) rfl ?_); refine goesL_ (some 15) rfl rfl Try.func97 (by kernel_rfl) rfl #[.pointer (some ⟨g, 0, none⟩), .int .i64 a1] rfl att11_0_1 ?_; (with_reducible refine (spec_l1Below.calls g s0_0 t280 t281 a1 t282 t283 t284 w0 _ ?side1 ?side2 A4.out).mono ?_); (case side1 => repeat (first | (with_reducible first | exact HI0.out | apply IsS170.alloc | apply IsS170.drewN | apply IsS170.drew | apply IsS170.set_1 | apply IsS170.set_2) | exact HI0.out)); (case side2 => repeat (first | (with_reducible first | exact HB.out | apply below_alloc | apply pw_below_drewN | apply below_drew1 | refine below_set ?_ (IsS170.ge HI0.out)) | exact HB.out)); rintro e w8 ⟨rfl, hi, hb, hk⟩; refine ⟨_, rfl, ?_⟩; have n0_ := Aside0.mk (KeepBut.trans att11_0_0 hk (.inl rfl)); have n1_ := Aside0.mk (hb); have n2_ := Aside0.mk (hi); clear HK; clear HB; clear HI0; have HK := n0_; have HB := n1_; have HI0 := n2_; clear n0_ n1_ n2_; (try clear hb); (try clear hb2); (try clear hk); (try clear hi)) | ((with_reducible refine gate_callee (f := 97) rfl ?_); refine goesL_ (some 17) rfl rfl Try.func97 (by kernel_rfl) rfl #[.pointer (some ⟨g, 0, none⟩), .int .i64 5] rfl att11_0_1 ?_; (with_reducible refine (spec_l1Below.calls g s0_0 t283 t284 5 t285 t286 t287 w0 _ ?side1 ?side2 A5.out).mono ?_); (case side1 => repeat (first | (with_reducible first | exact HI0.out | apply IsS170.alloc | apply IsS170.drewN | apply IsS170.drew | apply IsS170.set_1 | apply IsS170.set_2) | exact HI0.out)); (case side2 => repeat (first | (with_reducible first | exact HB.out | apply below_alloc | apply pw_below_drewN | apply below_drew1 | refine below_set ?_ (IsS170.ge HI0.out)) | exact HB.out)); rintro e w9 ⟨rfl, hi, hb, hk⟩; refine ⟨_, rfl, ?_⟩; have n0_ := Aside0.mk (KeepBut.trans att11_0_0 hk (.inl rfl)); have n1_ := Aside0.mk (hb); have n2_ := Aside0.mk (hi); clear HK; clear HB; clear HI0; have HK := n0_; have HB := n1_; have HI0 := n2_; clear n0_ n1_ n2_; (try clear hb); (try clear hb2); (try clear hk); (try clear hi)) | ((with_reducible refine gate_dst (N := 28) rfl ?_); refine Kd.R_lit k37 _ 37 ?hg (N := 28) ?hd (xs := ([(⟨1, 0, 0, 0, 3⟩ : S37), (⟨1, 1, 0, 0, 1⟩ : S37), (⟨5, 0, 0, 0, t279⟩ : S37), (⟨3, 0, 0, 1, 0⟩ : S37), (⟨12, 0, 0, 0, 6⟩ : S37), (⟨11, 0, 0, 0, 2⟩ : S37), (⟨13, 0, 0, 0, 0⟩ : S37)] : List (S37))) (inner := [.int .i64 1, .int .i64 0, .int .i64 0, .int .i64 0, .int .i64 3, .int .i64 1, .int .i64 1, .int .i64 0, .int .i64 0, .int .i64 1, .int .i64 5, .int .i64 0, .int .i64 0, .int .i64 0, .int .i64 t279, .int .i64 3, .int .i64 0, .int .i64 0, .int .i64 1, .int .i64 0, .int .i64 12, .int .i64 0, .int .i64 0, .int .i64 0, .int .i64 6, .int .i64 11, .int .i64 0, .int .i64 0, .int .i64 0, .int .i64 2, .int .i64 13, .int .i64 0, .int .i64 0, .int .i64 0, .int .i64 0]) (ok := fun _ => True) (okp := fun _ => True) ?hr ?hp (fun _ hk => hk) trivial (Below.refl _ _) (Nat.le_refl _) (by simp) ?_; (case hd => rfl); (case hg => rfl); (case hr => first | (go_simp; done) | (go_simp; rfl)); (case hp => exact (Reps.c5 (show Kd.M k37 _ _ _ (⟨1, 0, 0, 0, 3⟩ : S37) [.int .i64 1, .int .i64 0, .int .i64 0, .int .i64 0, .int .i64 3] from (k37_mkM _ _ _ (⟨1, 0, 0, 0, 3⟩ : S37) )) (Reps.c5 (show Kd.M k37 _ _ _ (⟨1, 1, 0, 0, 1⟩ : S37) [.int .i64 1, .int .i64 1, .int .i64 0, .int .i64 0, .int .i64 1] from (k37_mkM _ _ _ (⟨1, 1, 0, 0, 1⟩ : S37) )) (Reps.c5 (show Kd.M k37 _ _ _ (⟨5, 0, 0, 0, t279⟩ : S37) [.int .i64 5, .int .i64 0, .int .i64 0, .int .i64 0, .int .i64 t279] from (k37_mkM _ _ _ (⟨5, 0, 0, 0, t279⟩ : S37) )) (Reps.c5 (show Kd.M k37 _ _ _ (⟨3, 0, 0, 1, 0⟩ : S37) [.int .i64 3, .int .i64 0, .int .i64 0, .int .i64 1, .int .i64 0] from (k37_mkM _ _ _ (⟨3, 0, 0, 1, 0⟩ : S37) )) (Reps.c5 (show Kd.M k37 _ _ _ (⟨12, 0, 0, 0, 6⟩ : S37) [.int .i64 12, .int .i64 0, .int .i64 0, .int .i64 0, .int .i64 6] from (k37_mkM _ _ _ (⟨12, 0, 0, 0, 6⟩ : S37) )) (Reps.c5 (show Kd.M k37 _ _ _ (⟨11, 0, 0, 0, 2⟩ : S37) [.int .i64 11, .int .i64 0, .int .i64 0, .int .i64 0, .int .i64 2] from (k37_mkM _ _ _ (⟨11, 0, 0, 0, 2⟩ : S37) )) (Reps.c5 (show Kd.M k37 _ _ _ (⟨13, 0, 0, 0, 0⟩ : S37) [.int .i64 13, .int .i64 0, .int .i64 0, .int .i64 0, .int .i64 0] from (k37_mkM _ _ _ (⟨13, 0, 0, 0, 0⟩ : S37) )) (Reps.none _ _))))))))); intro v289 w10 ho11 hb hg_ hnew_; clear hg_ hnew_; (first | rw [← Ny288.out] at ho11 | (simp only [Int.reduceToNat] at ho11; rw [← Ny288.out] at ho11)); have n0_ := Aside0.mk (Kd.R_lower ho11 (keep_size (w := w) (g := g) (row := none) att11_0_0)); have n1_ := Aside0.mk (IsS170.below att11_0_3 hb); have n2_ := Aside0.mk (KeepBut.trans att11_0_0 (KeepBut.of_below hb g none) (.inl rfl)); have n3_ := Aside0.mk (below_step att11_0_4 hb); clear HI0; clear HK; clear HB; have HO290 := n0_; have HI0 := n1_; have HK := n2_; have HB := n3_; clear n0_ n1_ n2_ n3_; clear hb ho11))
  go_ret
  exact ⟨_, by first | rfl | (simp [errW_none, errW_some] <;> rfl) | (simp [*, errW_none, errW_some] <;> rfl), by (with_reducible repeat (first | apply Kd.R_alloc | apply Kd.R_drewN | apply Kd.R_drew)); exact HO290.out, by repeat (first | (with_reducible first | exact HI0.out | apply IsS170.alloc | apply IsS170.drewN | apply IsS170.drew | apply IsS170.set_1 | apply IsS170.set_2) | exact HI0.out), by repeat (first | (with_reducible first | exact HB.out | apply below_alloc | apply pw_below_drewN | apply below_drew1 | refine below_set ?_ (IsS170.ge HI0.out)) | exact HB.out), att11_0_0⟩
 ·rw [if_neg c6] at H
  have c6b0 : (t285 == 0) = false := beq_eq_false_iff_ne.mpr c6
  have c6b1 : (t285 != 0) = true := bne_iff_ne.mpr c6
  by_cases c12 : t285 = 1
  ·rw [if_pos c12] at H
   have c12b0 : (t285 == 1) = true := beq_iff_eq.mpr c12
   have c12b1 : (t285 != 1) = false := bne_eq_false_iff_eq.mpr c12
   clear c12
   obtain ⟨y291, hy291⟩ : ∃ y_ : List (S37), y_ = (([(⟨6, 0, 0, 1, t279⟩ : S37), (⟨12, 0, 1, 0, 4⟩ : S37), (⟨10, 0, 0, 0, 0⟩ : S37), (⟨11, 0, 0, 0, 0⟩ : S37), (⟨13, 0, 0, 0, 0⟩ : S37)] : List (S37))) := ⟨_, rfl⟩
   replace H : (some (y291, t286, t287)) = some (r1, r2, r3) := by first | (rw [hy291]; with_reducible exact H) | (have H2_ := (Option.bind_some _ _).symm.trans H; rw [hy291]; with_reducible exact H2_) | (have H2_ := (Option.bind_some _ _).symm.trans H; with_reducible exact H2_) | with_reducible exact H | (rw [hy291]; exact H) | exact H
   have Ny291 := Aside0.mk hy291
   clear hy291
   simp only [Option.some.injEq, Prod.mk.injEq] at H
   obtain ⟨rfl, rfl, rfl⟩ := H
   go_enter Try.func198, Try.ntmps198
   go_wp2_with (first | ((with_reducible refine gate_callee (f := 97) rfl ?_); refine goesL_ (some 12) rfl rfl Try.func97 (by kernel_rfl) rfl #[.pointer (some ⟨g, 0, none⟩), .int .i64 a1] rfl att11_0_1 ?_; (with_reducible refine (spec_l1Below.calls g s0_0 s0_1 s0_2 a1 t279 t280 t281 w0 _ ?side1 ?side2 A3.out).mono ?_); (case side1 => repeat (first | (with_reducible first | exact HI0.out | apply IsS170.alloc | apply IsS170.drewN | apply IsS170.drew | apply IsS170.set_1 | apply IsS170.set_2) | exact HI0.out)); (case side2 => repeat (first | (with_reducible first | exact HB.out | apply below_alloc | apply pw_below_drewN | apply below_drew1 | refine below_set ?_ (IsS170.ge HI0.out)) | exact HB.out)); rintro e w13 ⟨rfl, hi, hb, hk⟩; refine ⟨_, rfl, ?_⟩; have n0_ := Aside0.mk (KeepBut.trans att11_0_0 hk (.inl rfl)); have n1_ := Aside0.mk (hb); have n2_ := Aside0.mk (hi); clear HK; clear HB; clear HI0; have HK := n0_; have HB := n1_; have HI0 := n2_; clear n0_ n1_ n2_; (try clear hb); (try clear hb2); (try clear hk); (try clear hi)) | ((with_reducible refine gate_callee (f := 97) rfl ?_); refine goesL_ (some 15) rfl rfl Try.func97 (by kernel_rfl) rfl #[.pointer (some ⟨g, 0, none⟩), .int .i64 a1] rfl att11_0_1 ?_; (with_reducible refine (spec_l1Below.calls g s0_0 t280 t281 a1 t282 t283 t284 w0 _ ?side1 ?side2 A4.out).mono ?_); (case side1 => repeat (first | (with_reducible first | exact HI0.out | apply IsS170.alloc | apply IsS170.drewN | apply IsS170.drew | apply IsS170.set_1 | apply IsS170.set_2) | exact HI0.out)); (case side2 => repeat (first | (with_reducible first | exact HB.out | apply below_alloc | apply pw_below_drewN | apply below_drew1 | refine below_set ?_ (IsS170.ge HI0.out)) | exact HB.out)); rintro e w14 ⟨rfl, hi, hb, hk⟩; refine ⟨_, rfl, ?_⟩; have n0_ := Aside0.mk (KeepBut.trans att11_0_0 hk (.inl rfl)); have n1_ := Aside0.mk (hb); have n2_ := Aside0.mk (hi); clear HK; clear HB; clear HI0; have HK := n0_; have HB := n1_; have HI0 := n2_; clear n0_ n1_ n2_; (try clear hb); (try clear hb2); (try clear hk); (try clear hi)) | ((with_reducible refine gate_callee (f := 97) rfl ?_); refine goesL_ (some 17) rfl rfl Try.func97 (by kernel_rfl) rfl #[.pointer (some ⟨g, 0, none⟩), .int .i64 5] rfl att11_0_1 ?_; (with_reducible refine (spec_l1Below.calls g s0_0 t283 t284 5 t285 t286 t287 w0 _ ?side1 ?side2 A5.out).mono ?_); (case side1 => repeat (first | (with_reducible first | exact HI0.out | apply IsS170.alloc | apply IsS170.drewN | apply IsS170.drew | apply IsS170.set_1 | apply IsS170.set_2) | exact HI0.out)); (case side2 => repeat (first | (with_reducible first | exact HB.out | apply below_alloc | apply pw_below_drewN | apply below_drew1 | refine below_set ?_ (IsS170.ge HI0.out)) | exact HB.out)); rintro e w15 ⟨rfl, hi, hb, hk⟩; refine ⟨_, rfl, ?_⟩; have n0_ := Aside0.mk (KeepBut.trans att11_0_0 hk (.inl rfl)); have n1_ := Aside0.mk (hb); have n2_ := Aside0.mk (hi); clear HK; clear HB; clear HI0; have HK := n0_; have HB := n1_; have HI0 := n2_; clear n0_ n1_ n2_; (try clear hb); (try clear hb2); (try clear hk); (try clear hi)) | ((with_reducible refine gate_dst (N := 37) rfl ?_); refine Kd.R_lit k37 _ 37 ?hg (N := 37) ?hd (xs := ([(⟨6, 0, 0, 1, t279⟩ : S37), (⟨12, 0, 1, 0, 4⟩ : S37), (⟨10, 0, 0, 0, 0⟩ : S37), (⟨11, 0, 0, 0, 0⟩ : S37), (⟨13, 0, 0, 0, 0⟩ : S37)] : List (S37))) (inner := [.int .i64 6, .int .i64 0, .int .i64 0, .int .i64 1, .int .i64 t279, .int .i64 12, .int .i64 0, .int .i64 1, .int .i64 0, .int .i64 4, .int .i64 10, .int .i64 0, .int .i64 0, .int .i64 0, .int .i64 0, .int .i64 11, .int .i64 0, .int .i64 0, .int .i64 0, .int .i64 0, .int .i64 13, .int .i64 0, .int .i64 0, .int .i64 0, .int .i64 0]) (ok := fun _ => True) (okp := fun _ => True) ?hr ?hp (fun _ hk => hk) trivial (Below.refl _ _) (Nat.le_refl _) (by simp) ?_; (case hd => rfl); (case hg => rfl); (case hr => first | (go_simp; done) | (go_simp; rfl)); (case hp => exact (Reps.c5 (show Kd.M k37 _ _ _ (⟨6, 0, 0, 1, t279⟩ : S37) [.int .i64 6, .int .i64 0, .int .i64 0, .int .i64 1, .int .i64 t279] from (k37_mkM _ _ _ (⟨6, 0, 0, 1, t279⟩ : S37) )) (Reps.c5 (show Kd.M k37 _ _ _ (⟨12, 0, 1, 0, 4⟩ : S37) [.int .i64 12, .int .i64 0, .int .i64 1, .int .i64 0, .int .i64 4] from (k37_mkM _ _ _ (⟨12, 0, 1, 0, 4⟩ : S37) )) (Reps.c5 (show Kd.M k37 _ _ _ (⟨10, 0, 0, 0, 0⟩ : S37) [.int .i64 10, .int .i64 0, .int .i64 0, .int .i64 0, .int .i64 0] from (k37_mkM _ _ _ (⟨10, 0, 0, 0, 0⟩ : S37) )) (Reps.c5 (show Kd.M k37 _ _ _ (⟨11, 0, 0, 0, 0⟩ : S37) [.int .i64 11, .int .i64 0, .int .i64 0, .int .i64 0, .int .i64 0] from (k37_mkM _ _ _ (⟨11, 0, 0, 0, 0⟩ : S37) )) (Reps.c5 (show Kd.M k37 _ _ _ (⟨13, 0, 0, 0, 0⟩ : S37) [.int .i64 13, .int .i64 0, .int .i64 0, .int .i64 0, .int .i64 0] from (k37_mkM _ _ _ (⟨13, 0, 0, 0, 0⟩ : S37) )) (Reps.none _ _))))))); intro v292 w16 ho17 hb hg_ hnew_; clear hg_ hnew_; (first | rw [← Ny291.out] at ho17 | (simp only [Int.reduceToNat] at ho17; rw [← Ny291.out] at ho17)); have n0_ := Aside0.mk (Kd.R_lower ho17 (keep_size (w := w) (g := g) (row := none) att11_0_0)); have n1_ := Aside0.mk (IsS170.below att11_0_3 hb); have n2_ := Aside0.mk (KeepBut.trans att11_0_0 (KeepBut.of_below hb g none) (.inl rfl)); have n3_ := Aside0.mk (below_step att11_0_4 hb); clear HI0; clear HK; clear HB; have HO293 := n0_; have HI0 := n1_; have HK := n2_; have HB := n3_; clear n0_ n1_ n2_ n3_; clear hb ho17))
   go_ret
   exact ⟨_, by first | rfl | (simp [errW_none, errW_some] <;> rfl) | (simp [*, errW_none, errW_some] <;> rfl), by (with_reducible repeat (first | apply Kd.R_alloc | apply Kd.R_drewN | apply Kd.R_drew)); exact HO293.out, by repeat (first | (with_reducible first | exact HI0.out | apply IsS170.alloc | apply IsS170.drewN | apply IsS170.drew | apply IsS170.set_1 | apply IsS170.set_2) | exact HI0.out), by repeat (first | (with_reducible first | exact HB.out | apply below_alloc | apply pw_below_drewN | apply below_drew1 | refine below_set ?_ (IsS170.ge HI0.out)) | exact HB.out), att11_0_0⟩
  ·rw [if_neg c12] at H
   have c12b0 : (t285 == 1) = false := beq_eq_false_iff_ne.mpr c12
   have c12b1 : (t285 != 1) = true := bne_iff_ne.mpr c12
   by_cases c18 : t285 = 2
   ·rw [if_pos c18] at H
    have c18b0 : (t285 == 2) = true := beq_iff_eq.mpr c18
    have c18b1 : (t285 != 2) = false := bne_eq_false_iff_eq.mpr c18
    clear c18
    obtain ⟨y294, hy294⟩ : ∃ y_ : List (S37), y_ = (([(⟨6, 0, 0, 1, t279⟩ : S37), (⟨2, 0, 0, 1, 0⟩ : S37), (⟨5, 0, 0, 0, t282⟩ : S37), (⟨10, 0, 0, 0, 0⟩ : S37), (⟨11, 0, 0, 0, 0⟩ : S37)] : List (S37))) := ⟨_, rfl⟩
    replace H : (some (y294, t286, t287)) = some (r1, r2, r3) := by first | (rw [hy294]; with_reducible exact H) | (have H2_ := (Option.bind_some _ _).symm.trans H; rw [hy294]; with_reducible exact H2_) | (have H2_ := (Option.bind_some _ _).symm.trans H; with_reducible exact H2_) | with_reducible exact H | (rw [hy294]; exact H) | exact H
    have Ny294 := Aside0.mk hy294
    clear hy294
    simp only [Option.some.injEq, Prod.mk.injEq] at H
    obtain ⟨rfl, rfl, rfl⟩ := H
    go_enter Try.func198, Try.ntmps198
    go_wp2_with (first | ((with_reducible refine gate_callee (f := 97) rfl ?_); refine goesL_ (some 12) rfl rfl Try.func97 (by kernel_rfl) rfl #[.pointer (some ⟨g, 0, none⟩), .int .i64 a1] rfl att11_0_1 ?_; (with_reducible refine (spec_l1Below.calls g s0_0 s0_1 s0_2 a1 t279 t280 t281 w0 _ ?side1 ?side2 A3.out).mono ?_); (case side1 => repeat (first | (with_reducible first | exact HI0.out | apply IsS170.alloc | apply IsS170.drewN | apply IsS170.drew | apply IsS170.set_1 | apply IsS170.set_2) | exact HI0.out)); (case side2 => repeat (first | (with_reducible first | exact HB.out | apply below_alloc | apply pw_below_drewN | apply below_drew1 | refine below_set ?_ (IsS170.ge HI0.out)) | exact HB.out)); rintro e w19 ⟨rfl, hi, hb, hk⟩; refine ⟨_, rfl, ?_⟩; have n0_ := Aside0.mk (KeepBut.trans att11_0_0 hk (.inl rfl)); have n1_ := Aside0.mk (hb); have n2_ := Aside0.mk (hi); clear HK; clear HB; clear HI0; have HK := n0_; have HB := n1_; have HI0 := n2_; clear n0_ n1_ n2_; (try clear hb); (try clear hb2); (try clear hk); (try clear hi)) | ((with_reducible refine gate_callee (f := 97) rfl ?_); refine goesL_ (some 15) rfl rfl Try.func97 (by kernel_rfl) rfl #[.pointer (some ⟨g, 0, none⟩), .int .i64 a1] rfl att11_0_1 ?_; (with_reducible refine (spec_l1Below.calls g s0_0 t280 t281 a1 t282 t283 t284 w0 _ ?side1 ?side2 A4.out).mono ?_); (case side1 => repeat (first | (with_reducible first | exact HI0.out | apply IsS170.alloc | apply IsS170.drewN | apply IsS170.drew | apply IsS170.set_1 | apply IsS170.set_2) | exact HI0.out)); (case side2 => repeat (first | (with_reducible first | exact HB.out | apply below_alloc | apply pw_below_drewN | apply below_drew1 | refine below_set ?_ (IsS170.ge HI0.out)) | exact HB.out)); rintro e w20 ⟨rfl, hi, hb, hk⟩; refine ⟨_, rfl, ?_⟩; have n0_ := Aside0.mk (KeepBut.trans att11_0_0 hk (.inl rfl)); have n1_ := Aside0.mk (hb); have n2_ := Aside0.mk (hi); clear HK; clear HB; clear HI0; have HK := n0_; have HB := n1_; have HI0 := n2_; clear n0_ n1_ n2_; (try clear hb); (try clear hb2); (try clear hk); (try clear hi)) | ((with_reducible refine gate_callee (f := 97) rfl ?_); refine goesL_ (some 17) rfl rfl Try.func97 (by kernel_rfl) rfl #[.pointer (some ⟨g, 0, none⟩), .int .i64 5] rfl att11_0_1 ?_; (with_reducible refine (spec_l1Below.calls g s0_0 t283 t284 5 t285 t286 t287 w0 _ ?side1 ?side2 A5.out).mono ?_); (case side1 => repeat (first | (with_reducible first | exact HI0.out | apply IsS170.alloc | apply IsS170.drewN | apply IsS170.drew | apply IsS170.set_1 | apply IsS170.set_2) | exact HI0.out)); (case side2 => repeat (first | (with_reducible first | exact HB.out | apply below_alloc | apply pw_below_drewN | apply below_drew1 | refine below_set ?_ (IsS170.ge HI0.out)) | exact HB.out)); rintro e w21 ⟨rfl, hi, hb, hk⟩; refine ⟨_, rfl, ?_⟩; have n0_ := Aside0.mk (KeepBut.trans att11_0_0 hk (.inl rfl)); have n1_ := Aside0.mk (hb); have n2_ := Aside0.mk (hi); clear HK; clear HB; clear HI0; have HK := n0_; have HB := n1_; have HI0 := n2_; clear n0_ n1_ n2_; (try clear hb); (try clear hb2); (try clear hk); (try clear hi)) | ((with_reducible refine gate_dst (N := 47) rfl ?_); refine Kd.R_lit k37 _ 37 ?hg (N := 47) ?hd (xs := ([(⟨6, 0, 0, 1, t279⟩ : S37), (⟨2, 0, 0, 1, 0⟩ : S37), (⟨5, 0, 0, 0, t282⟩ : S37), (⟨10, 0, 0, 0, 0⟩ : S37), (⟨11, 0, 0, 0, 0⟩ : S37)] : List (S37))) (inner := [.int .i64 6, .int .i64 0, .int .i64 0, .int .i64 1, .int .i64 t279, .int .i64 2, .int .i64 0, .int .i64 0, .int .i64 1, .int .i64 0, .int .i64 5, .int .i64 0, .int .i64 0, .int .i64 0, .int .i64 t282, .int .i64 10, .int .i64 0, .int .i64 0, .int .i64 0, .int .i64 0, .int .i64 11, .int .i64 0, .int .i64 0, .int .i64 0, .int .i64 0]) (ok := fun _ => True) (okp := fun _ => True) ?hr ?hp (fun _ hk => hk) trivial (Below.refl _ _) (Nat.le_refl _) (by simp) ?_; (case hd => rfl); (case hg => rfl); (case hr => first | (go_simp; done) | (go_simp; rfl)); (case hp => exact (Reps.c5 (show Kd.M k37 _ _ _ (⟨6, 0, 0, 1, t279⟩ : S37) [.int .i64 6, .int .i64 0, .int .i64 0, .int .i64 1, .int .i64 t279] from (k37_mkM _ _ _ (⟨6, 0, 0, 1, t279⟩ : S37) )) (Reps.c5 (show Kd.M k37 _ _ _ (⟨2, 0, 0, 1, 0⟩ : S37) [.int .i64 2, .int .i64 0, .int .i64 0, .int .i64 1, .int .i64 0] from (k37_mkM _ _ _ (⟨2, 0, 0, 1, 0⟩ : S37) )) (Reps.c5 (show Kd.M k37 _ _ _ (⟨5, 0, 0, 0, t282⟩ : S37) [.int .i64 5, .int .i64 0, .int .i64 0, .int .i64 0, .int .i64 t282] from (k37_mkM _ _ _ (⟨5, 0, 0, 0, t282⟩ : S37) )) (Reps.c5 (show Kd.M k37 _ _ _ (⟨10, 0, 0, 0, 0⟩ : S37) [.int .i64 10, .int .i64 0, .int .i64 0, .int .i64 0, .int .i64 0] from (k37_mkM _ _ _ (⟨10, 0, 0, 0, 0⟩ : S37) )) (Reps.c5 (show Kd.M k37 _ _ _ (⟨11, 0, 0, 0, 0⟩ : S37) [.int .i64 11, .int .i64 0, .int .i64 0, .int .i64 0, .int .i64 0] from (k37_mkM _ _ _ (⟨11, 0, 0, 0, 0⟩ : S37) )) (Reps.none _ _))))))); intro v295 w22 ho23 hb hg_ hnew_; clear hg_ hnew_; (first | rw [← Ny294.out] at ho23 | (simp only [Int.reduceToNat] at ho23; rw [← Ny294.out] at ho23)); have n0_ := Aside0.mk (Kd.R_lower ho23 (keep_size (w := w) (g := g) (row := none) att11_0_0)); have n1_ := Aside0.mk (IsS170.below att11_0_3 hb); have n2_ := Aside0.mk (KeepBut.trans att11_0_0 (KeepBut.of_below hb g none) (.inl rfl)); have n3_ := Aside0.mk (below_step att11_0_4 hb); clear HI0; clear HK; clear HB; have HO296 := n0_; have HI0 := n1_; have HK := n2_; have HB := n3_; clear n0_ n1_ n2_ n3_; clear hb ho23))
    go_ret
    exact ⟨_, by first | rfl | (simp [errW_none, errW_some] <;> rfl) | (simp [*, errW_none, errW_some] <;> rfl), by (with_reducible repeat (first | apply Kd.R_alloc | apply Kd.R_drewN | apply Kd.R_drew)); exact HO296.out, by repeat (first | (with_reducible first | exact HI0.out | apply IsS170.alloc | apply IsS170.drewN | apply IsS170.drew | apply IsS170.set_1 | apply IsS170.set_2) | exact HI0.out), by repeat (first | (with_reducible first | exact HB.out | apply below_alloc | apply pw_below_drewN | apply below_drew1 | refine below_set ?_ (IsS170.ge HI0.out)) | exact HB.out), att11_0_0⟩
   ·rw [if_neg c18] at H
    have c18b0 : (t285 == 2) = false := beq_eq_false_iff_ne.mpr c18
    have c18b1 : (t285 != 2) = true := bne_iff_ne.mpr c18
    by_cases c24 : t285 = 3
    ·rw [if_pos c24] at H
     have c24b0 : (t285 == 3) = true := beq_iff_eq.mpr c24
     have c24b1 : (t285 != 3) = false := bne_eq_false_iff_eq.mpr c24
     clear c24
     obtain ⟨y297, hy297⟩ : ∃ y_ : List (S37), y_ = (([(⟨1, 2, 0, 0, 5⟩ : S37), (⟨7, 3, 2, 0, t279⟩ : S37), (⟨8, 0, 0, 1, t282⟩ : S37), (⟨10, 0, 1, 0, 0⟩ : S37), (⟨2, 2, 2, 3, 0⟩ : S37), (⟨11, 0, 0, 0, 1⟩ : S37)] : List (S37))) := ⟨_, rfl⟩
     replace H : (some (y297, t286, t287)) = some (r1, r2, r3) := by first | (rw [hy297]; with_reducible exact H) | (have H2_ := (Option.bind_some _ _).symm.trans H; rw [hy297]; with_reducible exact H2_) | (have H2_ := (Option.bind_some _ _).symm.trans H; with_reducible exact H2_) | with_reducible exact H | (rw [hy297]; exact H) | exact H
     have Ny297 := Aside0.mk hy297
     clear hy297
     simp only [Option.some.injEq, Prod.mk.injEq] at H
     obtain ⟨rfl, rfl, rfl⟩ := H
     go_enter Try.func198, Try.ntmps198
     go_wp2_with (first | ((with_reducible refine gate_callee (f := 97) rfl ?_); refine goesL_ (some 12) rfl rfl Try.func97 (by kernel_rfl) rfl #[.pointer (some ⟨g, 0, none⟩), .int .i64 a1] rfl att11_0_1 ?_; (with_reducible refine (spec_l1Below.calls g s0_0 s0_1 s0_2 a1 t279 t280 t281 w0 _ ?side1 ?side2 A3.out).mono ?_); (case side1 => repeat (first | (with_reducible first | exact HI0.out | apply IsS170.alloc | apply IsS170.drewN | apply IsS170.drew | apply IsS170.set_1 | apply IsS170.set_2) | exact HI0.out)); (case side2 => repeat (first | (with_reducible first | exact HB.out | apply below_alloc | apply pw_below_drewN | apply below_drew1 | refine below_set ?_ (IsS170.ge HI0.out)) | exact HB.out)); rintro e w25 ⟨rfl, hi, hb, hk⟩; refine ⟨_, rfl, ?_⟩; have n0_ := Aside0.mk (KeepBut.trans att11_0_0 hk (.inl rfl)); have n1_ := Aside0.mk (hb); have n2_ := Aside0.mk (hi); clear HK; clear HB; clear HI0; have HK := n0_; have HB := n1_; have HI0 := n2_; clear n0_ n1_ n2_; (try clear hb); (try clear hb2); (try clear hk); (try clear hi)) | ((with_reducible refine gate_callee (f := 97) rfl ?_); refine goesL_ (some 15) rfl rfl Try.func97 (by kernel_rfl) rfl #[.pointer (some ⟨g, 0, none⟩), .int .i64 a1] rfl att11_0_1 ?_; (with_reducible refine (spec_l1Below.calls g s0_0 t280 t281 a1 t282 t283 t284 w0 _ ?side1 ?side2 A4.out).mono ?_); (case side1 => repeat (first | (with_reducible first | exact HI0.out | apply IsS170.alloc | apply IsS170.drewN | apply IsS170.drew | apply IsS170.set_1 | apply IsS170.set_2) | exact HI0.out)); (case side2 => repeat (first | (with_reducible first | exact HB.out | apply below_alloc | apply pw_below_drewN | apply below_drew1 | refine below_set ?_ (IsS170.ge HI0.out)) | exact HB.out)); rintro e w26 ⟨rfl, hi, hb, hk⟩; refine ⟨_, rfl, ?_⟩; have n0_ := Aside0.mk (KeepBut.trans att11_0_0 hk (.inl rfl)); have n1_ := Aside0.mk (hb); have n2_ := Aside0.mk (hi); clear HK; clear HB; clear HI0; have HK := n0_; have HB := n1_; have HI0 := n2_; clear n0_ n1_ n2_; (try clear hb); (try clear hb2); (try clear hk); (try clear hi)) | ((with_reducible refine gate_callee (f := 97) rfl ?_); refine goesL_ (some 17) rfl rfl Try.func97 (by kernel_rfl) rfl #[.pointer (some ⟨g, 0, none⟩), .int .i64 5] rfl att11_0_1 ?_; (with_reducible refine (spec_l1Below.calls g s0_0 t283 t284 5 t285 t286 t287 w0 _ ?side1 ?side2 A5.out).mono ?_); (case side1 => repeat (first | (with_reducible first | exact HI0.out | apply IsS170.alloc | apply IsS170.drewN | apply IsS170.drew | apply IsS170.set_1 | apply IsS170.set_2) | exact HI0.out)); (case side2 => repeat (first | (with_reducible first | exact HB.out | apply below_alloc | apply pw_below_drewN | apply below_drew1 | refine below_set ?_ (IsS170.ge HI0.out)) | exact HB.out)); rintro e w27 ⟨rfl, hi, hb, hk⟩; refine ⟨_, rfl, ?_⟩; have n0_ := Aside0.mk (KeepBut.trans att11_0_0 hk (.inl rfl)); have n1_ := Aside0.mk (hb); have n2_ := Aside0.mk (hi); clear HK; clear HB; clear HI0; have HK := n0_; have HB := n1_; have HI0 := n2_; clear n0_ n1_ n2_; (try clear hb); (try clear hb2); (try clear hk); (try clear hi)) | ((with_reducible refine gate_dst (N := 58) rfl ?_); refine Kd.R_lit k37 _ 37 ?hg (N := 58) ?hd (xs := ([(⟨1, 2, 0, 0, 5⟩ : S37), (⟨7, 3, 2, 0, t279⟩ : S37), (⟨8, 0, 0, 1, t282⟩ : S37), (⟨10, 0, 1, 0, 0⟩ : S37), (⟨2, 2, 2, 3, 0⟩ : S37), (⟨11, 0, 0, 0, 1⟩ : S37)] : List (S37))) (inner := [.int .i64 1, .int .i64 2, .int .i64 0, .int .i64 0, .int .i64 5, .int .i64 7, .int .i64 3, .int .i64 2, .int .i64 0, .int .i64 t279, .int .i64 8, .int .i64 0, .int .i64 0, .int .i64 1, .int .i64 t282, .int .i64 10, .int .i64 0, .int .i64 1, .int .i64 0, .int .i64 0, .int .i64 2, .int .i64 2, .int .i64 2, .int .i64 3, .int .i64 0, .int .i64 11, .int .i64 0, .int .i64 0, .int .i64 0, .int .i64 1]) (ok := fun _ => True) (okp := fun _ => True) ?hr ?hp (fun _ hk => hk) trivial (Below.refl _ _) (Nat.le_refl _) (by simp) ?_; (case hd => rfl); (case hg => rfl); (case hr => first | (go_simp; done) | (go_simp; rfl)); (case hp => exact (Reps.c5 (show Kd.M k37 _ _ _ (⟨1, 2, 0, 0, 5⟩ : S37) [.int .i64 1, .int .i64 2, .int .i64 0, .int .i64 0, .int .i64 5] from (k37_mkM _ _ _ (⟨1, 2, 0, 0, 5⟩ : S37) )) (Reps.c5 (show Kd.M k37 _ _ _ (⟨7, 3, 2, 0, t279⟩ : S37) [.int .i64 7, .int .i64 3, .int .i64 2, .int .i64 0, .int .i64 t279] from (k37_mkM _ _ _ (⟨7, 3, 2, 0, t279⟩ : S37) )) (Reps.c5 (show Kd.M k37 _ _ _ (⟨8, 0, 0, 1, t282⟩ : S37) [.int .i64 8, .int .i64 0, .int .i64 0, .int .i64 1, .int .i64 t282] from (k37_mkM _ _ _ (⟨8, 0, 0, 1, t282⟩ : S37) )) (Reps.c5 (show Kd.M k37 _ _ _ (⟨10, 0, 1, 0, 0⟩ : S37) [.int .i64 10, .int .i64 0, .int .i64 1, .int .i64 0, .int .i64 0] from (k37_mkM _ _ _ (⟨10, 0, 1, 0, 0⟩ : S37) )) (Reps.c5 (show Kd.M k37 _ _ _ (⟨2, 2, 2, 3, 0⟩ : S37) [.int .i64 2, .int .i64 2, .int .i64 2, .int .i64 3, .int .i64 0] from (k37_mkM _ _ _ (⟨2, 2, 2, 3, 0⟩ : S37) )) (Reps.c5 (show Kd.M k37 _ _ _ (⟨11, 0, 0, 0, 1⟩ : S37) [.int .i64 11, .int .i64 0, .int .i64 0, .int .i64 0, .int .i64 1] from (k37_mkM _ _ _ (⟨11, 0, 0, 0, 1⟩ : S37) )) (Reps.none _ _)))))))); intro v298 w28 ho29 hb hg_ hnew_; clear hg_ hnew_; (first | rw [← Ny297.out] at ho29 | (simp only [Int.reduceToNat] at ho29; rw [← Ny297.out] at ho29)); have n0_ := Aside0.mk (Kd.R_lower ho29 (keep_size (w := w) (g := g) (row := none) att11_0_0)); have n1_ := Aside0.mk (IsS170.below att11_0_3 hb); have n2_ := Aside0.mk (KeepBut.trans att11_0_0 (KeepBut.of_below hb g none) (.inl rfl)); have n3_ := Aside0.mk (below_step att11_0_4 hb); clear HI0; clear HK; clear HB; have HO299 := n0_; have HI0 := n1_; have HK := n2_; have HB := n3_; clear n0_ n1_ n2_ n3_; clear hb ho29))
     go_ret
     exact ⟨_, by first | rfl | (simp [errW_none, errW_some] <;> rfl) | (simp [*, errW_none, errW_some] <;> rfl), by (with_reducible repeat (first | apply Kd.R_alloc | apply Kd.R_drewN | apply Kd.R_drew)); exact HO299.out, by repeat (first | (with_reducible first | exact HI0.out | apply IsS170.alloc | apply IsS170.drewN | apply IsS170.drew | apply IsS170.set_1 | apply IsS170.set_2) | exact HI0.out), by repeat (first | (with_reducible first | exact HB.out | apply below_alloc | apply pw_below_drewN | apply below_drew1 | refine below_set ?_ (IsS170.ge HI0.out)) | exact HB.out), att11_0_0⟩
    ·rw [if_neg c24] at H
     have c24b0 : (t285 == 3) = false := beq_eq_false_iff_ne.mpr c24
     have c24b1 : (t285 != 3) = true := bne_iff_ne.mpr c24
     replace H := Option.bind_eq_some_iff.mp H
     obtain ⟨⟨t300, t301, t302⟩, A300, H⟩ := H
     replace H : (spec_l1DrawBody.l0 k a1 (wrap64 (2 + t300)) (([] : List (S37))) 0 s0_0 t301 t302) = some (r1, r2, r3) := H
     have A30 := Aside0.mk A300
     clear A300
     obtain ⟨y303, hy303⟩ : ∃ y_ : List (S37), y_ = (([] : List (S37))) := ⟨_, rfl⟩
     replace H : (spec_l1DrawBody.l0 k a1 (wrap64 (2 + t300)) y303 0 s0_0 t301 t302) = some (r1, r2, r3) := by first | (rw [hy303]; with_reducible exact H) | (have H2_ := (Option.bind_some _ _).symm.trans H; rw [hy303]; with_reducible exact H2_) | (have H2_ := (Option.bind_some _ _).symm.trans H; with_reducible exact H2_) | with_reducible exact H | (rw [hy303]; exact H) | exact H
     have Ny303 := Aside0.mk hy303
     clear hy303
     have H' := Aside0.mk H
     clear H
     go_enter Try.func198, Try.ntmps198
     go_wp2_with (first | ((with_reducible refine gate_callee (f := 97) rfl ?_); refine goesL_ (some 12) rfl rfl Try.func97 (by kernel_rfl) rfl #[.pointer (some ⟨g, 0, none⟩), .int .i64 a1] rfl att11_0_1 ?_; (with_reducible refine (spec_l1Below.calls g s0_0 s0_1 s0_2 a1 t279 t280 t281 w0 _ ?side1 ?side2 A3.out).mono ?_); (case side1 => repeat (first | (with_reducible first | exact HI0.out | apply IsS170.alloc | apply IsS170.drewN | apply IsS170.drew | apply IsS170.set_1 | apply IsS170.set_2) | exact HI0.out)); (case side2 => repeat (first | (with_reducible first | exact HB.out | apply below_alloc | apply pw_below_drewN | apply below_drew1 | refine below_set ?_ (IsS170.ge HI0.out)) | exact HB.out)); rintro e w31 ⟨rfl, hi, hb, hk⟩; refine ⟨_, rfl, ?_⟩; have n0_ := Aside0.mk (KeepBut.trans att11_0_0 hk (.inl rfl)); have n1_ := Aside0.mk (hb); have n2_ := Aside0.mk (hi); clear HK; clear HB; clear HI0; have HK := n0_; have HB := n1_; have HI0 := n2_; clear n0_ n1_ n2_; (try clear hb); (try clear hb2); (try clear hk); (try clear hi)) | ((with_reducible refine gate_callee (f := 97) rfl ?_); refine goesL_ (some 15) rfl rfl Try.func97 (by kernel_rfl) rfl #[.pointer (some ⟨g, 0, none⟩), .int .i64 a1] rfl att11_0_1 ?_; (with_reducible refine (spec_l1Below.calls g s0_0 t280 t281 a1 t282 t283 t284 w0 _ ?side1 ?side2 A4.out).mono ?_); (case side1 => repeat (first | (with_reducible first | exact HI0.out | apply IsS170.alloc | apply IsS170.drewN | apply IsS170.drew | apply IsS170.set_1 | apply IsS170.set_2) | exact HI0.out)); (case side2 => repeat (first | (with_reducible first | exact HB.out | apply below_alloc | apply pw_below_drewN | apply below_drew1 | refine below_set ?_ (IsS170.ge HI0.out)) | exact HB.out)); rintro e w32 ⟨rfl, hi, hb, hk⟩; refine ⟨_, rfl, ?_⟩; have n0_ := Aside0.mk (KeepBut.trans att11_0_0 hk (.inl rfl)); have n1_ := Aside0.mk (hb); have n2_ := Aside0.mk (hi); clear HK; clear HB; clear HI0; have HK := n0_; have HB := n1_; have HI0 := n2_; clear n0_ n1_ n2_; (try clear hb); (try clear hb2); (try clear hk); (try clear hi)) | ((with_reducible refine gate_callee (f := 97) rfl ?_); refine goesL_ (some 17) rfl rfl Try.func97 (by kernel_rfl) rfl #[.pointer (some ⟨g, 0, none⟩), .int .i64 5] rfl att11_0_1 ?_; (with_reducible refine (spec_l1Below.calls g s0_0 t283 t284 5 t285 t286 t287 w0 _ ?side1 ?side2 A5.out).mono ?_); (case side1 => repeat (first | (with_reducible first | exact HI0.out | apply IsS170.alloc | apply IsS170.drewN | apply IsS170.drew | apply IsS170.set_1 | apply IsS170.set_2) | exact HI0.out)); (case side2 => repeat (first | (with_reducible first | exact HB.out | apply below_alloc | apply pw_below_drewN | apply below_drew1 | refine below_set ?_ (IsS170.ge HI0.out)) | exact HB.out)); rintro e w33 ⟨rfl, hi, hb, hk⟩; refine ⟨_, rfl, ?_⟩; have n0_ := Aside0.mk (KeepBut.trans att11_0_0 hk (.inl rfl)); have n1_ := Aside0.mk (hb); have n2_ := Aside0.mk (hi); clear HK; clear HB; clear HI0; have HK := n0_; have HB := n1_; have HI0 := n2_; clear n0_ n1_ n2_; (try clear hb); (try clear hb2); (try clear hk); (try clear hi)) | ((with_reducible refine gate_callee (f := 97) rfl ?_); refine goesL_ (some 60) rfl rfl Try.func97 (by kernel_rfl) rfl #[.pointer (some ⟨g, 0, none⟩), .int .i64 9] rfl att11_0_1 ?_; (with_reducible refine (spec_l1Below.calls g s0_0 t286 t287 9 t300 t301 t302 w0 _ ?side1 ?side2 A30.out).mono ?_); (case side1 => repeat (first | (with_reducible first | exact HI0.out | apply IsS170.alloc | apply IsS170.drewN | apply IsS170.drew | apply IsS170.set_1 | apply IsS170.set_2) | exact HI0.out)); (case side2 => repeat (first | (with_reducible first | exact HB.out | apply below_alloc | apply pw_below_drewN | apply below_drew1 | refine below_set ?_ (IsS170.ge HI0.out)) | exact HB.out)); rintro e w34 ⟨rfl, hi, hb, hk⟩; refine ⟨_, rfl, ?_⟩; have n0_ := Aside0.mk (KeepBut.trans att11_0_0 hk (.inl rfl)); have n1_ := Aside0.mk (hb); have n2_ := Aside0.mk (hi); clear HK; clear HB; clear HI0; have HK := n0_; have HB := n1_; have HI0 := n2_; clear n0_ n1_ n2_; (try clear hb); (try clear hb2); (try clear hk); (try clear hi)) | ((with_reducible refine gate_dst (N := 62) rfl ?_); refine Kd.R_lit k37 _ 37 ?hg (N := 62) ?hd (xs := ([] : List (S37))) (inner := []) (ok := fun _ => True) (okp := fun _ => True) ?hr ?hp (fun _ hk => hk) trivial (Below.refl _ _) (Nat.le_refl _) (by simp) ?_; (case hd => rfl); (case hg => rfl); (case hr => first | (go_simp; done) | (go_simp; rfl)); (case hp => exact (Reps.none _ _)); intro v304 w35 ho36 hb hg_ hnew_; clear hg_ hnew_; (first | rw [← Ny303.out] at ho36 | (simp only [Int.reduceToNat] at ho36; rw [← Ny303.out] at ho36)); have n0_ := Aside0.mk (Kd.R_lower ho36 (keep_size (w := w) (g := g) (row := none) att11_0_0)); have n1_ := Aside0.mk (IsS170.below att11_0_3 hb); have n2_ := Aside0.mk (KeepBut.trans att11_0_0 (KeepBut.of_below hb g none) (.inl rfl)); have n3_ := Aside0.mk (below_step att11_0_4 hb); clear HI0; clear HK; clear HB; have HO305 := n0_; have HI0 := n1_; have HK := n2_; have HB := n3_; clear n0_ n1_ n2_ n3_; clear hb ho36))
     go_loopg [8, 9] k (fun kq v8 v9 w' => ∃ (x8_1 : List (S37)) (x9_1 : Int) (x1001_1 : Int) (x1002_1 : Int), v9 = .int .i64 x9_1 ∧ Aside0 (spec_l1DrawBody.l0 kq a1 (wrap64 (2 + t300)) x8_1 x9_1 s0_0 x1001_1 x1002_1 = some (r1, r2, r3)) ∧ Aside0 (kq ≤ k) ∧ Aside0 (Kd.R k37 37 w' w.heap.size (fun _ => True) v8 x8_1) ∧ Aside0 (IsS170 w0 w' g s0_0 x1001_1 x1002_1) ∧ Aside0 (KeepBut w w' g none) ∧ Aside0 (Below w0.heap.size w0 w'))
     case atStart => exact ⟨(y303), (0), (t301), (t302), att11_0_14, H', ⟨Nat.le_refl _⟩, ⟨by (with_reducible repeat (first | apply Kd.R_alloc | apply Kd.R_drewN | apply Kd.R_drew)); exact HO305.out⟩, ⟨att11_0_3⟩, ⟨att11_0_0⟩, ⟨att11_0_4⟩⟩
     case round =>
      clear H'
      try clear c1
      try clear c2
      try clear p2
      try clear c5
      try clear c6
      try clear c6b0
      try clear c6b1
      try clear p6
      try clear c9
      try clear c12
      try clear c12b0
      try clear c12b1
      try clear c18
      try clear c18b0
      try clear c18b1
      try clear c19
      try clear c24
      try clear c24b0
      try clear c24b1
      obtain ⟨x8_1, x9_1, x1001_1, x1002_1, rfl, HA, HK1, HO_8, HI0, HK, HB⟩ := hrel
      cases gk with
      | zero => exact absurd HA.out (by simp [spec_l1DrawBody.l0])
      | succ k1 =>
       have H := HA.out
       clear HA
       simp only [spec_l1DrawBody.l0] at H
       by_cases c37 : x9_1 < (wrap64 (2 + t300))
       ·rw [if_pos c37] at H
        have c37b0 : decide (x9_1 < (wrap64 (2 + t300))) = true := decide_eq_true c37
        clear c37
        replace H := Option.bind_eq_some_iff.mp H
        obtain ⟨⟨t306, t307, t308, t309, t310, t311, t312⟩, A380, H⟩ := H
        replace H : (if x8_1.length < 3518437208883 then (spec_l1DrawBody.l0 k1 a1 (wrap64 (2 + t300)) (x8_1 ++ [(⟨t306, t307, t308, t309, t310⟩ : S37)]) (wrap64 (x9_1 + 1)) s0_0 t311 t312) else (none)) = some (r1, r2, r3) := H
        have A38 := Aside0.mk A380
        clear A380
        by_cases c39 : x8_1.length < 3518437208883
        ·rw [if_pos c39] at H
         have LMc39 := Aside0.mk c39
         clear c39
         obtain ⟨y313, hy313⟩ : ∃ y_ : List (S37), y_ = (x8_1 ++ [(⟨t306, t307, t308, t309, t310⟩ : S37)]) := ⟨_, rfl⟩
         replace H : (spec_l1DrawBody.l0 k1 a1 (wrap64 (2 + t300)) y313 (wrap64 (x9_1 + 1)) s0_0 t311 t312) = some (r1, r2, r3) := by first | (rw [hy313]; with_reducible exact H) | (have H2_ := (Option.bind_some _ _).symm.trans H; rw [hy313]; with_reducible exact H2_) | (have H2_ := (Option.bind_some _ _).symm.trans H; with_reducible exact H2_) | with_reducible exact H | (rw [hy313]; exact H) | exact H
         have Ny313 := Aside0.mk hy313
         clear hy313
         have H' := Aside0.mk H
         clear H
         go_wp2_with (first | ((with_reducible refine gate_callee (f := 94) rfl ?_); refine goesL_ (some 73) rfl rfl Try.func94 (by kernel_rfl) rfl #[.pointer (some ⟨g, 0, none⟩), .int .i64 (wrap64 ((wrap64 (2 + t300)) + 1)), .int .i64 a1] rfl att11_0_1 ?_; (with_reducible refine (spec_l1DrawIns.calls k1 g s0_0 x1001_1 x1002_1 (wrap64 ((wrap64 (2 + t300)) + 1)) a1 t306 t307 t308 t309 t310 t311 t312 w0 _ ?side1 ?side2 A38.out).mono ?_); (case side1 => repeat (first | (with_reducible first | exact HI0.out | apply IsS170.alloc | apply IsS170.drewN | apply IsS170.drew | apply IsS170.set_1 | apply IsS170.set_2) | exact HI0.out)); (case side2 => repeat (first | (with_reducible first | exact HB.out | apply below_alloc | apply pw_below_drewN | apply below_drew1 | refine below_set ?_ (IsS170.ge HI0.out)) | exact HB.out)); rintro e w40 ⟨rfl, hi, hb, hk⟩; refine ⟨_, rfl, ?_⟩; have n0_ := Aside0.mk (Kd.R_mono (Kd.R_keep (IsS170.apart (show IsS170 w0 _ g s0_0 x1001_1 x1002_1 from by repeat (first | (with_reducible first | exact HI0.out | apply IsS170.alloc | apply IsS170.drewN | apply IsS170.drew | apply IsS170.set_1 | apply IsS170.set_2) | exact HI0.out)) att11_0_10 (by decide)) hk (fun _ h => h.2)) (fun _ h => h.1)); have n1_ := Aside0.mk (KeepBut.trans att11_0_0 hk (.inl rfl)); have n2_ := Aside0.mk (hb); have n3_ := Aside0.mk (hi); clear HO_8; clear HK; clear HB; clear HI0; have HO_8 := n0_; have HK := n1_; have HB := n2_; have HI0 := n3_; clear n0_ n1_ n2_ n3_; (try clear hb); (try clear hb2); (try clear hk); (try clear hi)) | ((with_reducible refine gate_builtin (b := .append) (xs := #[.tmp 68, .tmp 74]) rfl ?_); at_builtin; refine Kd.R_append k37 w.heap.size rfl (.tmp 68) (.tmp 74) 51 37 (.agg #[(.int .i64 0), (.int .i64 0), (.int .i64 0), (.int .i64 0), (.int .i64 0)]) 40 rfl Try.underlying51 info37 rfl (by decide) (by omega) u8 x8_1 (⟨t306, t307, t308, t309, t310⟩ : S37) [.int .i64 t306, .int .i64 t307, .int .i64 t308, .int .i64 t309, .int .i64 t310] (fun _ => True) (fun _ => False) rfl rfl ?aP (fun _ hk => hk.elim) ?aF ?aO (Below.refl _ _) ?aS ?aL ?_; (case aP => exact k37_mkM _ _ _ (⟨t306, t307, t308, t309, t310⟩ : S37)); (case aF => exact (fun _ _ => trivial)); (case aO => exact att11_0_10); (case aS => exact (keep_size (w := w) (g := g) (row := none) att11_0_0)); (case aL => have := LMc39.out; omega); intro v314 w41 ho hb hg hat; rw [← Ny313.out] at ho; have n0_ := Aside0.mk (IsS170.grown att11_0_3 hg (IsS170.own_ne HI0.out HO_8.out (by decide))); have n1_ := Aside0.mk (below_weaken att11_0_4 HL.out hb); have n2_ := Aside0.mk (KeepBut.trans att11_0_0 (KeepBut.of_grown hg g) (Kd.R_base2 HO_8.out)); have n3_ := Aside0.mk (ho); clear HI0; clear HB; clear HK; clear HO_8; have HI0 := n0_; have HB := n1_; have HK := n2_; have HO315 := n3_; clear n0_ n1_ n2_ n3_; clear ho hb hg hat))
         go_roundg k1
         case measure => have := HK1.out; omega
         case rel => exact ⟨(y313), (wrap64 (x9_1 + 1)), (t311), (t312), att11_0_14, H', ⟨by have := HK1.out; omega⟩, ⟨by (with_reducible repeat (first | apply Kd.R_alloc | apply Kd.R_drewN | apply Kd.R_drew)); exact HO315.out⟩, ⟨att11_0_3⟩, ⟨att11_0_0⟩, ⟨att11_0_4⟩⟩
        ·rw [if_neg c39] at H
         exact absurd H (by simp)
       ·rw [if_neg c37] at H
        have c37b0 : decide (x9_1 < (wrap64 (2 + t300))) = false := decide_eq_false c37
        clear c37
        obtain ⟨y316, hy316⟩ : ∃ y_ : List Int, y_ = (([13, 11] : List Int)) := ⟨_, rfl⟩
        replace H : ((spec_l1PickInt.f s0_0 x1001_1 x1002_1 y316).bind fun bt319 => (if x8_1.length < 3518437208883 then (some ((x8_1 ++ [(⟨bt319.1, 0, 0, 0, 0⟩ : S37)]), bt319.2.1, bt319.2.2)) else (none))) = some (r1, r2, r3) := by first | (rw [hy316]; with_reducible exact H) | (have H2_ := (Option.bind_some _ _).symm.trans H; rw [hy316]; with_reducible exact H2_) | (have H2_ := (Option.bind_some _ _).symm.trans H; with_reducible exact H2_) | with_reducible exact H | (rw [hy316]; exact H) | exact H
        have Ny316 := Aside0.mk hy316
        clear hy316
        replace H := Option.bind_eq_some_iff.mp H
        obtain ⟨⟨t319, t320, t321⟩, A420, H⟩ := H
        replace H : (if x8_1.length < 3518437208883 then (some ((x8_1 ++ [(⟨t319, 0, 0, 0, 0⟩ : S37)]), t320, t321)) else (none)) = some (r1, r2, r3) := H
        have A42 := Aside0.mk A420
        clear A420
        by_cases c43 : x8_1.length < 3518437208883
        ·rw [if_pos c43] at H
         have LMc43 := Aside0.mk c43
         clear c43
         obtain ⟨y322, hy322⟩ : ∃ y_ : List (S37), y_ = (x8_1 ++ [(⟨t319, 0, 0, 0, 0⟩ : S37)]) := ⟨_, rfl⟩
         replace H : (some (y322, t320, t321)) = some (r1, r2, r3) := by first | (rw [hy322]; with_reducible exact H) | (have H2_ := (Option.bind_some _ _).symm.trans H; rw [hy322]; with_reducible exact H2_) | (have H2_ := (Option.bind_some _ _).symm.trans H; with_reducible exact H2_) | with_reducible exact H | (rw [hy322]; exact H) | exact H
         have Ny322 := Aside0.mk hy322
         clear hy322
         simp only [Option.some.injEq, Prod.mk.injEq] at H
         obtain ⟨rfl, rfl, rfl⟩ := H
         go_wp2_with (first | ((with_reducible refine gate_dst (N := 78) rfl ?_); refine Kd.R_lit (Kd.int .i64) _ 3 ?hg (N := 78) ?hd (xs := ([13, 11] : List Int)) (inner := [.int .i64 13, .int .i64 11]) (ok := fun _ => True) (okp := fun _ => True) ?hr ?hp (fun _ hk => hk) trivial (Below.refl _ _) (Nat.le_refl _) (by simp) ?_; (case hd => rfl); (case hg => rfl); (case hr => first | (go_simp; done) | (go_simp; rfl)); (case hp => exact (Reps.one (show Kd.M (Kd.int .i64) _ _ _ 13 [.int .i64 13] from rfl) (Reps.one (show Kd.M (Kd.int .i64) _ _ _ 11 [.int .i64 11] from rfl) (Reps.none _ _)))); intro v317 w44 ho45 hb hg_ hnew_; clear hg_ hnew_; (first | rw [← Ny316.out] at ho45 | (simp only [Int.reduceToNat] at ho45; rw [← Ny316.out] at ho45)); have n0_ := Aside0.mk (Kd.R_below att11_0_10 hb); have n1_ := Aside0.mk (Kd.R_lower ho45 (keep_size (w := w) (g := g) (row := none) att11_0_0)); have n2_ := Aside0.mk (IsS170.below att11_0_3 hb); have n3_ := Aside0.mk (KeepBut.trans att11_0_0 (KeepBut.of_below hb g none) (.inl rfl)); have n4_ := Aside0.mk (below_step att11_0_4 hb); clear HO_8; clear HI0; clear HK; clear HB; have HO_8 := n0_; have HO318 := n1_; have HI0 := n2_; have HK := n3_; have HB := n4_; clear n0_ n1_ n2_ n3_ n4_; clear hb ho45; obtain ⟨Ao46, co46, eo46⟩ := Kd.R_slice HO318.out; subst eo46) | ((with_reducible refine gate_callee (f := 161) rfl ?_); refine goesL_ (some 79) rfl rfl Try.func161 (by kernel_rfl) rfl #[.pointer (some ⟨g, 0, none⟩), .slice Ao46 y316.length co46] rfl att11_0_1 ?_; (with_reducible refine (spec_l1PickInt.calls g s0_0 x1001_1 x1002_1 _ _ y316 t319 t320 t321 w0 _ ?side1 ?side2 ?side3 ?side4 ?side5 A42.out).mono ?_); (case side1 => repeat (first | (with_reducible first | exact HI0.out | apply IsS170.alloc | apply IsS170.drewN | apply IsS170.drew | apply IsS170.set_1 | apply IsS170.set_2) | exact HI0.out)); (case side2 => repeat (first | (with_reducible first | exact HB.out | apply below_alloc | apply pw_below_drewN | apply below_drew1 | refine below_set ?_ (IsS170.ge HI0.out)) | exact HB.out)); (case side3 => repeat (first | exact (Kd.R_reads' HO318.out).2.2 | (with_reducible refine Kd.C_alloc ?_ _) | (with_reducible refine Kd.C_drewN ?_ _) | (with_reducible refine Kd.C_drew ?_))); (case side4 => exact (Kd.R_reads' HO318.out).2.1); (case side5 => exact far_slice (IsS170.own_ne HI0.out HO318.out (by decide))); rintro e w47 ⟨rfl, hi, hb, hk⟩; refine ⟨_, rfl, ?_⟩; have n0_ := Aside0.mk (Kd.R_mono (Kd.R_keep (IsS170.apart (show IsS170 w0 _ g s0_0 x1001_1 x1002_1 from by repeat (first | (with_reducible first | exact HI0.out | apply IsS170.alloc | apply IsS170.drewN | apply IsS170.drew | apply IsS170.set_1 | apply IsS170.set_2) | exact HI0.out)) att11_0_10 (by decide)) hk (fun _ h => h.2)) (fun _ h => h.1)); have n1_ := Aside0.mk (Kd.R_mono (Kd.R_keep (IsS170.apart (show IsS170 w0 _ g s0_0 x1001_1 x1002_1 from by repeat (first | (with_reducible first | exact HI0.out | apply IsS170.alloc | apply IsS170.drewN | apply IsS170.drew | apply IsS170.set_1 | apply IsS170.set_2) | exact HI0.out)) att11_0_15 (by decide)) hk (fun _ h => h.2)) (fun _ h => h.1)); have n2_ := Aside0.mk (KeepBut.trans att11_0_0 hk (.inl rfl)); have n3_ := Aside0.mk (hb); have n4_ := Aside0.mk (hi); clear HO_8; clear HO318; clear HK; clear HB; clear HI0; have HO_8 := n0_; have HO318 := n1_; have HK := n2_; have HB := n3_; have HI0 := n4_; clear n0_ n1_ n2_ n3_ n4_; (try clear hb); (try clear hb2); (try clear hk); (try clear hi)) | ((with_reducible refine gate_builtin (b := .append) (xs := #[.tmp 76, .tmp 81]) rfl ?_); at_builtin; refine Kd.R_append k37 w.heap.size rfl (.tmp 76) (.tmp 81) 51 37 (.agg #[(.int .i64 0), (.int .i64 0), (.int .i64 0), (.int .i64 0), (.int .i64 0)]) 40 rfl Try.underlying51 info37 rfl (by decide) (by omega) u8 x8_1 (⟨t319, 0, 0, 0, 0⟩ : S37) [.int .i64 t319, .int .i64 0, .int .i64 0, .int .i64 0, .int .i64 0] (fun _ => True) (fun _ => False) rfl rfl ?aP (fun _ hk => hk.elim) ?aF ?aO (Below.refl _ _) ?aS ?aL ?_; (case aP => exact k37_mkM _ _ _ (⟨t319, 0, 0, 0, 0⟩ : S37)); (case aF => exact (fun _ _ => trivial)); (case aO => exact att11_0_10); (case aS => exact (keep_size (w := w) (g := g) (row := none) att11_0_0)); (case aL => have := LMc43.out; omega); intro v323 w48 ho hb hg hat; rw [← Ny322.out] at ho; have n0_ := Aside0.mk (IsS170.grown att11_0_3 hg (IsS170.own_ne HI0.out HO_8.out (by decide))); have n1_ := Aside0.mk (Kd.R_over' att11_0_15 (Kd.R_typed att11_0_10) (by decide) hg); have n2_ := Aside0.mk (below_weaken att11_0_4 HL.out hb); have n3_ := Aside0.mk (KeepBut.trans att11_0_0 (KeepBut.of_grown hg g) (Kd.R_base2 HO_8.out)); have n4_ := Aside0.mk (ho); clear HI0; clear HO318; clear HB; clear HK; clear HO_8; have HI0 := n0_; have HO318 := n1_; have HB := n2_; have HK := n3_; have HO324 := n4_; clear n0_ n1_ n2_ n3_ n4_; clear ho hb hg hat))
         go_ret
         exact ⟨_, by first | rfl | (simp [errW_none, errW_some] <;> rfl) | (simp [*, errW_none, errW_some] <;> rfl), by (with_reducible repeat (first | apply Kd.R_alloc | apply Kd.R_drewN | apply Kd.R_drew)); exact HO324.out, by repeat (first | (with_reducible first | exact HI0.out | apply IsS170.alloc | apply IsS170.drewN | apply IsS170.drew | apply IsS170.set_1 | apply IsS170.set_2) | exact HI0.out), by repeat (first | (with_reducible first | exact HB.out | apply below_alloc | apply pw_below_drewN | apply below_drew1 | refine below_set ?_ (IsS170.ge HI0.out)) | exact HB.out), att11_0_0⟩
        ·rw [if_neg c43] at H
         exact absurd H (by simp)

/-! ### spec_l1DrawRight: function 181 -/
mutual
def spec_l1DrawRight.l0 : Nat → Int → Int → List Int → Int → Int → List Int → Option (List Int × (List (List (S37))) × Int × Int)
 | 0, _, _, _, _, _, _ => none
 | k + 1, x4, x5, x1000, x1001, x1002, x327000 => if x5 < x4 then ((spec_l1Below.f x1000 x1001 x1002 4).bind fun bt330 => (if x327000.length < 17592186044416 then (spec_l1DrawRight.l0 k x4 (wrap64 (x5 + 1)) x1000 bt330.2.1 bt330.2.2 (x327000 ++ [wrap64 (1 + bt330.1)])) else (none))) else (spec_l1DrawRight.l1 k x4 0 x1000 x1001 x1002 x327000 ([] : List (List (S37))))
def spec_l1DrawRight.l1 : Nat → Int → Int → List Int → Int → Int → List Int → List (List (S37)) → Option (List Int × (List (List (S37))) × Int × Int)
 | 0, _, _, _, _, _, _, _ => none
 | k + 1, x4, x6, x1000, x1001, x1002, x327000, x327001 => (spec_l1Below.f x1000 x1001 x1002 4).bind fun bt336 => (if x6 < (wrap64 (1 + bt336.1)) then ((spec_l1DrawBody.f k x1000 bt336.2.1 bt336.2.2 x4).bind fun bt339 => (if x327001.length < 5864062014805 then (spec_l1DrawRight.l1 k x4 (wrap64 (x6 + 1)) x1000 bt339.2.1 bt339.2.2 x327000 (x327001 ++ [bt339.1])) else (none))) else (some (x327000, x327001, bt336.2.1, bt336.2.2)))
end
def spec_l1DrawRight.f (k : Nat) (s0_0 : List Int) (s0_1 : Int) (s0_2 : Int) : Option (List Int × (List (List (S37))) × Int × Int) := (spec_l1Below.f s0_0 s0_1 s0_2 3).bind fun bt327 => (spec_l1DrawRight.l0 k (wrap64 (1 + bt327.1)) 0 s0_0 bt327.2.1 bt327.2.2 ([] : List Int))
theorem spec_l1DrawRight.mono_l : ∀ k, (∀ y0 y1 y2 y3 y4 y5, LeO (spec_l1DrawRight.l0 k y0 y1 y2 y3 y4 y5) (spec_l1DrawRight.l0 (k + 1) y0 y1 y2 y3 y4 y5)) ∧ (∀ y0 y1 y2 y3 y4 y5 y6, LeO (spec_l1DrawRight.l1 k y0 y1 y2 y3 y4 y5 y6) (spec_l1DrawRight.l1 (k + 1) y0 y1 y2 y3 y4 y5 y6))
 | 0 => ⟨fun _ _ _ _ _ _ r h => by simp [spec_l1DrawRight.l0] at h, fun _ _ _ _ _ _ _ r h => by simp [spec_l1DrawRight.l1] at h⟩
 | k + 1 => by
  obtain ⟨ih0, ih1⟩ := spec_l1DrawRight.mono_l k
  refine ⟨?_, ?_⟩
  ·intro y0 y1 y2 y3 y4 y5
   unfold spec_l1DrawRight.l0
   repeat' first
   | (with_reducible exact ih0 _ _ _ _ _ _)
   | (with_reducible exact ih1 _ _ _ _ _ _ _)
   | (with_reducible exact spec_l1DrawBody.mono _ _ _ _ _)
   | (with_reducible exact LeO.refl _)
   | (with_reducible exact LeO.none _)
   | (with_reducible refine LeO.ite ?_ ?_)
   | (with_reducible refine LeO.bind ?_ (fun _ => ?_))
   | exact ih0 _ _ _ _ _ _
   | exact ih1 _ _ _ _ _ _ _
   | exact spec_l1DrawBody.mono _ _ _ _ _
   | exact LeO.none _
   | refine LeO.ite ?_ ?_
   | refine LeO.bind ?_ (fun _ => ?_)
  ·intro y0 y1 y2 y3 y4 y5 y6
   unfold spec_l1DrawRight.l1
   repeat' first
   | (with_reducible exact ih0 _ _ _ _ _ _)
   | (with_reducible exact ih1 _ _ _ _ _ _ _)
   | (with_reducible exact spec_l1DrawBody.mono _ _ _ _ _)
   | (with_reducible exact LeO.refl _)
   | (with_reducible exact LeO.none _)
   | (with_reducible refine LeO.ite ?_ ?_)
   | (with_reducible refine LeO.bind ?_ (fun _ => ?_))
   | exact ih0 _ _ _ _ _ _
   | exact ih1 _ _ _ _ _ _ _
   | exact spec_l1DrawBody.mono _ _ _ _ _
   | exact LeO.none _
   | refine LeO.ite ?_ ?_
   | refine LeO.bind ?_ (fun _ => ?_)
theorem spec_l1DrawRight.mono : ∀ a0 a1 a2 k, LeO (spec_l1DrawRight.f k a0 a1 a2) (spec_l1DrawRight.f (k + 1) a0 a1 a2) := by
 intro a0 a1 a2 k
 obtain ⟨ih0, ih1⟩ := spec_l1DrawRight.mono_l k
 unfold spec_l1DrawRight.f
 repeat' first
   | (with_reducible exact ih0 _ _ _ _ _ _)
   | (with_reducible exact ih1 _ _ _ _ _ _ _)
   | (with_reducible exact spec_l1DrawBody.mono _ _ _ _ _)
   | (with_reducible exact LeO.refl _)
   | (with_reducible exact LeO.none _)
   | (with_reducible refine LeO.ite ?_ ?_)
   | (with_reducible refine LeO.bind ?_ (fun _ => ?_))
   | exact ih0 _ _ _ _ _ _
   | exact ih1 _ _ _ _ _ _ _
   | exact spec_l1DrawBody.mono _ _ _ _ _
   | exact LeO.none _
   | refine LeO.ite ?_ ?_
   | refine LeO.bind ?_ (fun _ => ?_)
def spec_l1DrawRight.T6 : Bool × List (List Nat × List Nat) := (true, [([], []), ([0], [0]), ([], []), ([2], [2]), ([3], [3]), ([4], [4]), ([1, 5, 3], [1, 5]), ([0, 1, 2, 3, 4, 5, 6], []), ([7, 6, 6, 0, 1, 2, 3, 4, 5, 6], [6, 7])])
def spec_l1DrawRight.B6 : List Nat := [0, 1, 0, 4, 12, 28, 63, 127, 255]
theorem spec_l1DrawRight.tab6 : rtab .any (opsOf Try.f181 6) = spec_l1DrawRight.T6 := by kernel_rfl
theorem spec_l1DrawRight.bits6 : waitsOk spec_l1DrawRight.T6.2 spec_l1DrawRight.B6 = true := by kernel_rfl
def spec_l1DrawRight.T10 : Bool × List (List Nat × List Nat) := (true, [([], []), ([0], [0]), ([], []), ([], []), ([2, 3], [2, 3]), ([4], [4]), ([1, 5, 4], [1, 5]), ([0, 1, 2, 3, 4, 5, 6], []), ([7, 6, 6, 0, 1, 2, 3, 4, 5, 6], [6, 7])])
def spec_l1DrawRight.B10 : List Nat := [0, 1, 0, 0, 12, 28, 63, 127, 255]
theorem spec_l1DrawRight.tab10 : rtab .any (opsOf Try.f181 10) = spec_l1DrawRight.T10 := by kernel_rfl
theorem spec_l1DrawRight.bits10 : waitsOk spec_l1DrawRight.T10.2 spec_l1DrawRight.B10 = true := by kernel_rfl
set_option maxHeartbeats 80000000 in
set_option maxRecDepth 100000 in
theorem spec_l1DrawRight.calls (k : Nat) (g : Nat) (s0_0 : List Int) (s0_1 : Int) (s0_2 : Int) (r1 : List Int) (r2 : List (List (S37))) (r3 : Int) (r4 : Int) (w0 w : World) (hI : IsS170 w0 w g s0_0 s0_1 s0_2) (hB : Below w0.heap.size w0 w) (h : spec_l1DrawRight.f k s0_0 s0_1 s0_2 = some (r1, r2, r3, r4)) :
  Calls Try.prog 181 #[.pointer (some ⟨g, 0, none⟩)] w fun e w' => ∃ v0_ v1_ : Value, e = .returned (.agg #[v0_, v1_]) ∧ Kd.R (Kd.int .i64) 3 w' w.heap.size (fun _ => True) v0_ r1 ∧ Kd.S (Kd.slice 37 k37) 51 w' w.heap.size (fun _ => True) v1_ r2 ∧ IsS170 w0 w' g s0_0 r3 r4 ∧ Below w0.heap.size w0 w' ∧ KeepBut w w' g none := by
 have hu30 := Try.underlying30
 have HI0 := Aside0.mk hI
 have HK := Aside0.mk (KeepBut.refl w g none)
 have HL := Aside0.mk hB.size
 clear hI
 have HW0 := Aside0.mk hB.size
 have HB := Aside0.mk hB
 clear hB
 have H : ((spec_l1Below.f s0_0 s0_1 s0_2 3).bind fun bt327 => (spec_l1DrawRight.l0 k (wrap64 (1 + bt327.1)) 0 s0_0 bt327.2.1 bt327.2.2 ([] : List Int))) = some (r1, r2, r3, r4) := h
 clear h
 replace H := Option.bind_eq_some_iff.mp H
 obtain ⟨⟨t327, t328, t329⟩, A20, H⟩ := H
 replace H : (spec_l1DrawRight.l0 k (wrap64 (1 + t327)) 0 s0_0 t328 t329 ([] : List Int)) = some (r1, r2, r3, r4) := H
 have A2 := Aside0.mk A20
 clear A20
 have H' := Aside0.mk H
 clear H
 go_enter Try.func181, Try.ntmps181
 go_wp2_with (first | ((with_reducible refine gate_dst (N := 2) rfl ?_); refine box_event ?hg (N := 2) ?hd (cs := #[.slice none 0 0, .slice none 0 0]) (t := 30) ?hr ?_; (case hd => rfl); (case hg => rfl); (case hr => first | (go_simp; done) | (go_simp; rfl)); intro gb325 hg w3 hbox hb; have n0_ := Aside0.mk (IsS170.below att11_0_3 hb); have n1_ := Aside0.mk (KeepBut.trans att11_0_0 (KeepBut.of_below hb g none) (.inl rfl)); have n2_ := Aside0.mk (below_step att11_0_4 hb); have n3_ := Aside0.mk (hbox); have n4_ := Aside0.mk ((by rw [hg]; exact (keep_size (w := w) (g := g) (row := none) att11_0_0) : w.heap.size ≤ gb325)); have n5_ := Aside0.mk ((Nat.le_trans HW0.out (by rw [hg]; exact (keep_size (w := w) (g := g) (row := none) att11_0_0) : w.heap.size ≤ gb325) : w0.heap.size ≤ gb325)); have n6_ := Aside0.mk ((by rw [hg]; exact Nat.ne_of_lt (IsS170.lt (show IsS170 w0 _ g s0_0 s0_1 s0_2 from by repeat (first | (with_reducible first | exact HI0.out | apply IsS170.alloc | apply IsS170.drewN | apply IsS170.drew | apply IsS170.set_1 | apply IsS170.set_2) | exact HI0.out))) : g ≠ gb325)); have n7_ := Aside0.mk ((by rw [hg]; exact Nat.ne_of_gt (IsS170.lt (show IsS170 w0 _ g s0_0 s0_1 s0_2 from by repeat (first | (with_reducible first | exact HI0.out | apply IsS170.alloc | apply IsS170.drewN | apply IsS170.drew | apply IsS170.set_1 | apply IsS170.set_2) | exact HI0.out))) : gb325 ≠ g)); clear HI0; clear HK; clear HB; have HI0 := n0_; have HK := n1_; have HB := n2_; have BK325 := n3_; have GW325 := n4_; have GE325 := n5_; have NB0_325 := n6_; have NB325_0 := n7_; clear n0_ n1_ n2_ n3_ n4_ n5_ n6_ n7_; clear hb hbox hg) | ((with_reducible refine gate_dst (N := 3) rfl ?_); refine box_event ?hg (N := 3) ?hd (cs := #[.slice none 0 0, .slice none 0 0]) (t := 30) ?hr ?_; (case hd => rfl); (case hg => rfl); (case hr => first | (go_simp; done) | (go_simp; rfl)); intro gb326 hg w4 hbox hb; have n0_ := Aside0.mk (IsS170.below (by repeat (first | (with_reducible first | exact HI0.out | apply IsS170.alloc | apply IsS170.drewN | apply IsS170.drew | apply IsS170.set_1 | apply IsS170.set_2 | refine IsS170.far ?_ NB0_325.out _) | exact HI0.out)) hb); have n1_ := Aside0.mk (blk_below (g := gb325) (o := .cells #[.slice none 0 0, .slice none 0 0] 30 (0, 0)) att11_0_7 hb); have n2_ := Aside0.mk (KeepBut.trans att11_0_11 (KeepBut.of_below hb g none) (.inl rfl)); have n3_ := Aside0.mk (below_step (by repeat (first | (with_reducible first | exact HB.out | apply below_alloc | apply pw_below_drewN | apply below_drew1 | refine below_set ?_ (IsS170.ge HI0.out) | refine below_set ?_ GE325.out) | exact HB.out)) hb); have n4_ := Aside0.mk (hbox); have n5_ := Aside0.mk ((by rw [hg]; exact (keep_size (w := w) (g := g) (row := none) att11_0_11) : w.heap.size ≤ gb326)); have n6_ := Aside0.mk ((Nat.le_trans HW0.out (by rw [hg]; exact (keep_size (w := w) (g := g) (row := none) att11_0_11) : w.heap.size ≤ gb326) : w0.heap.size ≤ gb326)); have n7_ := Aside0.mk ((by rw [hg]; exact Nat.ne_of_lt (blk_lt (g := gb325) (o := .cells #[.slice none 0 0, .slice none 0 0] 30 (0, 0)) att11_0_7) : gb325 ≠ gb326)); have n8_ := Aside0.mk ((by rw [hg]; exact Nat.ne_of_gt (blk_lt (g := gb325) (o := .cells #[.slice none 0 0, .slice none 0 0] 30 (0, 0)) att11_0_7) : gb326 ≠ gb325)); have n9_ := Aside0.mk ((by rw [hg]; exact Nat.ne_of_lt (IsS170.lt (show IsS170 w0 _ g s0_0 s0_1 s0_2 from by repeat (first | (with_reducible first | exact HI0.out | apply IsS170.alloc | apply IsS170.drewN | apply IsS170.drew | apply IsS170.set_1 | apply IsS170.set_2 | refine IsS170.far ?_ NB0_325.out _) | exact HI0.out))) : g ≠ gb326)); have n10_ := Aside0.mk ((by rw [hg]; exact Nat.ne_of_gt (IsS170.lt (show IsS170 w0 _ g s0_0 s0_1 s0_2 from by repeat (first | (with_reducible first | exact HI0.out | apply IsS170.alloc | apply IsS170.drewN | apply IsS170.drew | apply IsS170.set_1 | apply IsS170.set_2 | refine IsS170.far ?_ NB0_325.out _) | exact HI0.out))) : gb326 ≠ g)); clear HI0; clear BK325; clear HK; clear HB; have HI0 := n0_; have BK325 := n1_; have HK := n2_; have HB := n3_; have BK326 := n4_; have GW326 := n5_; have GE326 := n6_; have NB325_326 := n7_; have NB326_325 := n8_; have NB0_326 := n9_; have NB326_0 := n10_; clear n0_ n1_ n2_ n3_ n4_ n5_ n6_ n7_ n8_ n9_ n10_; clear hb hbox hg; have hnb5 := NB326_325.out; have hnc5 := NB325_326.out; have hnb6 := NB326_0.out; have hnc6 := NB0_326.out; have hcz7_0 : w4.cell? ⟨gb326, 0, none⟩ = some (.slice none 0 0) := (blk_cell BK326.out 0).trans rfl; have hcz7_1 : w4.cell? ⟨gb326, 1, none⟩ = some (.slice none 0 0) := (blk_cell BK326.out 1).trans rfl; have hfz7_0 := blk_frozen BK326.out 0; have hfz7_1 := blk_frozen BK326.out 1) | ((with_reducible refine gate_callee (f := 97) rfl ?_); refine goesL_ (some 9) rfl rfl Try.func97 (by kernel_rfl) rfl #[.pointer (some ⟨g, 0, none⟩), .int .i64 3] rfl att11_0_1 ?_; (with_reducible refine (spec_l1Below.calls g s0_0 s0_1 s0_2 3 t327 t328 t329 w0 _ ?side1 ?side2 A2.out).mono ?_); (case side1 => repeat (first | (with_reducible first | exact HI0.out | apply IsS170.alloc | apply IsS170.drewN | apply IsS170.drew | apply IsS170.set_1 | apply IsS170.set_2 | refine IsS170.far ?_ NB0_325.out _ | refine IsS170.far ?_ NB0_326.out _) | exact HI0.out)); (case side2 => repeat (first | (with_reducible first | exact HB.out | apply below_alloc | apply pw_below_drewN | apply below_drew1 | refine below_set ?_ (IsS170.ge HI0.out) | refine below_set ?_ GE325.out | refine below_set ?_ GE326.out) | exact HB.out)); rintro e w8 ⟨rfl, hi, hb, hk⟩; refine ⟨_, rfl, ?_⟩; have n0_ := Aside0.mk (KeepBut.blk hk (g' := gb325) (o := .cells #[.slice none 0 0, .slice none 0 0] 30 (0, 0)) (by (with_reducible repeat (first | refine blk_drewN ?_ _ | refine blk_drew ?_ | refine blk_alloc ?_ _)); refine blk_far ?_ NB325_326.out _; (with_reducible repeat (first | refine blk_drewN ?_ _ | refine blk_drew ?_ | refine blk_alloc ?_ _)); refine blk_far ?_ NB325_326.out _; (with_reducible repeat (first | refine blk_drewN ?_ _ | refine blk_drew ?_ | refine blk_alloc ?_ _)); exact BK325.out) NB325_0.out (by simp)); have n1_ := Aside0.mk (KeepBut.blk hk (g' := gb326) (o := .cells #[.slice none 0 0, .slice none 0 0] 30 (0, 0)) (by (with_reducible repeat (first | refine blk_drewN ?_ _ | refine blk_drew ?_ | refine blk_alloc ?_ _)); refine blk_put (cs := #[.slice none 0 0, .slice none 0 0]) ?_ 1 _ rfl; (with_reducible repeat (first | refine blk_drewN ?_ _ | refine blk_drew ?_ | refine blk_alloc ?_ _)); refine blk_put (cs := #[.slice none 0 0, .slice none 0 0]) ?_ 0 _ rfl; (with_reducible repeat (first | refine blk_drewN ?_ _ | refine blk_drew ?_ | refine blk_alloc ?_ _)); exact BK326.out) NB326_0.out (by simp)); have n2_ := Aside0.mk (KeepBut.trans att11_0_2 hk (.inl rfl)); have n3_ := Aside0.mk (hb); have n4_ := Aside0.mk (hi); clear BK325; clear BK326; clear HK; clear HB; clear HI0; have BK325 := n0_; have BK326 := n1_; have HK := n2_; have HB := n3_; have HI0 := n4_; clear n0_ n1_ n2_ n3_ n4_; (try clear hb); (try clear hb2); (try clear hk); (try clear hi)))
 go_loopg [5] k (fun kq v5 w' => ∃ (x5_1 : Int) (x1001_1 : Int) (x1002_1 : Int) (x327000_1 : List Int) (u327000 : Value), v5 = .int .i64 x5_1 ∧ Aside0 (spec_l1DrawRight.l0 kq (wrap64 (1 + t327)) x5_1 s0_0 x1001_1 x1002_1 x327000_1 = some (r1, r2, r3, r4)) ∧ Aside0 (kq ≤ k) ∧ Aside0 (Kd.R (Kd.int .i64) 3 w' w.heap.size (fun _ => True) u327000 x327000_1) ∧ Aside0 (w'.heap[gb325]? = some (.cells #[(.slice none 0 0), (.slice none 0 0)] 30 (0, 0))) ∧ Aside0 (w'.heap[gb326]? = some (.cells #[u327000, (.slice none 0 0)] 30 (0, 0))) ∧ Aside0 (IsS170 w0 w' g s0_0 x1001_1 x1002_1) ∧ Aside0 (KeepBut w w' g none) ∧ Aside0 (Below w0.heap.size w0 w'))
 case atStart => exact ⟨(0), (t328), (t329), (([] : List Int)), (.slice none 0 0), att11_0_14, H', ⟨Nat.le_refl _⟩, ⟨by first | exact Kd.R_nil _ _ _ _ _ | exact Kd.N_nil _ _ _ _ _ | exact Kd.V_nil _ _ _ _ _ | exact Kd.Q_nil _ _ _ _ _ | exact Kd.S_nil _ _ _ _ _⟩, ⟨att11_0_7⟩, ⟨att11_0_8⟩, ⟨att11_0_5⟩, ⟨att11_0_2⟩, ⟨att11_0_6⟩⟩
 case round =>
  clear H'
  try clear c1
  try clear p2
  try clear c5
  try clear c6
  try clear p6
  try clear hcz7_0
  try clear hcz7_1
  try clear hfz7_0
  try clear hfz7_1
  obtain ⟨x5_1, x1001_1, x1002_1, x327000_1, u327000, rfl, HA, HK1, HO_327000, BK325, BK326, HI0, HK, HB⟩ := hrel
  cases gk with
  | zero => exact absurd HA.out (by simp [spec_l1DrawRight.l0])
  | succ k1 =>
   have H := HA.out
   clear HA
   simp only [spec_l1DrawRight.l0] at H
   by_cases c9 : x5_1 < (wrap64 (1 + t327))
   ·rw [if_pos c9] at H
    have c9b0 : decide (x5_1 < (wrap64 (1 + t327))) = true := decide_eq_true c9
    clear c9
    replace H := Option.bind_eq_some_iff.mp H
    obtain ⟨⟨t330, t331, t332⟩, A100, H⟩ := H
    replace H : (if x327000_1.length < 17592186044416 then (spec_l1DrawRight.l0 k1 (wrap64 (1 + t327)) (wrap64 (x5_1 + 1)) s0_0 t331 t332 (x327000_1 ++ [wrap64 (1 + t330)])) else (none)) = some (r1, r2, r3, r4) := H
    have A10 := Aside0.mk A100
    clear A100
    by_cases c11 : x327000_1.length < 17592186044416
    ·rw [if_pos c11] at H
     have LMc11 := Aside0.mk c11
     clear c11
     obtain ⟨y333, hy333⟩ : ∃ y_ : List Int, y_ = (x327000_1 ++ [wrap64 (1 + t330)]) := ⟨_, rfl⟩
     replace H : (spec_l1DrawRight.l0 k1 (wrap64 (1 + t327)) (wrap64 (x5_1 + 1)) s0_0 t331 t332 y333) = some (r1, r2, r3, r4) := by first | (rw [hy333]; with_reducible exact H) | (have H2_ := (Option.bind_some _ _).symm.trans H; rw [hy333]; with_reducible exact H2_) | (have H2_ := (Option.bind_some _ _).symm.trans H; with_reducible exact H2_) | with_reducible exact H | (rw [hy333]; exact H) | exact H
     have Ny333 := Aside0.mk hy333
     clear hy333
     have H' := Aside0.mk H
     clear H
     try go_wp2
     have n0_ := Aside0.mk (Kd.R_drew HO_327000.out)
     have n1_ := Aside0.mk (blk_drew BK325.out)
     have n2_ := Aside0.mk (blk_drew BK326.out)
     have n3_ := Aside0.mk (IsS170.drew HI0.out)
     have n4_ := Aside0.mk (keep_drew HK.out)
     have n5_ := Aside0.mk (below_drew1 HB.out)
     clear HO_327000
     clear BK325
     clear BK326
     clear HI0
     clear HK
     clear HB
     have HO_327000 := n0_
     have BK325 := n1_
     have BK326 := n2_
     have HI0 := n3_
     have HK := n4_
     have HB := n5_
     clear n0_ n1_ n2_ n3_ n4_ n5_
     refine start_ (n := 9) (S := fun w' => w'.cell? ⟨gb326, 0, none⟩ = some (u327000) ∧ w'.cell? ⟨gb326, 1, none⟩ = some (.slice none 0 0)) (ds := [8]) (tf_ 0 9) (by kernel_rfl) rfl rfl ⟨(blk_cell BK326.out 0).trans rfl, (blk_cell BK326.out 1).trans rfl⟩ (fun hHeld => ?_); refine with_tabW spec_l1DrawRight.tab6 spec_l1DrawRight.bits6 (fun HT_ HW_ => ?_)
     generalize wr.drew = w12 at HO_327000 BK325 BK326 HI0 HK HB hHeld ⊢
     refine pure_ (i := 0) (N := some 16) (v := ?_) (a' := ?_) (tf_ 1 8) rfl rfl (any_of HT_.out (by kernel_rfl)) (fun _ _ _ h => h) (Or.inl ⟨by rfl, ?_⟩) ?_ ?_
     rotate_left
     ·intro w'
      go_simp
      with_reducible rfl
     rotate_left
     ·simp only [Act.put, List.setIfInBounds_toArray, List.set_cons_zero, List.set_cons_succ, i64_w, i32_w]
      rfl
     refine pure_ (i := 2) (N := some 18) (v := ?_) (a' := ?_) #[true, false, true, false, false, false, false, false, false] rfl rfl (any_of HT_.out (by kernel_rfl)) (fun _ _ _ h => h) (Or.inl ⟨by rfl, ?_⟩) ?_ ?_
     rotate_left
     ·intro w'
      go_simp
      with_reducible rfl
     rotate_left
     ·simp only [Act.put, List.setIfInBounds_toArray, List.set_cons_zero, List.set_cons_succ, i64_w, i32_w]
      rfl
     refine take_ (i := 1) (N := some 17) (v := ?_) (a' := ?_) (tf_ 3 6) rfl rfl (take_ofW HT_.out HW_.out (by kernel_rfl)) (fun _ _ _ h => h) (Or.inl ⟨by rfl, ?_⟩) hHeld ?_ ?_
     rotate_left
     ·rintro w' ⟨s0, s1⟩
      go_simp
      with_reducible rfl
     rotate_left
     ·simp only [Act.put, List.setIfInBounds_toArray, List.set_cons_zero, List.set_cons_succ, i64_w, i32_w]
      rfl
     refine one_ (i := 3) (N := some 19) (tf_ 4 5) rfl rfl (one_of HT_.out (by kernel_rfl)) (by decide) (fun K hK => ?_)
     refine goes_ Try.func97 (by kernel_rfl) rfl #[.pointer (some ⟨g, 0, none⟩), .int .i64 4] (by rfl) rfl rfl att11_0_1 ?_
     with_reducible refine (spec_l1Below.calls g s0_0 x1001_1 x1002_1 4 t330 t331 t332 w0 _ ?side1 ?side2 A10.out).mono ?_
     (case side1 => repeat (first | (with_reducible first | exact HI0.out | apply IsS170.alloc | apply IsS170.drewN | apply IsS170.drew | apply IsS170.set_1 | apply IsS170.set_2 | refine IsS170.far ?_ NB0_325.out _ | refine IsS170.far ?_ NB0_326.out _) | exact HI0.out))
     (case side2 => repeat (first | (with_reducible first | exact HB.out | apply below_alloc | apply pw_below_drewN | apply below_drew1 | refine below_set ?_ (IsS170.ge HI0.out) | refine below_set ?_ GE325.out | refine below_set ?_ GE326.out) | exact HB.out))
     rintro e w13 ⟨rfl, hi, hb, hk⟩
     refine ⟨_, rfl, ?_⟩
     have n0_ := Aside0.mk (Kd.R_mono (Kd.R_keep (IsS170.apart (show IsS170 w0 _ g s0_0 x1001_1 x1002_1 from by repeat (first | (with_reducible first | exact HI0.out | apply IsS170.alloc | apply IsS170.drewN | apply IsS170.drew | apply IsS170.set_1 | apply IsS170.set_2 | refine IsS170.far ?_ NB0_325.out _ | refine IsS170.far ?_ NB0_326.out _) | exact HI0.out)) att11_0_9 (by decide)) hk (fun _ h => h.2)) (fun _ h => h.1))
     have n1_ := Aside0.mk (KeepBut.blk hk (g' := gb325) (o := .cells #[.slice none 0 0, .slice none 0 0] 30 (0, 0)) att11_0_7 NB325_0.out (by simp))
     have n2_ := Aside0.mk (KeepBut.blk hk (g' := gb326) (o := .cells #[u327000, .slice none 0 0] 30 (0, 0)) att11_0_8 NB326_0.out (by simp))
     have n3_ := Aside0.mk (KeepBut.trans att11_0_2 hk (.inl rfl))
     have n4_ := Aside0.mk (hb)
     have n5_ := Aside0.mk (hi)
     clear HO_327000
     clear BK325
     clear BK326
     clear HK
     clear HB
     clear HI0
     have HO_327000 := n0_
     have BK325 := n1_
     have BK326 := n2_
     have HK := n3_
     have HB := n4_
     have HI0 := n5_
     clear n0_ n1_ n2_ n3_ n4_ n5_
     (try clear hb)
     (try clear hb2)
     (try clear hk)
     (try clear hi)
     refine hK.out _ _ ⟨(blk_cell BK326.out 0).trans rfl, (blk_cell BK326.out 1).trans rfl⟩ (fun hHeld => ?_)
     clear hK K
     refine norm_ (a' := ?_) ?_ ?_
     rotate_left
     ·show Act.put _ (some 19) _ = _
      simp only [Act.put, List.setIfInBounds_toArray, List.set_cons_zero, List.set_cons_succ, i64_w, i32_w]
      rfl
     refine pure_ (i := 4) (N := some 20) (v := ?_) (a' := ?_) (tf_ 5 4) rfl rfl (any_of HT_.out (by kernel_rfl)) (fun _ _ _ h => h) (Or.inl ⟨by rfl, ?_⟩) ?_ ?_
     rotate_left
     ·intro w'
      go_simp
      with_reducible rfl
     rotate_left
     ·simp only [Act.put, List.setIfInBounds_toArray, List.set_cons_zero, List.set_cons_succ, i64_w, i32_w]
      rfl
     refine one_ (i := 5) (N := some 21) (tf_ 6 3) rfl rfl (one_of HT_.out (by kernel_rfl)) (by decide) (fun K hK => ?_)
     refine value_ (w1 := ?_) (v := ?_) (by rfl) rfl ?_ ?_
     rotate_left 2
     ·go_simp
      constructor
      ·rfl
      ·rfl
     refine hK.out _ _ ⟨(blk_cell (blk_alloc BK326.out _) 0).trans rfl, (blk_cell (blk_alloc BK326.out _) 1).trans rfl⟩ (fun hHeld => ?_)
     clear hK K
     refine norm_ (a' := ?_) ?_ ?_
     rotate_left
     ·show Act.put _ (some 21) _ = _
      simp only [Act.put, List.setIfInBounds_toArray, List.set_cons_zero, List.set_cons_succ, i64_w, i32_w]
      rfl
     refine one_ (i := 6) (N := some 22) (tf_ 7 2) rfl rfl (one_of HT_.out (by kernel_rfl)) (by decide) (fun K hK => ?_)
     refine Kd.R_append_step (Kd.int .i64) w.heap.size (by rfl) (.tmp 17) (.tmp 21) 22 3 (.int .i64 0) 8 rfl Try.underlying22 info3 rfl (by decide) (by omega) u327000 x327000_1 (wrap64 (1 + t330)) [.int .i64 (wrap64 (1 + t330))] (fun _ => True) (fun _ => False) rfl rfl ?aP (fun _ hk => hk.elim) ?aF ?aO (Below.refl _ _) ?aS ?aL ?_
     (case aP => exact rfl)
     (case aF => exact (fun _ _ => trivial))
     (case aO => exact att11_0_9)
     (case aS => exact (keep_size (w := w) (g := g) (row := none) att11_0_2))
     (case aL => have := LMc11.out; omega)
     intro v334 w14 ho hb hg hat
     rw [← Ny333.out] at ho
     have n0_ := Aside0.mk (blk_grown (g := gb325) (o := .cells #[.slice none 0 0, .slice none 0 0] 30 (0, 0)) att11_0_7 hg (Kd.R_ne HO_327000.out BK325.out (by decide)))
     have n1_ := Aside0.mk (blk_grown (g := gb326) (o := .cells #[u327000, .slice none 0 0] 30 (0, 0)) att11_0_8 hg (Kd.R_ne HO_327000.out BK326.out (by decide)))
     have n2_ := Aside0.mk (IsS170.grown att11_0_5 hg (IsS170.own_ne HI0.out HO_327000.out (by decide)))
     have n3_ := Aside0.mk (below_weaken att11_0_6 HL.out hb)
     have n4_ := Aside0.mk (KeepBut.trans att11_0_2 (KeepBut.of_grown hg g) (Kd.R_base2 HO_327000.out))
     have n5_ := Aside0.mk (ho)
     clear BK325
     clear BK326
     clear HI0
     clear HB
     clear HK
     clear HO_327000
     have BK325 := n0_
     have BK326 := n1_
     have HI0 := n2_
     have HB := n3_
     have HK := n4_
     have HO335 := n5_
     clear n0_ n1_ n2_ n3_ n4_ n5_
     clear ho hb hg hat
     obtain ⟨Ao15, co15, eo15⟩ := Kd.R_slice HO335.out
     (first | subst eo15 | (injection eo15 with f1_ f2_ f3_; have f4_ := f1_.symm; have f5_ := f3_.symm; clear f1_ f2_ f3_; subst f4_; subst f5_))
     refine hK.out _ _ ⟨(blk_cell BK326.out 0).trans rfl, (blk_cell BK326.out 1).trans rfl⟩ (fun hHeld => ?_)
     clear hK K
     refine norm_ (a' := ?_) ?_ ?_
     rotate_left
     ·show Act.put _ (some 22) _ = _
      simp only [Act.put, List.setIfInBounds_toArray, List.set_cons_zero, List.set_cons_succ, i64_w, i32_w]
      rfl
     refine pure_ (i := 7) (N := some 23) (v := ?_) (a' := ?_) (tf_ 8 1) rfl rfl (any_of HT_.out (by kernel_rfl)) (fun _ _ _ h => h) (Or.inl ⟨by rfl, ?_⟩) ?_ ?_
     rotate_left
     ·intro w'
      go_simp
      with_reducible rfl
     rotate_left
     ·simp only [Act.put, List.setIfInBounds_toArray, List.set_cons_zero, List.set_cons_succ, i64_w, i32_w]
      rfl
     refine last_ (i := 8) (N := none) (tf_ 9 0) rfl rfl (one_of HT_.out (by kernel_rfl)) (by decide) (fun K hK => ?_)
     have hs16 : w14.cell? ⟨gb326, 0, none⟩ = some (u327000) := (blk_cell BK326.out 0).trans rfl
     have hfs16 := blk_frozen BK326.out 0
     have hns16_0 := NB325_326.out
     have hms16_0 := NB326_325.out
     refine skip_ (w1 := ?_) (by rfl) rfl ?_ ?_
     rotate_left
     ·go_simp
      rfl
     refine hK.out _ _ ?_
     clear hK K
     refine done_ (done_of HT_.out (by kernel_rfl)) ?_
     try go_wp2
     go_roundg k1
     case measure => have := HK1.out; omega
     case rel => exact ⟨(wrap64 (x5_1 + 1)), (t331), (t332), (y333), (.slice Ao15 y333.length co15), att11_0_14, H', ⟨by have := HK1.out; omega⟩, ⟨by (with_reducible repeat (first | apply Kd.R_alloc | apply Kd.R_drewN | apply Kd.R_drew)); exact Kd.R_mono (Kd.R_far (p := ⟨gb326, 0, none⟩) (Kd.R_types HO335.out BK326.out (by decide)) (fun _ hk => hk.2) (.slice Ao15 y333.length co15)) (fun _ hk => trivial)⟩, ⟨att11_0_13⟩, ⟨by (with_reducible repeat (first | refine blk_drewN ?_ _ | refine blk_drew ?_ | refine blk_alloc ?_ _)); refine blk_put (cs := #[u327000, .slice none 0 0]) ?_ 0 _ rfl; (with_reducible repeat (first | refine blk_drewN ?_ _ | refine blk_drew ?_ | refine blk_alloc ?_ _)); exact BK326.out⟩, ⟨att11_0_5⟩, ⟨att11_0_2⟩, ⟨att11_0_6⟩⟩
    ·rw [if_neg c11] at H
     exact absurd H (by simp)
   ·rw [if_neg c9] at H
    have c9b0 : decide (x5_1 < (wrap64 (1 + t327))) = false := decide_eq_false c9
    clear c9
    have H' := Aside0.mk H
    clear H
    go_wp2
    go_loopg [6] k1 (fun kq v6 w' => ∃ (x6_2 : Int) (x1001_2 : Int) (x1002_2 : Int) (x327001_2 : List (List (S37))) (u327001 : Value), v6 = .int .i64 x6_2 ∧ Aside0 (spec_l1DrawRight.l1 kq (wrap64 (1 + t327)) x6_2 s0_0 x1001_2 x1002_2 x327000_1 x327001_2 = some (r1, r2, r3, r4)) ∧ Aside0 (kq ≤ k1) ∧ Aside0 (Kd.R (Kd.int .i64) 3 w' w.heap.size (fun _ => True) u327000 x327000_1) ∧ Aside0 (Kd.S (Kd.slice 37 k37) 51 w' w.heap.size (fun _ => True) u327001 x327001_2) ∧ Aside0 (w'.heap[gb325]? = some (.cells #[(.slice none 0 0), (.slice none 0 0)] 30 (0, 0))) ∧ Aside0 (w'.heap[gb326]? = some (.cells #[u327000, u327001] 30 (0, 0))) ∧ Aside0 (IsS170 w0 w' g s0_0 x1001_2 x1002_2) ∧ Aside0 (KeepBut w w' g none) ∧ Aside0 (Below w0.heap.size w0 w'))
    case atStart => exact ⟨(0), (x1001_1), (x1002_1), (([] : List (List (S37)))), (.slice none 0 0), att11_0_14, H', ⟨Nat.le_refl _⟩, ⟨att11_0_9⟩, ⟨by first | exact Kd.S_nil _ _ _ _ _ | exact Kd.N_nil _ _ _ _ _ | exact Kd.V_nil _ _ _ _ _ | exact Kd.Q_nil _ _ _ _ _ | exact Kd.R_nil _ _ _ _ _⟩, ⟨att11_0_7⟩, ⟨att11_0_8⟩, ⟨att11_0_5⟩, ⟨att11_0_2⟩, ⟨att11_0_6⟩⟩
    case round =>
     clear H'
     try clear c1
     try clear p2
     try clear c5
     try clear c6
     try clear p6
     try clear c9
     try clear c9b0
     try clear c11
     try clear hcz7_0
     try clear hcz7_1
     try clear hfz7_0
     try clear hfz7_1
     try clear p2
     try clear p6
     obtain ⟨x6_2, x1001_2, x1002_2, x327001_2, u327001, rfl, HA, HK2, HO_327000, HO_327001, BK325, BK326, HI0, HK, HB⟩ := hrel
     cases gk with
     | zero => exact absurd HA.out (by simp [spec_l1DrawRight.l1])
     | succ k2 =>
      have H := HA.out
      clear HA
      simp only [spec_l1DrawRight.l1] at H
      replace H := Option.bind_eq_some_iff.mp H
      obtain ⟨⟨t336, t337, t338⟩, A170, H⟩ := H
      replace H : (if x6_2 < (wrap64 (1 + t336)) then ((spec_l1DrawBody.f k2 s0_0 t337 t338 (wrap64 (1 + t327))).bind fun bt339 => (if x327001_2.length < 5864062014805 then (spec_l1DrawRight.l1 k2 (wrap64 (1 + t327)) (wrap64 (x6_2 + 1)) s0_0 bt339.2.1 bt339.2.2 x327000_1 (x327001_2 ++ [bt339.1])) else (none))) else (some (x327000_1, x327001_2, t337, t338))) = some (r1, r2, r3, r4) := H
      have A17 := Aside0.mk A170
      clear A170
      by_cases c18 : x6_2 < (wrap64 (1 + t336))
      ·rw [if_pos c18] at H
       have c18b0 : decide (x6_2 < (wrap64 (1 + t336))) = true := decide_eq_true c18
       clear c18
       replace H := Option.bind_eq_some_iff.mp H
       obtain ⟨⟨t339, t342, t343⟩, A190, H⟩ := H
       replace H : (if x327001_2.length < 5864062014805 then (spec_l1DrawRight.l1 k2 (wrap64 (1 + t327)) (wrap64 (x6_2 + 1)) s0_0 t342 t343 x327000_1 (x327001_2 ++ [t339])) else (none)) = some (r1, r2, r3, r4) := H
       have A19 := Aside0.mk A190
       clear A190
       by_cases c20 : x327001_2.length < 5864062014805
       ·rw [if_pos c20] at H
        have LMc20 := Aside0.mk c20
        clear c20
        obtain ⟨y344, hy344⟩ : ∃ y_ : List (List (S37)), y_ = (x327001_2 ++ [t339]) := ⟨_, rfl⟩
        replace H : (spec_l1DrawRight.l1 k2 (wrap64 (1 + t327)) (wrap64 (x6_2 + 1)) s0_0 t342 t343 x327000_1 y344) = some (r1, r2, r3, r4) := by first | (rw [hy344]; with_reducible exact H) | (have H2_ := (Option.bind_some _ _).symm.trans H; rw [hy344]; with_reducible exact H2_) | (have H2_ := (Option.bind_some _ _).symm.trans H; with_reducible exact H2_) | with_reducible exact H | (rw [hy344]; exact H) | exact H
        have Ny344 := Aside0.mk hy344
        clear hy344
        have H' := Aside0.mk H
        clear H
        try go_wp2_with (first | ((with_reducible refine gate_callee (f := 97) rfl ?_); refine goesL_ (some 26) rfl rfl Try.func97 (by kernel_rfl) rfl #[.pointer (some ⟨g, 0, none⟩), .int .i64 4] rfl att11_0_1 ?_; (with_reducible refine (spec_l1Below.calls g s0_0 x1001_2 x1002_2 4 t336 t337 t338 w0 _ ?side1 ?side2 A17.out).mono ?_); (case side1 => repeat (first | (with_reducible first | exact HI0.out | apply IsS170.alloc | apply IsS170.drewN | apply IsS170.drew | apply IsS170.set_1 | apply IsS170.set_2 | refine IsS170.far ?_ NB0_325.out _ | refine IsS170.far ?_ NB0_326.out _) | exact HI0.out)); (case side2 => repeat (first | (with_reducible first | exact HB.out | apply below_alloc | apply pw_below_drewN | apply below_drew1 | refine below_set ?_ (IsS170.ge HI0.out) | refine below_set ?_ GE325.out | refine below_set ?_ GE326.out) | exact HB.out)); rintro e w21 ⟨rfl, hi, hb, hk⟩; refine ⟨_, rfl, ?_⟩; have n0_ := Aside0.mk (Kd.R_mono (Kd.R_keep (IsS170.apart (show IsS170 w0 _ g s0_0 x1001_2 x1002_2 from by repeat (first | (with_reducible first | exact HI0.out | apply IsS170.alloc | apply IsS170.drewN | apply IsS170.drew | apply IsS170.set_1 | apply IsS170.set_2 | refine IsS170.far ?_ NB0_325.out _ | refine IsS170.far ?_ NB0_326.out _) | exact HI0.out)) att11_0_9 (by decide)) hk (fun _ h => h.2)) (fun _ h => h.1)); have n1_ := Aside0.mk (Kd.S_mono (Kd.S_keep (IsS170.apartS (show IsS170 w0 _ g s0_0 x1001_2 x1002_2 from by repeat (first | (with_reducible first | exact HI0.out | apply IsS170.alloc | apply IsS170.drewN | apply IsS170.drew | apply IsS170.set_1 | apply IsS170.set_2 | refine IsS170.far ?_ NB0_325.out _ | refine IsS170.far ?_ NB0_326.out _) | exact HI0.out)) att11_0_12 (by decide)) hk (fun _ h => h.2)) (fun _ h => h.1)); have n2_ := Aside0.mk (KeepBut.blk hk (g' := gb325) (o := .cells #[.slice none 0 0, .slice none 0 0] 30 (0, 0)) att11_0_7 NB325_0.out (by simp)); have n3_ := Aside0.mk (KeepBut.blk hk (g' := gb326) (o := .cells #[u327000, u327001] 30 (0, 0)) att11_0_8 NB326_0.out (by simp)); have n4_ := Aside0.mk (KeepBut.trans att11_0_2 hk (.inl rfl)); have n5_ := Aside0.mk (hb); have n6_ := Aside0.mk (hi); clear HO_327000; clear HO_327001; clear BK325; clear BK326; clear HK; clear HB; clear HI0; have HO_327000 := n0_; have HO_327001 := n1_; have BK325 := n2_; have BK326 := n3_; have HK := n4_; have HB := n5_; have HI0 := n6_; clear n0_ n1_ n2_ n3_ n4_ n5_ n6_; (try clear hb); (try clear hb2); (try clear hk); (try clear hi)))
        have n0_ := Aside0.mk (Kd.R_drew HO_327000.out)
        have n1_ := Aside0.mk (Kd.S_drew HO_327001.out)
        have n2_ := Aside0.mk (blk_drew BK325.out)
        have n3_ := Aside0.mk (blk_drew BK326.out)
        have n4_ := Aside0.mk (IsS170.drew HI0.out)
        have n5_ := Aside0.mk (keep_drew HK.out)
        have n6_ := Aside0.mk (below_drew1 HB.out)
        clear HO_327000
        clear HO_327001
        clear BK325
        clear BK326
        clear HI0
        clear HK
        clear HB
        have HO_327000 := n0_
        have HO_327001 := n1_
        have BK325 := n2_
        have BK326 := n3_
        have HI0 := n4_
        have HK := n5_
        have HB := n6_
        clear n0_ n1_ n2_ n3_ n4_ n5_ n6_
        refine start_ (n := 9) (S := fun w' => w'.cell? ⟨gb326, 0, none⟩ = some (u327000) ∧ w'.cell? ⟨gb326, 1, none⟩ = some (u327001)) (ds := [8]) (tf_ 0 9) (by kernel_rfl) rfl rfl ⟨(blk_cell BK326.out 0).trans rfl, (blk_cell BK326.out 1).trans rfl⟩ (fun hHeld => ?_); refine with_tabW spec_l1DrawRight.tab10 spec_l1DrawRight.bits10 (fun HT_ HW_ => ?_)
        generalize w21.drew = w22 at HO_327000 HO_327001 BK325 BK326 HI0 HK HB hHeld ⊢
        refine pure_ (i := 0) (N := some 31) (v := ?_) (a' := ?_) (tf_ 1 8) rfl rfl (any_of HT_.out (by kernel_rfl)) (fun _ _ _ h => h) (Or.inl ⟨by rfl, ?_⟩) ?_ ?_
        rotate_left
        ·intro w'
         go_simp
         with_reducible rfl
        rotate_left
        ·simp only [Act.put, List.setIfInBounds_toArray, List.set_cons_zero, List.set_cons_succ, i64_w, i32_w]
         rfl
        refine pure_ (i := 2) (N := some 33) (v := ?_) (a' := ?_) #[true, false, true, false, false, false, false, false, false] rfl rfl (any_of HT_.out (by kernel_rfl)) (fun _ _ _ h => h) (Or.inl ⟨by rfl, ?_⟩) ?_ ?_
        rotate_left
        ·intro w'
         go_simp
         with_reducible rfl
        rotate_left
        ·simp only [Act.put, List.setIfInBounds_toArray, List.set_cons_zero, List.set_cons_succ, i64_w, i32_w]
         rfl
        refine pure_ (i := 3) (N := some 34) (v := ?_) (a' := ?_) #[true, false, true, true, false, false, false, false, false] rfl rfl (any_of HT_.out (by kernel_rfl)) (fun _ _ _ h => h) (Or.inl ⟨by rfl, ?_⟩) ?_ ?_
        rotate_left
        ·intro w'
         go_simp
         with_reducible rfl
        rotate_left
        ·simp only [Act.put, List.setIfInBounds_toArray, List.set_cons_zero, List.set_cons_succ, i64_w, i32_w]
         rfl
        refine take_ (i := 1) (N := some 32) (v := ?_) (a' := ?_) (tf_ 4 5) rfl rfl (take_ofW HT_.out HW_.out (by kernel_rfl)) (fun _ _ _ h => h) (Or.inl ⟨by rfl, ?_⟩) hHeld ?_ ?_
        rotate_left
        ·rintro w' ⟨s0, s1⟩
         go_simp
         with_reducible rfl
        rotate_left
        ·simp only [Act.put, List.setIfInBounds_toArray, List.set_cons_zero, List.set_cons_succ, i64_w, i32_w]
         rfl
        refine one_ (i := 4) (N := some 35) (tf_ 5 4) rfl rfl (one_of HT_.out (by kernel_rfl)) (by decide) (fun K hK => ?_)
        refine goes_ Try.func198 (by kernel_rfl) rfl #[.pointer (some ⟨g, 0, none⟩), .int .i64 (wrap64 (1 + t327))] (by rfl) rfl rfl att11_0_1 ?_
        with_reducible refine (spec_l1DrawBody.calls k2 g s0_0 t337 t338 (wrap64 (1 + t327)) t339 t342 t343 w0 _ ?side1 ?side2 A19.out).mono ?_
        (case side1 => repeat (first | (with_reducible first | exact HI0.out | apply IsS170.alloc | apply IsS170.drewN | apply IsS170.drew | apply IsS170.set_1 | apply IsS170.set_2 | refine IsS170.far ?_ NB0_325.out _ | refine IsS170.far ?_ NB0_326.out _) | exact HI0.out))
        (case side2 => repeat (first | (with_reducible first | exact HB.out | apply below_alloc | apply pw_below_drewN | apply below_drew1 | refine below_set ?_ (IsS170.ge HI0.out) | refine below_set ?_ GE325.out | refine below_set ?_ GE326.out) | exact HB.out))
        rintro e w23 ⟨v340, rfl, ho0, hi, hb, hk⟩
        refine ⟨_, rfl, ?_⟩
        have n0_ := Aside0.mk (Kd.R_mono (Kd.R_keep (IsS170.apart (show IsS170 w0 _ g s0_0 t337 t338 from by repeat (first | (with_reducible first | exact HI0.out | apply IsS170.alloc | apply IsS170.drewN | apply IsS170.drew | apply IsS170.set_1 | apply IsS170.set_2 | refine IsS170.far ?_ NB0_325.out _ | refine IsS170.far ?_ NB0_326.out _) | exact HI0.out)) att11_0_9 (by decide)) hk (fun _ h => h.2)) (fun _ h => h.1))
        have n1_ := Aside0.mk (Kd.S_mono (Kd.S_told (Kd.S_oldK (IsS170.apartS (show IsS170 w0 _ g s0_0 t337 t338 from by repeat (first | (with_reducible first | exact HI0.out | apply IsS170.alloc | apply IsS170.drewN | apply IsS170.drew | apply IsS170.set_1 | apply IsS170.set_2 | refine IsS170.far ?_ NB0_325.out _ | refine IsS170.far ?_ NB0_326.out _) | exact HI0.out)) att11_0_12 (by decide)) hk) (Kd.R_base ho0)) (fun _ h_ => h_.1))
        have n2_ := Aside0.mk (KeepBut.blk hk (g' := gb325) (o := .cells #[.slice none 0 0, .slice none 0 0] 30 (0, 0)) att11_0_7 NB325_0.out (by simp))
        have n3_ := Aside0.mk (KeepBut.blk hk (g' := gb326) (o := .cells #[u327000, u327001] 30 (0, 0)) att11_0_8 NB326_0.out (by simp))
        have n4_ := Aside0.mk (Kd.R_lower ho0 (keep_size (w := w) (g := g) (row := none) att11_0_2))
        have n5_ := Aside0.mk (KeepBut.trans att11_0_2 hk (.inl rfl))
        have n6_ := Aside0.mk (hb)
        have n7_ := Aside0.mk (hi)
        clear HO_327000
        clear HO_327001
        clear BK325
        clear BK326
        clear HK
        clear HB
        clear HI0
        have HO_327000 := n0_
        have HO_327001 := n1_
        have BK325 := n2_
        have BK326 := n3_
        have HO341 := n4_
        have HK := n5_
        have HB := n6_
        have HI0 := n7_
        clear n0_ n1_ n2_ n3_ n4_ n5_ n6_ n7_
        (try clear hb)
        (try clear hb2)
        (try clear hk)
        (try clear hi)
        (try clear ho0)
        obtain ⟨Ao25, co25, eo25⟩ := Kd.R_slice HO341.out
        (first | subst eo25 | (injection eo25 with f1_ f2_ f3_; have f4_ := f1_.symm; have f5_ := f3_.symm; clear f1_ f2_ f3_; subst f4_; subst f5_))
        refine hK.out _ _ ⟨(blk_cell BK326.out 0).trans rfl, (blk_cell BK326.out 1).trans rfl⟩ (fun hHeld => ?_)
        clear hK K
        refine norm_ (a' := ?_) ?_ ?_
        rotate_left
        ·show Act.put _ (some 35) _ = _
         simp only [Act.put, List.setIfInBounds_toArray, List.set_cons_zero, List.set_cons_succ, i64_w, i32_w]
         rfl
        refine one_ (i := 5) (N := some 36) (tf_ 6 3) rfl rfl (one_of HT_.out (by kernel_rfl)) (by decide) (fun K hK => ?_)
        refine value_ (w1 := ?_) (v := ?_) (by rfl) rfl ?_ ?_
        rotate_left 2
        ·go_simp
         constructor
         ·rfl
         ·rfl
        refine hK.out _ _ ⟨(blk_cell (blk_alloc BK326.out _) 0).trans rfl, (blk_cell (blk_alloc BK326.out _) 1).trans rfl⟩ (fun hHeld => ?_)
        clear hK K
        refine norm_ (a' := ?_) ?_ ?_
        rotate_left
        ·show Act.put _ (some 36) _ = _
         simp only [Act.put, List.setIfInBounds_toArray, List.set_cons_zero, List.set_cons_succ, i64_w, i32_w]
         rfl
        refine one_ (i := 6) (N := some 37) (tf_ 7 2) rfl rfl (one_of HT_.out (by kernel_rfl)) (by decide) (fun K hK => ?_)
        refine Kd.S_append_step (Kd.slice 37 k37) w.heap.size (by rfl) (.tmp 32) (.tmp 36) 28 51 (.slice none 0 0) 24 rfl Try.underlying28 info51 rfl (by decide) (by omega) u327001 x327001_2 t339 [.slice Ao25 t339.length co25] (fun _ => True) (fun k_ => some k_ = (.slice Ao25 t339.length co25 : Value).ownBlock) rfl rfl ?aP (fun k_ hk_ => ((Kd.R_mono (ok' := fun k_ => ((fun _ => True)) k_ ∧ some k_ ≠ (u327001 : Value).ownBlock) (Kd.R_apart' (HO341.out) (Kd.S_typed HO_327001.out) (by decide)) (fun k_ hk => ⟨trivial, hk.2⟩))).1 k_ hk_.symm) ?aF ?aO (Below.refl _ _) ?aS ?aL ?_
        (case aP => exact Kd.M_row (Kd.R_mono (Kd.R_tight rfl (Kd.R_mono (ok' := fun k_ => ((fun _ => True)) k_ ∧ some k_ ≠ (u327001 : Value).ownBlock) (Kd.R_apart' (HO341.out) (Kd.S_typed HO_327001.out) (by decide)) (fun k_ hk => ⟨trivial, hk.2⟩))) (fun _ h_ => h_)))
        (case aF => exact (fun _ _ => trivial))
        (case aO => exact (by (with_reducible repeat (first | apply Kd.S_alloc | apply Kd.S_drewN | apply Kd.S_drew)); exact Kd.S_mono HO_327001.out (fun k_ hk => ⟨trivial, fun e_ => hk.2 e_⟩)))
        (case aS => exact (keep_size (w := w) (g := g) (row := none) att11_0_2))
        (case aL => have := LMc20.out; omega)
        intro v345 w24 ho hb hg hat
        rw [← Ny344.out] at ho
        have n0_ := Aside0.mk (Kd.R_over' att11_0_9 (Kd.S_typed att11_0_12) (by decide) hg)
        have n1_ := Aside0.mk (blk_grown (g := gb325) (o := .cells #[.slice none 0 0, .slice none 0 0] 30 (0, 0)) att11_0_7 hg (Kd.S_ne HO_327001.out BK325.out (by decide)))
        have n2_ := Aside0.mk (blk_grown (g := gb326) (o := .cells #[u327000, u327001] 30 (0, 0)) att11_0_8 hg (Kd.S_ne HO_327001.out BK326.out (by decide)))
        have n3_ := Aside0.mk (IsS170.grown att11_0_5 hg (IsS170.own_neS HI0.out HO_327001.out (by decide)))
        have n4_ := Aside0.mk (below_weaken att11_0_6 HL.out hb)
        have n5_ := Aside0.mk (KeepBut.trans att11_0_2 (KeepBut.of_grown hg g) (Kd.S_base2 HO_327001.out))
        have n6_ := Aside0.mk (ho)
        clear HO_327000
        clear BK325
        clear BK326
        clear HI0
        clear HB
        clear HK
        clear HO_327001
        clear HO341
        have HO_327000 := n0_
        have BK325 := n1_
        have BK326 := n2_
        have HI0 := n3_
        have HB := n4_
        have HK := n5_
        have HO346 := n6_
        clear n0_ n1_ n2_ n3_ n4_ n5_ n6_
        clear ho hb hg hat
        obtain ⟨Ao26, co26, eo26⟩ := Kd.S_slice HO346.out
        (first | subst eo26 | (injection eo26 with f1_ f2_ f3_; have f4_ := f1_.symm; have f5_ := f3_.symm; clear f1_ f2_ f3_; subst f4_; subst f5_))
        refine hK.out _ _ ⟨(blk_cell BK326.out 0).trans rfl, (blk_cell BK326.out 1).trans rfl⟩ (fun hHeld => ?_)
        clear hK K
        refine norm_ (a' := ?_) ?_ ?_
        rotate_left
        ·show Act.put _ (some 37) _ = _
         simp only [Act.put, List.setIfInBounds_toArray, List.set_cons_zero, List.set_cons_succ, i64_w, i32_w]
         rfl
        refine pure_ (i := 7) (N := some 38) (v := ?_) (a' := ?_) (tf_ 8 1) rfl rfl (any_of HT_.out (by kernel_rfl)) (fun _ _ _ h => h) (Or.inl ⟨by rfl, ?_⟩) ?_ ?_
        rotate_left
        ·intro w'
         go_simp
         with_reducible rfl
        rotate_left
        ·simp only [Act.put, List.setIfInBounds_toArray, List.set_cons_zero, List.set_cons_succ, i64_w, i32_w]
         rfl
        refine last_ (i := 8) (N := none) (tf_ 9 0) rfl rfl (one_of HT_.out (by kernel_rfl)) (by decide) (fun K hK => ?_)
        have hs27 : w24.cell? ⟨gb326, 1, none⟩ = some (u327001) := (blk_cell BK326.out 1).trans rfl
        have hfs27 := blk_frozen BK326.out 1
        have hns27_0 := NB325_326.out
        have hms27_0 := NB326_325.out
        refine skip_ (w1 := ?_) (by rfl) rfl ?_ ?_
        rotate_left
        ·go_simp
         rfl
        refine hK.out _ _ ?_
        clear hK K
        refine done_ (done_of HT_.out (by kernel_rfl)) ?_
        try go_wp2
        go_roundg k2
        case measure => have := HK1.out; have := HK2.out; omega
        case rel => exact ⟨(wrap64 (x6_2 + 1)), (t342), (t343), (y344), (.slice Ao26 y344.length co26), att11_0_14, H', ⟨by have := HK1.out; have := HK2.out; omega⟩, ⟨by (with_reducible repeat (first | apply Kd.R_alloc | apply Kd.R_drewN | apply Kd.R_drew)); exact Kd.R_mono (Kd.R_far (p := ⟨gb326, 1, none⟩) (Kd.R_types HO_327000.out BK326.out (by decide)) (fun _ hk => hk.2) (.slice Ao26 y344.length co26)) (fun _ hk => trivial)⟩, ⟨by (with_reducible repeat (first | apply Kd.S_alloc | apply Kd.S_drewN | apply Kd.S_drew)); exact Kd.S_mono (Kd.S_far (p := ⟨gb326, 1, none⟩) (Kd.S_types HO346.out BK326.out (by decide)) (fun _ hk => hk.2) (.slice Ao26 y344.length co26)) (fun _ hk => trivial)⟩, ⟨att11_0_13⟩, ⟨by (with_reducible repeat (first | refine blk_drewN ?_ _ | refine blk_drew ?_ | refine blk_alloc ?_ _)); refine blk_put (cs := #[u327000, u327001]) ?_ 1 _ rfl; (with_reducible repeat (first | refine blk_drewN ?_ _ | refine blk_drew ?_ | refine blk_alloc ?_ _)); exact BK326.out⟩, ⟨att11_0_5⟩, ⟨att11_0_2⟩, ⟨att11_0_6⟩⟩
       ·rw [if_neg c20] at H
        exact absurd H (by simp)
      ·rw [if_neg c18] at H
       have c18b0 : decide (x6_2 < (wrap64 (1 + t336))) = false := decide_eq_false c18
       clear c18
       simp only [Option.some.injEq, Prod.mk.injEq] at H
       obtain ⟨rfl, rfl, rfl, rfl⟩ := H
       go_wp2_with (first | ((with_reducible refine gate_callee (f := 97) rfl ?_); refine goesL_ (some 26) rfl rfl Try.func97 (by kernel_rfl) rfl #[.pointer (some ⟨g, 0, none⟩), .int .i64 4] rfl att11_0_1 ?_; (with_reducible refine (spec_l1Below.calls g s0_0 x1001_2 x1002_2 4 t336 t337 t338 w0 _ ?side1 ?side2 A17.out).mono ?_); (case side1 => repeat (first | (with_reducible first | exact HI0.out | apply IsS170.alloc | apply IsS170.drewN | apply IsS170.drew | apply IsS170.set_1 | apply IsS170.set_2 | refine IsS170.far ?_ NB0_325.out _ | refine IsS170.far ?_ NB0_326.out _) | exact HI0.out)); (case side2 => repeat (first | (with_reducible first | exact HB.out | apply below_alloc | apply pw_below_drewN | apply below_drew1 | refine below_set ?_ (IsS170.ge HI0.out) | refine below_set ?_ GE325.out | refine below_set ?_ GE326.out) | exact HB.out)); rintro e w28 ⟨rfl, hi, hb, hk⟩; refine ⟨_, rfl, ?_⟩; have n0_ := Aside0.mk (Kd.R_mono (Kd.R_keep (IsS170.apart (show IsS170 w0 _ g s0_0 x1001_2 x1002_2 from by repeat (first | (with_reducible first | exact HI0.out | apply IsS170.alloc | apply IsS170.drewN | apply IsS170.drew | apply IsS170.set_1 | apply IsS170.set_2 | refine IsS170.far ?_ NB0_325.out _ | refine IsS170.far ?_ NB0_326.out _) | exact HI0.out)) att11_0_9 (by decide)) hk (fun _ h => h.2)) (fun _ h => h.1)); have n1_ := Aside0.mk (Kd.S_mono (Kd.S_keep (IsS170.apartS (show IsS170 w0 _ g s0_0 x1001_2 x1002_2 from by repeat (first | (with_reducible first | exact HI0.out | apply IsS170.alloc | apply IsS170.drewN | apply IsS170.drew | apply IsS170.set_1 | apply IsS170.set_2 | refine IsS170.far ?_ NB0_325.out _ | refine IsS170.far ?_ NB0_326.out _) | exact HI0.out)) att11_0_12 (by decide)) hk (fun _ h => h.2)) (fun _ h => h.1)); have n2_ := Aside0.mk (KeepBut.blk hk (g' := gb325) (o := .cells #[.slice none 0 0, .slice none 0 0] 30 (0, 0)) att11_0_7 NB325_0.out (by simp)); have n3_ := Aside0.mk (KeepBut.blk hk (g' := gb326) (o := .cells #[u327000, u327001] 30 (0, 0)) att11_0_8 NB326_0.out (by simp)); have n4_ := Aside0.mk (KeepBut.trans att11_0_2 hk (.inl rfl)); have n5_ := Aside0.mk (hb); have n6_ := Aside0.mk (hi); clear HO_327000; clear HO_327001; clear BK325; clear BK326; clear HK; clear HB; clear HI0; have HO_327000 := n0_; have HO_327001 := n1_; have BK325 := n2_; have BK326 := n3_; have HK := n4_; have HB := n5_; have HI0 := n6_; clear n0_ n1_ n2_ n3_ n4_ n5_ n6_; (try clear hb); (try clear hb2); (try clear hk); (try clear hi); have hnb29 := NB326_325.out; have hnc29 := NB325_326.out; have hnb30 := NB326_0.out; have hnc30 := NB0_326.out; have hcz31_0 : w28.cell? ⟨gb326, 0, none⟩ = some (u327000) := (blk_cell BK326.out 0).trans rfl; have hcz31_1 : w28.cell? ⟨gb326, 1, none⟩ = some (u327001) := (blk_cell BK326.out 1).trans rfl; have hfz31_0 := blk_frozen BK326.out 0; have hfz31_1 := blk_frozen BK326.out 1; obtain ⟨Ao32, co32, eo32⟩ := Kd.R_slice HO_327000.out; subst eo32; have hnb33 := NB325_0.out; have hnc33 := NB0_325.out; have hcz34_0 : w28.cell? ⟨gb325, 0, none⟩ = some (.slice none 0 0) := (blk_cell BK325.out 0).trans rfl; have hcz34_1 : w28.cell? ⟨gb325, 1, none⟩ = some (.slice none 0 0) := (blk_cell BK325.out 1).trans rfl; have hfz34_0 := blk_frozen BK325.out 0; have hfz34_1 := blk_frozen BK325.out 1; obtain ⟨Ao35, co35, eo35⟩ := Kd.S_slice HO_327001.out; subst eo35))
       refine bodyPost_ret (results_cell_row rfl _ _ gb325 30 #[.slice Ao32 x327000_1.length co32, .slice Ao35 x327001_2.length co35] (0, 0) _ rfl (by (with_reducible repeat (first | refine blk_drewN ?_ _ | refine blk_drew ?_ | refine blk_alloc ?_ _)); refine blk_put (cs := #[.slice Ao32 x327000_1.length co32, .slice none 0 0]) ?_ 1 _ rfl; (with_reducible repeat (first | refine blk_drewN ?_ _ | refine blk_drew ?_ | refine blk_alloc ?_ _)); refine blk_put (cs := #[.slice none 0 0, .slice none 0 0]) ?_ 0 _ rfl; (with_reducible repeat (first | refine blk_drewN ?_ _ | refine blk_drew ?_ | refine blk_alloc ?_ _)); exact BK325.out) Try.underlying30 rfl (by kernel_rfl)) rfl ?_
       exact ⟨_, _, by first | rfl | (simp [errW_none, errW_some] <;> rfl) | (simp [*, errW_none, errW_some] <;> rfl), by (with_reducible repeat (first | apply Kd.R_alloc | apply Kd.R_drewN | apply Kd.R_drew)); exact Kd.R_mono (Kd.R_far (p := ⟨gb325, 1, none⟩) (Kd.R_far (p := ⟨gb325, 0, none⟩) (Kd.R_types HO_327000.out BK325.out (by decide)) (fun _ hk => hk.2) (.slice Ao32 x327000_1.length co32)) (fun _ hk => hk.2) (.slice Ao35 x327001_2.length co35)) (fun _ hk => trivial), by (with_reducible repeat (first | apply Kd.S_alloc | apply Kd.S_drewN | apply Kd.S_drew)); exact Kd.S_mono (Kd.S_far (p := ⟨gb325, 1, none⟩) (Kd.S_far (p := ⟨gb325, 0, none⟩) (Kd.S_types HO_327001.out BK325.out (by decide)) (fun _ hk => hk.2) (.slice Ao32 x327000_1.length co32)) (fun _ hk => hk.2) (.slice Ao35 x327001_2.length co35)) (fun _ hk => trivial), by repeat (first | (with_reducible first | exact HI0.out | apply IsS170.alloc | apply IsS170.drewN | apply IsS170.drew | apply IsS170.set_1 | apply IsS170.set_2 | refine IsS170.far ?_ NB0_325.out _ | refine IsS170.far ?_ NB0_326.out _) | exact HI0.out), by repeat (first | (with_reducible first | exact HB.out | apply below_alloc | apply pw_below_drewN | apply below_drew1 | refine below_set ?_ (IsS170.ge HI0.out) | refine below_set ?_ GE325.out | refine below_set ?_ GE326.out) | exact HB.out), att11_0_2⟩

end Go.Proofs.Ytonlhgkpmjefkaa.XFnPlaces
