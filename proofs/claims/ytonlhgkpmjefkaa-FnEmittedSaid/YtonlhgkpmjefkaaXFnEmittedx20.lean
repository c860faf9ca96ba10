/- Each Go function that the law reaches as a Lean function, and that Go comes to just its answer; written by this session's xprint.py over the kit's printer. -/
import Derived.Test.YtonlhgkpmjefkaaXFnEmittedx0
import Derived.Test.YtonlhgkpmjefkaaXFnEmittedx3
import Derived.Test.YtonlhgkpmjefkaaXFnEmittedx5
import Derived.Test.YtonlhgkpmjefkaaXFnEmittedx8
import Derived.Test.YtonlhgkpmjefkaaXFnEmittedx11
import Derived.Test.YtonlhgkpmjefkaaXFnEmittedx14
import Derived.Test.YtonlhgkpmjefkaaXFnEmittedx15
import Derived.Test.YtonlhgkpmjefkaaXFnEmittedx18
import Derived.Test.YtonlhgkpmjefkaaXFnEmittedx19
namespace Go.Proofs.Ytonlhgkpmjefkaa.XFnEmitted
open Go.RowKit Go.Proofs.YtonlhgkpmjefkaaW.PrintWords Go.Proofs.YtonlhgkpmjefkaaW.PrintLast Go.Proofs.YtonlhgkpmjefkaaW.PrintMore
attribute [local go_sem] max2_int min2_int max_two min_two max_three min_three max_four min_four   -- for this text's walks alone
set_option linter.unusedVariables false
set_option linter.unusedSimpArgs false

theorem att21_0_0 {p : Prop} (h : p := by repeat (first | (with_reducible first | exact HB.out | apply below_alloc | apply pw_below_drewN | apply below_drew1 | refine below_set ?_ GE516.out | refine below_set ?_ GE528.out) | exact HB.out)) : p := h
theorem att21_0_2 {p : Prop} (h : p := by (with_reducible repeat (first | refine blk_drewN ?_ _ | refine blk_drew ?_ | refine blk_alloc ?_ _)); exact BK516.out) : p := h
theorem att21_0_4 {p : Prop} (h : p := by (with_reducible repeat (first | refine blk_drewN ?_ _ | refine blk_drew ?_ | refine blk_alloc ?_ _)); exact BK528.out) : p := h
theorem att21_0_5 {p : Prop} (h : p := by exact toR_ (HO_7.out)) : p := h
theorem att21_0_6 {p : Prop} (h : p := by exact toR_ (HO_6.out)) : p := h
theorem att21_0_7 {p : Prop} (h : p := by (with_reducible repeat (first | refine blk_drewN ?_ _ | refine blk_drew ?_ | refine blk_alloc ?_ _)); refine blk_put (cs := #[.int .i64 t523, .int .i64 t524, .int .i64 t525, .int .i64 t526, .int .i64 0]) ?_ 4 _ rfl; (with_reducible repeat (first | refine blk_drewN ?_ _ | refine blk_drew ?_ | refine blk_alloc ?_ _)); refine blk_put (cs := #[.int .i64 t523, .int .i64 t524, .int .i64 t525, .int .i64 0, .int .i64 0]) ?_ 3 _ rfl; (with_reducible repeat (first | refine blk_drewN ?_ _ | refine blk_drew ?_ | refine blk_alloc ?_ _)); refine blk_put (cs := #[.int .i64 t523, .int .i64 t524, .int .i64 0, .int .i64 0, .int .i64 0]) ?_ 2 _ rfl; (with_reducible repeat (first | refine blk_drewN ?_ _ | refine blk_drew ?_ | refine blk_alloc ?_ _)); refine blk_put (cs := #[.int .i64 t523, .int .i64 0, .int .i64 0, .int .i64 0, .int .i64 0]) ?_ 1 _ rfl; (with_reducible repeat (first | refine blk_drewN ?_ _ | refine blk_drew ?_ | refine blk_alloc ?_ _)); refine blk_put (cs := #[.int .i64 0, .int .i64 0, .int .i64 0, .int .i64 0, .int .i64 0]) ?_ 0 _ rfl; (with_reducible repeat (first | refine blk_drewN ?_ _ | refine blk_drew ?_ | refine blk_alloc ?_ _)); exact BK528.out) : p := h
theorem att21_0_8 {p : Prop} (h : p := by repeat (first | (with_reducible first | exact HB.out | apply below_alloc | apply pw_below_drewN | apply below_drew1 | refine below_set ?_ GE516.out) | exact HB.out)) : p := h
theorem att21_0_9 {p : Prop} (h : p := by (with_reducible repeat (first | refine blk_drewN ?_ _ | refine blk_drew ?_ | refine blk_alloc ?_ _)); refine blk_far ?_ NB516_528.out _; (with_reducible repeat (first | refine blk_drewN ?_ _ | refine blk_drew ?_ | refine blk_alloc ?_ _)); refine blk_far ?_ NB516_528.out _; (with_reducible repeat (first | refine blk_drewN ?_ _ | refine blk_drew ?_ | refine blk_alloc ?_ _)); refine blk_far ?_ NB516_528.out _; (with_reducible repeat (first | refine blk_drewN ?_ _ | refine blk_drew ?_ | refine blk_alloc ?_ _)); refine blk_far ?_ NB516_528.out _; (with_reducible repeat (first | refine blk_drewN ?_ _ | refine blk_drew ?_ | refine blk_alloc ?_ _)); refine blk_far ?_ NB516_528.out _; (with_reducible repeat (first | refine blk_drewN ?_ _ | refine blk_drew ?_ | refine blk_alloc ?_ _)); exact BK516.out) : p := h
theorem att21_0_11 {p : Prop} (h : p := by exact toR_ (Kd.R_mono (farR5_ (Kd.R_types HO522.out BK528.out (by decide))) (fun _ hk => hk.1.2))) : p := h
theorem att21_0_12 {p : Prop} (h : p := by exact toR_ (Kd.R_mono (farR5_ (Kd.R_types HO519.out BK528.out (by decide))) (fun _ hk => hk.1.2))) : p := h
theorem att21_0_13 {p : Prop} (h : p := by exact toR_ ((Kd.R_mono (farR5_ (Kd.R_types HO515.out BK516.out (by decide))) (fun _ h_ => h_.1)))) : p := h
theorem att21_0_14 {p : Prop} (h : p := by exact toR_ ((Kd.R_mono (farR5_ (Kd.R_types HO506.out BK516.out (by decide))) (fun _ h_ => h_.1)))) : p := h
theorem att21_0_15 {p : Prop} (h : p := by exact toR_ (Kd.R_mono (farR5_ (Kd.R_types HO515.out BK528.out (by decide))) (fun _ hk => hk.1))) : p := h
theorem att21_0_16 {p : Prop} (h : p := by exact toR_ (Kd.R_mono (farR5_ (Kd.R_types HO506.out BK528.out (by decide))) (fun _ hk => hk.1))) : p := h
theorem att21_0_17 {p : Prop} (h : p := by exact toR_ (HO519.out)) : p := h
theorem att21_0_18 {p : Prop} (h : p := by exact toR_ (HO515.out)) : p := h
theorem att21_0_19 {p : Prop} (h : p := by exact toR_ (HO506.out)) : p := h
theorem att21_0_21 {p : Prop} (h : p := by exact toR_ (HO522.out)) : p := h
theorem att21_0_22 {p : Prop} (h : p := by have := HJ7.out; have := HK2.out; omega) : p := h
theorem att21_0_23 {p : Prop} (h : p := by exact toR_ (Kd.R_mono HO519.out (fun _ hk => trivial))) : p := h
theorem att21_0_24 {p : Prop} (h : p := by exact toR_ (Kd.R_mono HO515.out (fun _ hk => trivial))) : p := h
/-! ### laws_FnEmitted: function 4 -/
mutual
def laws_FnEmitted.j0 : Nat → Int → List Int → List (S46) → Bool → Int → Int → Int → Int → Int → Option (Bool)
 | 0, _, _, _, _, _, _, _, _, _ => none
 | k + 1, x5, x6, x7, x43, x517000, x517001, x517002, x517003, x517004 => if x43 = true then (some false) else (if (x7.length : Int) = 0 then (some true) else ((impl_EmitSize.f x517000 x517001 x517002 x517003 x517004).bind fun t532 => (if (x7.length : Int) = t532 then (laws_FnEmitted.l0 k x5 x6 x7 0) else (some false))))
def laws_FnEmitted.l0 : Nat → Int → List Int → List (S46) → Int → Option (Bool)
 | 0, _, _, _, _ => none
 | k + 1, x5, x6, x7, x10 => if x10 < (x7.length : Int) then (if 0 ≤ x10 then ((impl_StepOk.f k ((rd_T46 x7 x10).f0) ((rd_T46 x7 x10).f1) ((rd_T46 x7 x10).f2) ((rd_T46 x7 x10).f3) ((rd_T46 x7 x10).f4) 800).bind fun t534 => (if t534 = true then (if ((rd_T46 x7 x10).f0) = 10 then (if ((rd_T46 x7 x10).f4) < x5 then ((laws_within.f k x6 ((rd_T46 x7 x10).f4)).bind fun t538 => (if t538 = true then (laws_FnEmitted.l0 k x5 x6 x7 (wrap64 (x10 + 1))) else (some false))) else (if ((rd_T46 x7 x10).f4) > (wrap64 (x5 + (x7.length : Int))) then ((laws_within.f k x6 ((rd_T46 x7 x10).f4)).bind fun t541 => (if t541 = true then (laws_FnEmitted.l0 k x5 x6 x7 (wrap64 (x10 + 1))) else (some false))) else (laws_FnEmitted.l0 k x5 x6 x7 (wrap64 (x10 + 1))))) else (if ((rd_T46 x7 x10).f0) = 11 then (if ((rd_T46 x7 x10).f4) < x5 then ((laws_within.f k x6 ((rd_T46 x7 x10).f4)).bind fun t545 => (if t545 = true then (laws_FnEmitted.l0 k x5 x6 x7 (wrap64 (x10 + 1))) else (some false))) else (if ((rd_T46 x7 x10).f4) > (wrap64 (x5 + (x7.length : Int))) then ((laws_within.f k x6 ((rd_T46 x7 x10).f4)).bind fun t548 => (if t548 = true then (laws_FnEmitted.l0 k x5 x6 x7 (wrap64 (x10 + 1))) else (some false))) else (laws_FnEmitted.l0 k x5 x6 x7 (wrap64 (x10 + 1))))) else (laws_FnEmitted.l0 k x5 x6 x7 (wrap64 (x10 + 1))))) else (some false))) else (none)) else (some true)
end
def laws_FnEmitted.f (k : Nat) (l0 : List Int) : Option (Bool) := (laws_big.f l0).bind fun t503 => (if t503 = true then (some true) else ((spec_DrawEmit.f k l0).bind fun bt504 => ((impl_Emit.f k bt504.1 bt504.2.1 bt504.2.2.1 bt504.2.2.2.1 bt504.2.2.2.2.1 bt504.2.2.2.2.2.1 bt504.2.2.2.2.2.2.1 bt504.2.2.2.2.2.2.2).bind fun t517 => ((spec_Emit.f k bt504.1 bt504.2.1 bt504.2.2.1 bt504.2.2.2.1 bt504.2.2.2.2.1 bt504.2.2.2.2.2.1 bt504.2.2.2.2.2.2.1 bt504.2.2.2.2.2.2.2).bind fun t520 => ((spec_DrawEmitSize.f k l0).bind fun bt523 => ((laws_sameSteps.f k t517 t520).bind fun t529 => (if t529 = true then ((impl_EmitSize.f bt523.1 bt523.2.1 bt523.2.2.1 bt523.2.2.2.1 bt523.2.2.2.2).bind fun t530 => ((spec_EmitSize.f bt523.1 bt523.2.1 bt523.2.2.1 bt523.2.2.2.1 bt523.2.2.2.2).bind fun t531 => (laws_FnEmitted.j0 k bt504.2.2.2.2.2.2.1 bt504.2.2.2.2.2.2.2 t517 (t530 != t531) bt504.2.1 bt504.2.2.1 bt504.2.2.2.1 bt504.2.2.2.2.1 bt504.2.2.2.2.2.1))) else (laws_FnEmitted.j0 k bt504.2.2.2.2.2.2.1 bt504.2.2.2.2.2.2.2 t517 true bt504.2.1 bt504.2.2.1 bt504.2.2.2.1 bt504.2.2.2.2.1 bt504.2.2.2.2.2.1))))))))
theorem laws_FnEmitted.mono_l : ∀ k, (∀ y0 y1 y2 y3 y4 y5 y6 y7 y8, LeO (laws_FnEmitted.j0 k y0 y1 y2 y3 y4 y5 y6 y7 y8) (laws_FnEmitted.j0 (k + 1) y0 y1 y2 y3 y4 y5 y6 y7 y8)) ∧ (∀ y0 y1 y2 y3, LeO (laws_FnEmitted.l0 k y0 y1 y2 y3) (laws_FnEmitted.l0 (k + 1) y0 y1 y2 y3))
 | 0 => ⟨fun _ _ _ _ _ _ _ _ _ r h => by simp [laws_FnEmitted.j0] at h, fun _ _ _ _ r h => by simp [laws_FnEmitted.l0] at h⟩
 | k + 1 => by
  obtain ⟨ih0, ih1⟩ := laws_FnEmitted.mono_l k
  refine ⟨?_, ?_⟩
  all_goals intros
  all_goals first | unfold laws_FnEmitted.j0 | unfold laws_FnEmitted.l0
  all_goals repeat' (with_reducible first | exact ih0 .. | exact ih1 .. | exact impl_Emit.mono .. | exact impl_StepOk.mono .. | exact laws_sameSteps.mono .. | exact laws_within.mono .. | exact spec_DrawEmit.mono _ _ | exact spec_DrawEmitSize.mono _ _ | exact spec_Emit.mono .. | exact LeO.refl _ | exact LeO.none _ | refine LeO.ite ?_ ?_ | refine LeO.bind ?_ (fun _ => ?_))
theorem laws_FnEmitted.mono : ∀ a0 k, LeO (laws_FnEmitted.f k a0) (laws_FnEmitted.f (k + 1) a0) := by
 intro a0 k
 obtain ⟨ih0, ih1⟩ := laws_FnEmitted.mono_l k
 unfold laws_FnEmitted.f
 repeat' (with_reducible first | exact ih0 .. | exact ih1 .. | exact impl_Emit.mono .. | exact impl_StepOk.mono .. | exact laws_sameSteps.mono .. | exact laws_within.mono .. | exact spec_DrawEmit.mono _ _ | exact spec_DrawEmitSize.mono _ _ | exact spec_Emit.mono .. | exact LeO.refl _ | exact LeO.none _ | refine LeO.ite ?_ ?_ | refine LeO.bind ?_ (fun _ => ?_))
def laws_FnEmitted.T7 : Bool × List (List Nat × List Nat) := (true, [([], []), ([], []), ([0, 1], [0, 1]), ([2], [2]), ([3, 2], [3]), ([4], [4]), ([5, 4, 4], [4, 5]), ([4], [4]), ([7, 6, 4], [4, 7]), ([6, 8, 4], [4, 6, 8]), ([4, 9], [4, 9])])
def laws_FnEmitted.B7 : List Nat := [0, 0, 3, 7, 15, 31, 63, 31, 255, 511, 1023]
theorem laws_FnEmitted.tab7 : rtab .any (opsOf Try.f4 7) = laws_FnEmitted.T7 := by kernel_rfl
theorem laws_FnEmitted.bits7 : waitsOk laws_FnEmitted.T7.2 laws_FnEmitted.B7 = true := by kernel_rfl
set_option maxHeartbeats 80000000 in
set_option maxRecDepth 100000 in
theorem laws_FnEmitted.calls (k : Nat) (A0 : Option Addr) (c0 : Nat) (l0 : List Int) (r : Bool) (w : World) (hr0 : Kd.C (Kd.int .u8) w A0 l0.length l0) (hc0 : l0.length ≤ c0) (h : laws_FnEmitted.f k l0 = some r) :
  Calls Try.prog 4 #[.slice A0 l0.length c0] w fun e w' => e = .returned (.bool r) ∧ Below w.heap.size w w' := by
 have hu37 := Try.underlying37
 have hu46 := Try.underlying46
 have HR0 := Aside0.mk hr0
 have HC0 := Aside0.mk hc0
 clear hr0 hc0
 have HB := Aside0.mk (Below.refl w.heap.size w)
 have H : ((laws_big.f l0).bind fun t503 => (if t503 = true then (some true) else ((spec_DrawEmit.f k l0).bind fun bt504 => ((impl_Emit.f k bt504.1 bt504.2.1 bt504.2.2.1 bt504.2.2.2.1 bt504.2.2.2.2.1 bt504.2.2.2.2.2.1 bt504.2.2.2.2.2.2.1 bt504.2.2.2.2.2.2.2).bind fun t517 => ((spec_Emit.f k bt504.1 bt504.2.1 bt504.2.2.1 bt504.2.2.2.1 bt504.2.2.2.2.1 bt504.2.2.2.2.2.1 bt504.2.2.2.2.2.2.1 bt504.2.2.2.2.2.2.2).bind fun t520 => ((spec_DrawEmitSize.f k l0).bind fun bt523 => ((laws_sameSteps.f k t517 t520).bind fun t529 => (if t529 = true then ((impl_EmitSize.f bt523.1 bt523.2.1 bt523.2.2.1 bt523.2.2.2.1 bt523.2.2.2.2).bind fun t530 => ((spec_EmitSize.f bt523.1 bt523.2.1 bt523.2.2.1 bt523.2.2.2.1 bt523.2.2.2.2).bind fun t531 => (laws_FnEmitted.j0 k bt504.2.2.2.2.2.2.1 bt504.2.2.2.2.2.2.2 t517 (t530 != t531) bt504.2.1 bt504.2.2.1 bt504.2.2.2.1 bt504.2.2.2.2.1 bt504.2.2.2.2.2.1))) else (laws_FnEmitted.j0 k bt504.2.2.2.2.2.2.1 bt504.2.2.2.2.2.2.2 t517 true bt504.2.1 bt504.2.2.1 bt504.2.2.2.1 bt504.2.2.2.2.1 bt504.2.2.2.2.2.1))))))))) = some r := h
 clear h
 replace H := Option.bind_eq_some_iff.mp H
 obtain ⟨t503, A20, H⟩ := H
 (try dsimp only at H)
 have A2 := Aside0.mk A20
 clear A20
 by_cases c3 : t503 = true
 ·subst c3
  rw [if_pos rfl] at H
  obtain rfl := Option.some.inj H
  go_enter Try.func4, Try.ntmps4
  go_wp2_with (first | ((with_reducible refine gate_callee (f := 20) rfl ?_); refine goesL_ (some 13) rfl rfl Try.func20 (by kernel_rfl) rfl #[.slice A0 l0.length c0] rfl atgM_ ?_; (with_reducible refine (laws_big.calls _ _ l0 true _ ?side1 ?side2 A2.out).mono ?_); (case side1 => repeat (first | exact HR0.out | (with_reducible refine Kd.C_alloc ?_ _) | (with_reducible refine Kd.C_drewN ?_ _) | (with_reducible refine Kd.C_drew ?_))); (case side2 => exact HC0.out); rintro e w' ⟨rfl, ⟨nd, rfl⟩⟩; refine ⟨_, rfl, ?_⟩))
  go_ret
  exact ⟨retT_, atgB_⟩
 ·replace c3 := Bool.eq_false_iff.mpr c3
  subst c3
  rw [if_neg (show ¬ (false = true) by decide)] at H
  replace H := Option.bind_eq_some_iff.mp H
  obtain ⟨⟨t504, t507, t508, t509, t510, t511, t512, t513⟩, A40, H⟩ := H
  (try dsimp only at H)
  have A4 := Aside0.mk A40
  clear A40
  replace H := Option.bind_eq_some_iff.mp H
  obtain ⟨t517, A50, H⟩ := H
  (try dsimp only at H)
  have A5 := Aside0.mk A50
  clear A50
  replace H := Option.bind_eq_some_iff.mp H
  obtain ⟨t520, A60, H⟩ := H
  (try dsimp only at H)
  have A6 := Aside0.mk A60
  clear A60
  replace H := Option.bind_eq_some_iff.mp H
  obtain ⟨⟨t523, t524, t525, t526, t527⟩, A70, H⟩ := H
  (try dsimp only at H)
  have A7 := Aside0.mk A70
  clear A70
  have HC8 := Aside0.mk H
  clear H
  go_enter Try.func4, Try.ntmps4
  go_upto_region 7 with (first | ((with_reducible refine gate_callee (f := 20) rfl ?_); refine goesL_ (some 13) rfl rfl Try.func20 (by kernel_rfl) rfl #[.slice A0 l0.length c0] rfl atgM_ ?_; (with_reducible refine (laws_big.calls _ _ l0 false _ ?side1 ?side2 A2.out).mono ?_); (case side1 => repeat (first | exact HR0.out | (with_reducible refine Kd.C_alloc ?_ _) | (with_reducible refine Kd.C_drewN ?_ _) | (with_reducible refine Kd.C_drew ?_))); (case side2 => exact HC0.out); rintro e w' ⟨rfl, ⟨nd, rfl⟩⟩; refine ⟨_, rfl, ?_⟩) | ((with_reducible refine gate_callee (f := 21) rfl ?_); refine goesL_ (some 16) rfl rfl Try.func21 (by kernel_rfl) rfl #[.slice A0 l0.length c0] rfl atgM_ ?_; (with_reducible refine (spec_DrawEmit.calls k _ _ l0 t504 t507 t508 t509 t510 t511 t512 t513 _ ?side1 ?side2 A4.out).mono ?_); (case side1 => repeat (first | exact HR0.out | (with_reducible refine Kd.C_alloc ?_ _) | (with_reducible refine Kd.C_drewN ?_ _) | (with_reducible refine Kd.C_drew ?_))); (case side2 => exact HC0.out); rintro e w9 ⟨v505, v514, rfl, ho0, ho1, hb⟩; refine ⟨_, rfl, ?_⟩; refine swap3_ (Kd.R_lower ho0 (below_size atgB_)) (Kd.R_lower ho1 (below_size atgB_)) (below_step atgB_ hb) ?_; clear HB; intro HO506 HO515 HB; (try clear hb); (try clear hb2); (try clear hk); (try clear hi); (try clear ho0); (try clear ho1)) | ((with_reducible refine gate_dst (N := 4) rfl ?_); (try (refine gate_guard (by rfl) ?_; dsimp only)); refine box_event ?hg (N := 4) ?hd (cs := #[.int .i64 0, .int .i64 0, .int .i64 0, .int .i64 0, .int .i64 0]) (t := 37) ?hr ?_; (case hd => rfl); (case hg => rfl); (case hr => first | (go_simp; done) | (go_simp; rfl)); intro gb516 hg w10 hbox hb; refine swap6_ (Kd.R_below att21_0_19 hb) (Kd.R_below att21_0_18 hb) (below_step atgB_ hb) (hbox) ((by rw [hg]; exact (below_size atgB_) : w.heap.size ≤ gb516)) ((by rw [hg]; exact (below_size atgB_) : w.heap.size ≤ gb516)) ?_; clear HO506 HO515 HB; intro HO506 HO515 HB BK516 GW516 GE516; clear hb hbox hg; obtain ⟨hcz11_0, hcz11_1, hcz11_2, hcz11_3, hcz11_4, hfz11_0, hfz11_1, hfz11_2, hfz11_3, hfz11_4⟩ := blkB5_ BK516; obtain ⟨Ao12, co12, eo12⟩ := Kd.R_slice HO506.out; subst eo12; obtain ⟨Ao13, co13, eo13⟩ := Kd.R_slice HO515.out; subst eo13) | ((with_reducible refine gate_callee (f := 22) rfl ?_); refine goesL_ (some 25) rfl rfl Try.func22 (by kernel_rfl) rfl #[.slice Ao12 t504.length co12, .agg #[.int .i64 t507, .int .i64 t508, .int .i64 t509, .int .i64 t510, .int .i64 t511], .int .i64 t512, .slice Ao13 t513.length co13] rfl atgM_ ?_; (with_reducible refine (impl_Emit.calls k _ _ t504 t507 t508 t509 t510 t511 t512 _ _ t513 t517 _ ?side1 ?side2 ?side3 ?side4 A5.out).mono ?_); (case side1 => refine (Kd.R_reads' (e := 3) (base := w.heap.size) (ok := fun k_ => some k_ ≠ (.slice Ao13 t513.length co13 : Value).ownBlock) (n := t504.length) (c := co12) ?_).2.2; exact att21_0_14); (case side2 => exact (Kd.R_reads' HO506.out).2.1); (case side3 => refine (Kd.R_reads' (e := 3) (base := w.heap.size) (ok := fun k_ => some k_ ≠ (.slice Ao12 t504.length co12 : Value).ownBlock) (n := t513.length) (c := co13) ?_).2.2; exact att21_0_13); (case side4 => exact (Kd.R_reads' HO515.out).2.1); rintro e w14 ⟨v518, rfl, ho0, hb⟩; refine ⟨_, rfl, ?_⟩; refine swap5_ (Kd.R_below att21_0_14 hb) (Kd.R_below att21_0_13 hb) (Kd.R_lower ho0 (below_size att21_0_8)) (blk_below (g := gb516) (o := .cells #[.int .i64 t507, .int .i64 t508, .int .i64 t509, .int .i64 t510, .int .i64 t511] 37 (0, 0)) (by (with_reducible repeat (first | refine blk_drewN ?_ _ | refine blk_drew ?_ | refine blk_alloc ?_ _)); refine blk_put (cs := #[.int .i64 t507, .int .i64 t508, .int .i64 t509, .int .i64 t510, .int .i64 0]) ?_ 4 _ rfl; (with_reducible repeat (first | refine blk_drewN ?_ _ | refine blk_drew ?_ | refine blk_alloc ?_ _)); refine blk_put (cs := #[.int .i64 t507, .int .i64 t508, .int .i64 t509, .int .i64 0, .int .i64 0]) ?_ 3 _ rfl; (with_reducible repeat (first | refine blk_drewN ?_ _ | refine blk_drew ?_ | refine blk_alloc ?_ _)); refine blk_put (cs := #[.int .i64 t507, .int .i64 t508, .int .i64 0, .int .i64 0, .int .i64 0]) ?_ 2 _ rfl; (with_reducible repeat (first | refine blk_drewN ?_ _ | refine blk_drew ?_ | refine blk_alloc ?_ _)); refine blk_put (cs := #[.int .i64 t507, .int .i64 0, .int .i64 0, .int .i64 0, .int .i64 0]) ?_ 1 _ rfl; (with_reducible repeat (first | refine blk_drewN ?_ _ | refine blk_drew ?_ | refine blk_alloc ?_ _)); refine blk_put (cs := #[.int .i64 0, .int .i64 0, .int .i64 0, .int .i64 0, .int .i64 0]) ?_ 0 _ rfl; (with_reducible repeat (first | refine blk_drewN ?_ _ | refine blk_drew ?_ | refine blk_alloc ?_ _)); exact BK516.out) hb) (below_step att21_0_8 hb) ?_; clear HO506 HO515 BK516 HB; intro HO506 HO515 HO519 BK516 HB; (try clear hb); (try clear hb2); (try clear hk); (try clear hi); (try clear ho0); obtain ⟨hcz15_0, hcz15_1, hcz15_2, hcz15_3, hcz15_4, hfz15_0, hfz15_1, hfz15_2, hfz15_3, hfz15_4⟩ := blkB5_ BK516) | ((with_reducible refine gate_callee (f := 23) rfl ?_); refine goesL_ (some 30) rfl rfl Try.func23 (by kernel_rfl) rfl #[.slice Ao12 t504.length co12, .agg #[.int .i64 t507, .int .i64 t508, .int .i64 t509, .int .i64 t510, .int .i64 t511], .int .i64 t512, .slice Ao13 t513.length co13] rfl atgM_ ?_; (with_reducible refine (spec_Emit.calls k _ _ t504 t507 t508 t509 t510 t511 t512 _ _ t513 t520 _ ?side1 ?side2 ?side3 ?side4 A6.out).mono ?_); (case side1 => repeat (first | exact (Kd.R_reads' HO506.out).2.2 | (with_reducible refine Kd.C_alloc ?_ _) | (with_reducible refine Kd.C_drewN ?_ _) | (with_reducible refine Kd.C_drew ?_))); (case side2 => exact (Kd.R_reads' HO506.out).2.1); (case side3 => repeat (first | exact (Kd.R_reads' HO515.out).2.2 | (with_reducible refine Kd.C_alloc ?_ _) | (with_reducible refine Kd.C_drewN ?_ _) | (with_reducible refine Kd.C_drew ?_))); (case side4 => exact (Kd.R_reads' HO515.out).2.1); rintro e w16 ⟨v521, rfl, ho0, hb⟩; refine ⟨_, rfl, ?_⟩; refine swap6_ (Kd.R_below att21_0_19 hb) (Kd.R_below att21_0_18 hb) (Kd.R_elder' att21_0_17 (Kd.R_base ho0) hb) (Kd.R_lower (Kd.R_new' ho0 (Kd.R_lt att21_0_17)) (below_size att21_0_8)) (blk_below (g := gb516) (o := .cells #[.int .i64 t507, .int .i64 t508, .int .i64 t509, .int .i64 t510, .int .i64 t511] 37 (0, 0)) att21_0_2 hb) (below_step att21_0_8 hb) ?_; clear HO506 HO515 HO519 BK516 HB; intro HO506 HO515 HO519 HO522 BK516 HB; (try clear hb); (try clear hb2); (try clear hk); (try clear hi); (try clear ho0)) | ((with_reducible refine gate_callee (f := 24) rfl ?_); refine goesL_ (some 32) rfl rfl Try.func24 (by kernel_rfl) rfl #[.slice A0 l0.length c0] rfl atgM_ ?_; (with_reducible refine (spec_DrawEmitSize.calls k _ _ l0 t523 t524 t525 t526 t527 _ ?side1 ?side2 A7.out).mono ?_); (case side1 => repeat (first | exact (Kd.C_below HR0.out HB.out) | (with_reducible refine Kd.C_alloc ?_ _) | (with_reducible refine Kd.C_drewN ?_ _) | (with_reducible refine Kd.C_drew ?_))); (case side2 => exact HC0.out); rintro e w17 ⟨rfl, hb⟩; refine ⟨_, rfl, ?_⟩; refine swap6_ (Kd.R_below att21_0_19 hb) (Kd.R_below att21_0_18 hb) (Kd.R_below att21_0_17 hb) (Kd.R_below att21_0_21 hb) (blk_below (g := gb516) (o := .cells #[.int .i64 t507, .int .i64 t508, .int .i64 t509, .int .i64 t510, .int .i64 t511] 37 (0, 0)) att21_0_2 hb) (below_step att21_0_8 hb) ?_; clear HO506 HO515 HO519 HO522 BK516 HB; intro HO506 HO515 HO519 HO522 BK516 HB; (try clear hb); (try clear hb2); (try clear hk); (try clear hi)) | ((with_reducible refine gate_dst (N := 9) rfl ?_); (try (refine gate_guard (by rfl) ?_; dsimp only)); refine box_event ?hg (N := 9) ?hd (cs := #[.int .i64 0, .int .i64 0, .int .i64 0, .int .i64 0, .int .i64 0]) (t := 37) ?hr ?_; (case hd => rfl); (case hg => rfl); (case hr => first | (go_simp; done) | (go_simp; rfl)); intro gb528 hg w18 hbox hb; refine swap11_ (Kd.R_below att21_0_19 hb) (Kd.R_below att21_0_18 hb) (Kd.R_below att21_0_17 hb) (Kd.R_below att21_0_21 hb) (blk_below (g := gb516) (o := .cells #[.int .i64 t507, .int .i64 t508, .int .i64 t509, .int .i64 t510, .int .i64 t511] 37 (0, 0)) att21_0_2 hb) (below_step att21_0_8 hb) (hbox) ((by rw [hg]; exact (below_size att21_0_8) : w.heap.size ≤ gb528)) ((by rw [hg]; exact (below_size att21_0_8) : w.heap.size ≤ gb528)) ((by rw [hg]; exact Nat.ne_of_lt (blk_lt (g := gb516) (o := .cells #[.int .i64 t507, .int .i64 t508, .int .i64 t509, .int .i64 t510, .int .i64 t511] 37 (0, 0)) att21_0_2) : gb516 ≠ gb528)) ((by rw [hg]; exact Nat.ne_of_gt (blk_lt (g := gb516) (o := .cells #[.int .i64 t507, .int .i64 t508, .int .i64 t509, .int .i64 t510, .int .i64 t511] 37 (0, 0)) att21_0_2) : gb528 ≠ gb516)) ?_; clear HO506 HO515 HO519 HO522 BK516 HB; intro HO506 HO515 HO519 HO522 BK516 HB BK528 GW528 GE528 NB516_528 NB528_516; clear hb hbox hg; have hnb19 := NB528_516.out; have hnc19 := NB516_528.out; obtain ⟨hcz20_0, hcz20_1, hcz20_2, hcz20_3, hcz20_4, hfz20_0, hfz20_1, hfz20_2, hfz20_3, hfz20_4⟩ := blkB5_ BK528))
  (try simp only [Act.put, List.setIfInBounds_toArray, List.set_cons_zero, List.set_cons_succ])
  go_cut [43] (fun v43 wc => ∃ (kq : Nat) (x43_7 : Bool), v43 = .bool x43_7 ∧ Aside0 (laws_FnEmitted.j0 kq t512 t513 t517 x43_7 t507 t508 t509 t510 t511 = some r) ∧ Aside0 (kq ≤ k) ∧ Aside0 (Kd.R (Kd.int .i64) 3 wc w.heap.size (fun _ => True) (.slice Ao13 t513.length co13) t513) ∧ Aside0 (Kd.R k46 46 wc w.heap.size (fun _ => True) v518 t517) ∧ Aside0 (wc.heap[gb516]? = some (.cells #[.int .i64 t507, .int .i64 t508, .int .i64 t509, .int .i64 t510, .int .i64 t511] 37 (0, 0))) ∧ Aside0 (wc.heap[gb528]? = some (.cells #[.int .i64 t523, .int .i64 t524, .int .i64 t525, .int .i64 t526, .int .i64 t527] 37 (0, 0))) ∧ Aside0 (Below w.heap.size w wc))
  case first =>
   have H := HC8.out
   clear HC8
   replace H := Option.bind_eq_some_iff.mp H
   obtain ⟨t529, A210, H⟩ := H
   (try dsimp only at H)
   have A21 := Aside0.mk A210
   clear A210
   by_cases c22 : t529 = true
   ·subst c22
    rw [if_pos rfl] at H
    replace H := Option.bind_eq_some_iff.mp H
    obtain ⟨t530, A230, H⟩ := H
    (try dsimp only at H)
    have A23 := Aside0.mk A230
    clear A230
    replace H := Option.bind_eq_some_iff.mp H
    obtain ⟨t531, A240, H⟩ := H
    (try dsimp only at H)
    have A24 := Aside0.mk A240
    clear A240
    have H' := Aside0.mk H
    clear H
    try go_wp2
    have n0_ : Aside0 (Kd.R (Kd.int .i64) 3 (((((w18.setCell ⟨gb528, 0, none⟩ (.int .i64 t523)).setCell ⟨gb528, 1, none⟩ (.int .i64 t524)).setCell ⟨gb528, 2, none⟩ (.int .i64 t525)).setCell ⟨gb528, 3, none⟩ (.int .i64 t526)).setCell ⟨gb528, 4, none⟩ (.int .i64 t527)) w.heap.size (fun k_ => some k_ ≠ (.slice Ao13 t513.length co13 : Value).ownBlock) (.slice Ao12 t504.length co12) t504) := ⟨att21_0_16⟩
    have n1_ : Aside0 (Kd.R (Kd.int .i64) 3 (((((w18.setCell ⟨gb528, 0, none⟩ (.int .i64 t523)).setCell ⟨gb528, 1, none⟩ (.int .i64 t524)).setCell ⟨gb528, 2, none⟩ (.int .i64 t525)).setCell ⟨gb528, 3, none⟩ (.int .i64 t526)).setCell ⟨gb528, 4, none⟩ (.int .i64 t527)) w.heap.size (fun k_ => some k_ ≠ (.slice Ao12 t504.length co12 : Value).ownBlock) (.slice Ao13 t513.length co13) t513) := ⟨att21_0_15⟩
    have n2_ : Aside0 (Kd.R k46 46 (((((w18.setCell ⟨gb528, 0, none⟩ (.int .i64 t523)).setCell ⟨gb528, 1, none⟩ (.int .i64 t524)).setCell ⟨gb528, 2, none⟩ (.int .i64 t525)).setCell ⟨gb528, 3, none⟩ (.int .i64 t526)).setCell ⟨gb528, 4, none⟩ (.int .i64 t527)) w.heap.size (fun k_ => some k_ ≠ (v521 : Value).ownBlock) v518 t517) := ⟨att21_0_12⟩
    have n3_ : Aside0 (Kd.R k46 46 (((((w18.setCell ⟨gb528, 0, none⟩ (.int .i64 t523)).setCell ⟨gb528, 1, none⟩ (.int .i64 t524)).setCell ⟨gb528, 2, none⟩ (.int .i64 t525)).setCell ⟨gb528, 3, none⟩ (.int .i64 t526)).setCell ⟨gb528, 4, none⟩ (.int .i64 t527)) w.heap.size (fun k_ => some k_ ≠ (v518 : Value).ownBlock) v521 t520) := ⟨att21_0_11⟩
    have n4_ : Aside0 ((((((w18.setCell ⟨gb528, 0, none⟩ (.int .i64 t523)).setCell ⟨gb528, 1, none⟩ (.int .i64 t524)).setCell ⟨gb528, 2, none⟩ (.int .i64 t525)).setCell ⟨gb528, 3, none⟩ (.int .i64 t526)).setCell ⟨gb528, 4, none⟩ (.int .i64 t527)).heap[gb516]? = some (.cells #[.int .i64 t507, .int .i64 t508, .int .i64 t509, .int .i64 t510, .int .i64 t511] 37 (0, 0))) := ⟨att21_0_9⟩
    have n5_ : Aside0 ((((((w18.setCell ⟨gb528, 0, none⟩ (.int .i64 t523)).setCell ⟨gb528, 1, none⟩ (.int .i64 t524)).setCell ⟨gb528, 2, none⟩ (.int .i64 t525)).setCell ⟨gb528, 3, none⟩ (.int .i64 t526)).setCell ⟨gb528, 4, none⟩ (.int .i64 t527)).heap[gb528]? = some (.cells #[.int .i64 t523, .int .i64 t524, .int .i64 t525, .int .i64 t526, .int .i64 t527] 37 (0, 0))) := ⟨att21_0_7⟩
    have n6_ : Aside0 (Below w.heap.size w (((((w18.setCell ⟨gb528, 0, none⟩ (.int .i64 t523)).setCell ⟨gb528, 1, none⟩ (.int .i64 t524)).setCell ⟨gb528, 2, none⟩ (.int .i64 t525)).setCell ⟨gb528, 3, none⟩ (.int .i64 t526)).setCell ⟨gb528, 4, none⟩ (.int .i64 t527))) := ⟨att21_0_0⟩
    (try clear HO506)
    (try clear HO515)
    (try clear HO519)
    (try clear HO522)
    (try clear BK516)
    (try clear BK528)
    (try clear HB)
    generalize (((((w18.setCell ⟨gb528, 0, none⟩ (.int .i64 t523)).setCell ⟨gb528, 1, none⟩ (.int .i64 t524)).setCell ⟨gb528, 2, none⟩ (.int .i64 t525)).setCell ⟨gb528, 3, none⟩ (.int .i64 t526)).setCell ⟨gb528, 4, none⟩ (.int .i64 t527)) = w25 at n0_ n1_ n2_ n3_ n4_ n5_ n6_ ⊢
    have HO506 := n0_
    have HO515 := n1_
    have HO519 := n2_
    have HO522 := n3_
    have BK516 := n4_
    have BK528 := n5_
    have HB := n6_
    clear n0_ n1_ n2_ n3_ n4_ n5_ n6_
    refine swap7_ (Kd.R_drew HO506.out) (Kd.R_drew HO515.out) (Kd.R_drew HO519.out) (Kd.R_drew HO522.out) (blk_drew BK516.out) (blk_drew BK528.out) (below_drew1 HB.out) ?_
    clear HO506 HO515 HO519 HO522 BK516 BK528 HB
    intro HO506 HO515 HO519 HO522 BK516 BK528 HB
    obtain ⟨Ao27, co27, eo27⟩ := Kd.R_slice HO519.out
    (first | subst eo27 | (injection eo27 with f1_ f2_ f3_; have f4_ := f1_.symm; have f5_ := f3_.symm; clear f1_ f2_ f3_; subst f4_; subst f5_))
    obtain ⟨Ao28, co28, eo28⟩ := Kd.R_slice HO522.out
    (first | subst eo28 | (injection eo28 with f1_ f2_ f3_; have f4_ := f1_.symm; have f5_ := f3_.symm; clear f1_ f2_ f3_; subst f4_; subst f5_))
    refine start_ (n := 11) (S := fun w' => w'.cell? ⟨gb528, 0, none⟩ = some (.int .i64 t523) ∧ w'.cell? ⟨gb528, 1, none⟩ = some (.int .i64 t524) ∧ w'.cell? ⟨gb528, 2, none⟩ = some (.int .i64 t525) ∧ w'.cell? ⟨gb528, 3, none⟩ = some (.int .i64 t526) ∧ w'.cell? ⟨gb528, 4, none⟩ = some (.int .i64 t527)) (ds := []) (tf_ 0 11) (by kernel_rfl) rfl rfl ⟨(blk_cell BK528.out 0).trans rfl, (blk_cell BK528.out 1).trans rfl, (blk_cell BK528.out 2).trans rfl, (blk_cell BK528.out 3).trans rfl, (blk_cell BK528.out 4).trans rfl⟩ (fun hHeld => ?_); refine with_tabW laws_FnEmitted.tab7 laws_FnEmitted.bits7 (fun HT_ HW_ => ?_)
    generalize w25.drew = w26 at HO506 HO515 HO519 HO522 BK516 BK528 HB hHeld ⊢
    refine pureQ_ (i := 0) (N := some 33) (tf_ 1 10) (h := ?_)
    refine pureQ_ (i := 1) (N := some 34) (tf_ 2 9) (h := ?_)
    refine one_ (i := 2) (N := some 35) (tf_ 3 8) rfl rfl (one_of HT_.out (by kernel_rfl)) (by decide) (fun K hK => ?_)
    refine goes_ Try.func25 (by kernel_rfl) rfl #[.slice Ao27 t517.length co27, .slice Ao28 t520.length co28] (by rfl) rfl rfl atgM_ ?_
    with_reducible refine (laws_sameSteps.calls k _ _ t517 _ _ t520 true _ ?side1 ?side2 ?side3 ?side4 A21.out).mono ?_
    (case side1 => repeat (first | exact (Kd.R_reads' HO519.out).2.2 | (with_reducible refine Kd.C_alloc ?_ _) | (with_reducible refine Kd.C_drewN ?_ _) | (with_reducible refine Kd.C_drew ?_)))
    (case side2 => exact (Kd.R_reads' HO519.out).2.1)
    (case side3 => repeat (first | exact (Kd.R_reads' HO522.out).2.2 | (with_reducible refine Kd.C_alloc ?_ _) | (with_reducible refine Kd.C_drewN ?_ _) | (with_reducible refine Kd.C_drew ?_)))
    (case side4 => exact (Kd.R_reads' HO522.out).2.1)
    rintro e w' ⟨rfl, ⟨nd, rfl⟩⟩
    refine ⟨_, rfl, ?_⟩
    refine hK.out _ _ ⟨(blk_cell BK528.out 0).trans rfl, (blk_cell BK528.out 1).trans rfl, (blk_cell BK528.out 2).trans rfl, (blk_cell BK528.out 3).trans rfl, (blk_cell BK528.out 4).trans rfl⟩ (fun hHeld => ?_)
    clear hK K
    refine normS_ (N := some 35) (h := ?_)
    refine pureQ_ (i := 3) (N := some 36) (tf_ 4 7) (h := ?_)
    refine pureQ_ (i := 4) (N := some 37) (tf_ 5 6) (h := ?_)
    refine takeQ_ (i := 5) (N := some 38) (tf_ 6 5) hHeld (hy := Or.inl ⟨by rfl, by rintro w' ⟨s0, s1, s2, s3, s4⟩; go_simp; with_reducible rfl⟩) (h := ?_)
    refine takeQ_ (i := 7) (N := some 40) #[true, true, true, true, true, true, false, true, false, false, false] hHeld (hy := Or.inl ⟨by rfl, by rintro w' ⟨s0, s1, s2, s3, s4⟩; go_simp; with_reducible rfl⟩) (h := ?_)
    refine one_ (i := 6) (N := some 39) (tf_ 8 3) rfl rfl (one_of HT_.out (by kernel_rfl)) (by decide) (fun K hK => ?_)
    refine goes_ Try.func26 (by kernel_rfl) rfl #[.agg #[.int .i64 t523, .int .i64 t524, .int .i64 t525, .int .i64 t526, .int .i64 t527]] (by rfl) rfl rfl atgM_ ?_
    with_reducible refine (impl_EmitSize.calls t523 t524 t525 t526 t527 t530 _ A23.out).mono ?_
    rintro e w29 ⟨rfl, hb⟩
    refine ⟨_, rfl, ?_⟩
    refine swap7_ (Kd.R_below att21_0_19 hb) (Kd.R_below att21_0_18 hb) (Kd.R_below att21_0_17 hb) (Kd.R_below att21_0_21 hb) (blk_below (g := gb516) (o := .cells #[.int .i64 t507, .int .i64 t508, .int .i64 t509, .int .i64 t510, .int .i64 t511] 37 (0, 0)) att21_0_2 hb) (blk_below (g := gb528) (o := .cells #[.int .i64 t523, .int .i64 t524, .int .i64 t525, .int .i64 t526, .int .i64 t527] 37 (0, 0)) att21_0_4 hb) (below_step att21_0_0 hb) ?_
    clear HO506 HO515 HO519 HO522 BK516 BK528 HB
    intro HO506 HO515 HO519 HO522 BK516 BK528 HB
    (try clear hb)
    (try clear hb2)
    (try clear hk)
    (try clear hi)
    refine hK.out _ _ ⟨(blk_cell BK528.out 0).trans rfl, (blk_cell BK528.out 1).trans rfl, (blk_cell BK528.out 2).trans rfl, (blk_cell BK528.out 3).trans rfl, (blk_cell BK528.out 4).trans rfl⟩ (fun hHeld => ?_)
    clear hK K
    refine normS_ (N := some 39) (h := ?_)
    refine one_ (i := 8) (N := some 41) (tf_ 9 2) rfl rfl (one_of HT_.out (by kernel_rfl)) (by decide) (fun K hK => ?_)
    refine goes_ Try.func27 (by kernel_rfl) rfl #[.agg #[.int .i64 t523, .int .i64 t524, .int .i64 t525, .int .i64 t526, .int .i64 t527]] (by rfl) rfl rfl atgM_ ?_
    with_reducible refine (spec_EmitSize.calls t523 t524 t525 t526 t527 t531 _ A24.out).mono ?_
    rintro e w30 ⟨rfl, hb⟩
    refine ⟨_, rfl, ?_⟩
    refine swap7_ (Kd.R_below att21_0_19 hb) (Kd.R_below att21_0_18 hb) (Kd.R_below att21_0_17 hb) (Kd.R_below att21_0_21 hb) (blk_below (g := gb516) (o := .cells #[.int .i64 t507, .int .i64 t508, .int .i64 t509, .int .i64 t510, .int .i64 t511] 37 (0, 0)) att21_0_2 hb) (blk_below (g := gb528) (o := .cells #[.int .i64 t523, .int .i64 t524, .int .i64 t525, .int .i64 t526, .int .i64 t527] 37 (0, 0)) att21_0_4 hb) (below_step att21_0_0 hb) ?_
    clear HO506 HO515 HO519 HO522 BK516 BK528 HB
    intro HO506 HO515 HO519 HO522 BK516 BK528 HB
    (try clear hb)
    (try clear hb2)
    (try clear hk)
    (try clear hi)
    refine hK.out _ _ ⟨(blk_cell BK528.out 0).trans rfl, (blk_cell BK528.out 1).trans rfl, (blk_cell BK528.out 2).trans rfl, (blk_cell BK528.out 3).trans rfl, (blk_cell BK528.out 4).trans rfl⟩ (fun hHeld => ?_)
    clear hK K
    refine normS_ (N := some 41) (h := ?_)
    refine pureQ_ (i := 9) (N := some 42) (tf_ 10 1) (h := ?_)
    refine pureQ_ (i := 10) (N := some 43) (tf_ 11 0) (h := ?_)
    refine done_ (done_of HT_.out (by kernel_rfl)) ?_
    try go_wp2
    go_meet
    case rel => exact ⟨_, ((t530 != t531)), atgR_, H', ⟨by first | omega | exact Nat.le_refl _⟩, ⟨att21_0_24⟩, ⟨att21_0_23⟩, ⟨att21_0_2⟩, ⟨att21_0_4⟩, ⟨att21_0_0⟩⟩
   ·replace c22 := Bool.eq_false_iff.mpr c22
    subst c22
    rw [if_neg (show ¬ (false = true) by decide)] at H
    have H' := Aside0.mk H
    clear H
    try go_wp2
    have n0_ : Aside0 (Kd.R (Kd.int .i64) 3 (((((w18.setCell ⟨gb528, 0, none⟩ (.int .i64 t523)).setCell ⟨gb528, 1, none⟩ (.int .i64 t524)).setCell ⟨gb528, 2, none⟩ (.int .i64 t525)).setCell ⟨gb528, 3, none⟩ (.int .i64 t526)).setCell ⟨gb528, 4, none⟩ (.int .i64 t527)) w.heap.size (fun k_ => some k_ ≠ (.slice Ao13 t513.length co13 : Value).ownBlock) (.slice Ao12 t504.length co12) t504) := ⟨att21_0_16⟩
    have n1_ : Aside0 (Kd.R (Kd.int .i64) 3 (((((w18.setCell ⟨gb528, 0, none⟩ (.int .i64 t523)).setCell ⟨gb528, 1, none⟩ (.int .i64 t524)).setCell ⟨gb528, 2, none⟩ (.int .i64 t525)).setCell ⟨gb528, 3, none⟩ (.int .i64 t526)).setCell ⟨gb528, 4, none⟩ (.int .i64 t527)) w.heap.size (fun k_ => some k_ ≠ (.slice Ao12 t504.length co12 : Value).ownBlock) (.slice Ao13 t513.length co13) t513) := ⟨att21_0_15⟩
    have n2_ : Aside0 (Kd.R k46 46 (((((w18.setCell ⟨gb528, 0, none⟩ (.int .i64 t523)).setCell ⟨gb528, 1, none⟩ (.int .i64 t524)).setCell ⟨gb528, 2, none⟩ (.int .i64 t525)).setCell ⟨gb528, 3, none⟩ (.int .i64 t526)).setCell ⟨gb528, 4, none⟩ (.int .i64 t527)) w.heap.size (fun k_ => some k_ ≠ (v521 : Value).ownBlock) v518 t517) := ⟨att21_0_12⟩
    have n3_ : Aside0 (Kd.R k46 46 (((((w18.setCell ⟨gb528, 0, none⟩ (.int .i64 t523)).setCell ⟨gb528, 1, none⟩ (.int .i64 t524)).setCell ⟨gb528, 2, none⟩ (.int .i64 t525)).setCell ⟨gb528, 3, none⟩ (.int .i64 t526)).setCell ⟨gb528, 4, none⟩ (.int .i64 t527)) w.heap.size (fun k_ => some k_ ≠ (v518 : Value).ownBlock) v521 t520) := ⟨att21_0_11⟩
    have n4_ : Aside0 ((((((w18.setCell ⟨gb528, 0, none⟩ (.int .i64 t523)).setCell ⟨gb528, 1, none⟩ (.int .i64 t524)).setCell ⟨gb528, 2, none⟩ (.int .i64 t525)).setCell ⟨gb528, 3, none⟩ (.int .i64 t526)).setCell ⟨gb528, 4, none⟩ (.int .i64 t527)).heap[gb516]? = some (.cells #[.int .i64 t507, .int .i64 t508, .int .i64 t509, .int .i64 t510, .int .i64 t511] 37 (0, 0))) := ⟨att21_0_9⟩
    have n5_ : Aside0 ((((((w18.setCell ⟨gb528, 0, none⟩ (.int .i64 t523)).setCell ⟨gb528, 1, none⟩ (.int .i64 t524)).setCell ⟨gb528, 2, none⟩ (.int .i64 t525)).setCell ⟨gb528, 3, none⟩ (.int .i64 t526)).setCell ⟨gb528, 4, none⟩ (.int .i64 t527)).heap[gb528]? = some (.cells #[.int .i64 t523, .int .i64 t524, .int .i64 t525, .int .i64 t526, .int .i64 t527] 37 (0, 0))) := ⟨att21_0_7⟩
    have n6_ : Aside0 (Below w.heap.size w (((((w18.setCell ⟨gb528, 0, none⟩ (.int .i64 t523)).setCell ⟨gb528, 1, none⟩ (.int .i64 t524)).setCell ⟨gb528, 2, none⟩ (.int .i64 t525)).setCell ⟨gb528, 3, none⟩ (.int .i64 t526)).setCell ⟨gb528, 4, none⟩ (.int .i64 t527))) := ⟨att21_0_0⟩
    (try clear HO506)
    (try clear HO515)
    (try clear HO519)
    (try clear HO522)
    (try clear BK516)
    (try clear BK528)
    (try clear HB)
    generalize (((((w18.setCell ⟨gb528, 0, none⟩ (.int .i64 t523)).setCell ⟨gb528, 1, none⟩ (.int .i64 t524)).setCell ⟨gb528, 2, none⟩ (.int .i64 t525)).setCell ⟨gb528, 3, none⟩ (.int .i64 t526)).setCell ⟨gb528, 4, none⟩ (.int .i64 t527)) = w31 at n0_ n1_ n2_ n3_ n4_ n5_ n6_ ⊢
    have HO506 := n0_
    have HO515 := n1_
    have HO519 := n2_
    have HO522 := n3_
    have BK516 := n4_
    have BK528 := n5_
    have HB := n6_
    clear n0_ n1_ n2_ n3_ n4_ n5_ n6_
    refine swap7_ (Kd.R_drew HO506.out) (Kd.R_drew HO515.out) (Kd.R_drew HO519.out) (Kd.R_drew HO522.out) (blk_drew BK516.out) (blk_drew BK528.out) (below_drew1 HB.out) ?_
    clear HO506 HO515 HO519 HO522 BK516 BK528 HB
    intro HO506 HO515 HO519 HO522 BK516 BK528 HB
    obtain ⟨Ao33, co33, eo33⟩ := Kd.R_slice HO519.out
    (first | subst eo33 | (injection eo33 with f1_ f2_ f3_; have f4_ := f1_.symm; have f5_ := f3_.symm; clear f1_ f2_ f3_; subst f4_; subst f5_))
    obtain ⟨Ao34, co34, eo34⟩ := Kd.R_slice HO522.out
    (first | subst eo34 | (injection eo34 with f1_ f2_ f3_; have f4_ := f1_.symm; have f5_ := f3_.symm; clear f1_ f2_ f3_; subst f4_; subst f5_))
    refine start_ (n := 11) (S := fun w' => True) (ds := []) (tf_ 0 11) (by kernel_rfl) rfl rfl trivial (fun hHeld => ?_); refine with_tabW laws_FnEmitted.tab7 laws_FnEmitted.bits7 (fun HT_ HW_ => ?_)
    generalize w31.drew = w32 at HO506 HO515 HO519 HO522 BK516 BK528 HB hHeld ⊢
    refine pureQ_ (i := 0) (N := some 33) (tf_ 1 10) (h := ?_)
    refine pureQ_ (i := 1) (N := some 34) (tf_ 2 9) (h := ?_)
    refine one_ (i := 2) (N := some 35) (tf_ 3 8) rfl rfl (one_of HT_.out (by kernel_rfl)) (by decide) (fun K hK => ?_)
    refine goes_ Try.func25 (by kernel_rfl) rfl #[.slice Ao33 t517.length co33, .slice Ao34 t520.length co34] (by rfl) rfl rfl atgM_ ?_
    with_reducible refine (laws_sameSteps.calls k _ _ t517 _ _ t520 false _ ?side1 ?side2 ?side3 ?side4 A21.out).mono ?_
    (case side1 => repeat (first | exact (Kd.R_reads' HO519.out).2.2 | (with_reducible refine Kd.C_alloc ?_ _) | (with_reducible refine Kd.C_drewN ?_ _) | (with_reducible refine Kd.C_drew ?_)))
    (case side2 => exact (Kd.R_reads' HO519.out).2.1)
    (case side3 => repeat (first | exact (Kd.R_reads' HO522.out).2.2 | (with_reducible refine Kd.C_alloc ?_ _) | (with_reducible refine Kd.C_drewN ?_ _) | (with_reducible refine Kd.C_drew ?_)))
    (case side4 => exact (Kd.R_reads' HO522.out).2.1)
    rintro e w' ⟨rfl, ⟨nd, rfl⟩⟩
    refine ⟨_, rfl, ?_⟩
    refine hK.out _ _ trivial (fun hHeld => ?_)
    clear hK K
    refine normS_ (N := some 35) (h := ?_)
    refine pureQ_ (i := 3) (N := some 36) (tf_ 4 7) (h := ?_)
    refine pureQ_ (i := 4) (N := some 37) (tf_ 5 6) (h := ?_)
    refine offQ_ (i := 5) (N := some 38) (tf_ 6 5) (h := ?_)
    refine offQ_ (i := 6) (N := some 39) (tf_ 7 4) (h := ?_)
    refine offQ_ (i := 7) (N := some 40) (tf_ 8 3) (h := ?_)
    refine offQ_ (i := 8) (N := some 41) (tf_ 9 2) (h := ?_)
    refine offQ_ (i := 9) (N := some 42) (tf_ 10 1) (h := ?_)
    refine pureQ_ (i := 10) (N := some 43) (tf_ 11 0) (h := ?_)
    refine done_ (done_of HT_.out (by kernel_rfl)) ?_
    try go_wp2
    go_meet
    case rel => exact ⟨_, (true), atgR_, H', ⟨by first | omega | exact Nat.le_refl _⟩, ⟨att21_0_24⟩, ⟨att21_0_23⟩, ⟨att21_0_2⟩, ⟨att21_0_4⟩, ⟨att21_0_0⟩⟩
  case rest =>
   clear HC8
   try clear c1
   try clear c2
   try clear p2
   try clear c3
   try clear c4
   try clear c19
   try clear c20
   try clear c21
   try clear c22
   try clear c23
   try clear c24
   try clear c25
   try clear c26
   try clear c27
   try clear hcz11_0 hcz11_1 hcz11_2 hcz11_3 hcz11_4
   try clear hcz15_0 hcz15_1 hcz15_2 hcz15_3 hcz15_4
   try clear hcz20_0 hcz20_1 hcz20_2 hcz20_3 hcz20_4
   try clear hfz11_0 hfz11_1 hfz11_2 hfz11_3 hfz11_4
   try clear hfz15_0 hfz15_1 hfz15_2 hfz15_3 hfz15_4
   try clear hfz20_0 hfz20_1 hfz20_2 hfz20_3 hfz20_4
   obtain ⟨kq, x43_7, rfl, HA, HJ7, HO_6, HO_7, BK516, BK528, HB⟩ := hcut
   cases kq with
   | zero => exact absurd HA.out (by simp [laws_FnEmitted.j0])
   | succ kj7 =>
    have H := HA.out
    clear HA
    simp only [laws_FnEmitted.j0] at H
    by_cases c35 : x43_7 = true
    ·subst c35
     rw [if_pos rfl] at H
     obtain rfl := Option.some.inj H
     go_wp2
     go_ret
     exact ⟨retT_, att21_0_0⟩
    ·replace c35 := Bool.eq_false_iff.mpr c35
     subst c35
     rw [if_neg (show ¬ (false = true) by decide)] at H
     by_cases c36 : (t517.length : Int) = 0
     ·rw [if_pos c36] at H
      have c36b0 := beq_iff_eq.mpr c36
      have c36b1 := bne_eq_false_iff_eq.mpr c36
      clear c36
      obtain rfl := Option.some.inj H
      obtain ⟨Ao37, co37, eo37⟩ := Kd.R_slice HO_7.out
      subst eo37
      go_wp2
      go_ret
      exact ⟨retT_, att21_0_0⟩
     ·rw [if_neg c36] at H
      have c36b0 := beq_eq_false_iff_ne.mpr c36
      have c36b1 := bne_iff_ne.mpr c36
      have c36b2 : ¬ (t517 = []) := fun h_ => c36 (by rw [h_]; rfl)
      replace H := Option.bind_eq_some_iff.mp H
      obtain ⟨t532, A380, H⟩ := H
      (try dsimp only at H)
      have A38 := Aside0.mk A380
      clear A380
      by_cases c39 : (t517.length : Int) = t532
      ·rw [if_pos c39] at H
       have c39b0 := beq_iff_eq.mpr c39
       have c39b1 := bne_eq_false_iff_eq.mpr c39
       clear c39
       have H' := Aside0.mk H
       clear H
       obtain ⟨Ao40, co40, eo40⟩ := Kd.R_slice HO_7.out
       subst eo40
       have hnb41 := NB516_528.out
       have hnc41 := NB528_516.out
       obtain ⟨hcz42_0, hcz42_1, hcz42_2, hcz42_3, hcz42_4, hfz42_0, hfz42_1, hfz42_2, hfz42_3, hfz42_4⟩ := blkB5_ BK516
       go_wp2_with (first | ((with_reducible refine gate_callee (f := 26) rfl ?_); refine goesL_ (some 50) rfl rfl Try.func26 (by kernel_rfl) rfl #[.agg #[.int .i64 t507, .int .i64 t508, .int .i64 t509, .int .i64 t510, .int .i64 t511]] rfl atgM_ ?_; (with_reducible refine (impl_EmitSize.calls t507 t508 t509 t510 t511 t532 _ A38.out).mono ?_); rintro e w43 ⟨rfl, hb⟩; refine ⟨_, rfl, ?_⟩; refine swap5_ (Kd.R_below att21_0_6 hb) (Kd.R_below att21_0_5 hb) (blk_below (g := gb516) (o := .cells #[.int .i64 t507, .int .i64 t508, .int .i64 t509, .int .i64 t510, .int .i64 t511] 37 (0, 0)) att21_0_2 hb) (blk_below (g := gb528) (o := .cells #[.int .i64 t523, .int .i64 t524, .int .i64 t525, .int .i64 t526, .int .i64 t527] 37 (0, 0)) att21_0_4 hb) (below_step att21_0_0 hb) ?_; clear HO_6 HO_7 BK516 BK528 HB; intro HO_6 HO_7 BK516 BK528 HB; (try clear hb); (try clear hb2); (try clear hk); (try clear hi)))
       go_loopg [10] kj7 (fun kq v10 w' => ∃ (x10_2 : Int), v10 = .int .i64 x10_2 ∧ Aside0 (laws_FnEmitted.l0 kq t512 t513 t517 x10_2 = some r) ∧ Aside0 (kq ≤ kj7) ∧ Aside0 (Kd.R (Kd.int .i64) 3 w' w.heap.size (fun _ => True) (.slice Ao13 t513.length co13) t513) ∧ Aside0 (Kd.R k46 46 w' w.heap.size (fun _ => True) (.slice Ao40 t517.length co40) t517) ∧ Aside0 (w'.heap[gb516]? = some (.cells #[.int .i64 t507, .int .i64 t508, .int .i64 t509, .int .i64 t510, .int .i64 t511] 37 (0, 0))) ∧ Aside0 (w'.heap[gb528]? = some (.cells #[.int .i64 t523, .int .i64 t524, .int .i64 t525, .int .i64 t526, .int .i64 t527] 37 (0, 0))) ∧ Aside0 (Below w.heap.size w w'))
       case atStart => exact ⟨(0), atgR_, H', ⟨Nat.le_refl _⟩, ⟨att21_0_6⟩, ⟨att21_0_5⟩, ⟨att21_0_2⟩, ⟨att21_0_4⟩, ⟨att21_0_0⟩⟩
       case round =>
        clear H'
        try clear c1
        try clear c2
        try clear p2
        try clear c3
        try clear c4
        try clear c19
        try clear c20
        try clear c21
        try clear c22
        try clear c23
        try clear c24
        try clear c25
        try clear c26
        try clear c27
        try clear c35
        try clear c36
        try clear c36b0
        try clear c36b1
        try clear c36b2
        try clear c39
        try clear c39b0
        try clear c39b1
        try clear c41
        try clear hcz11_0 hcz11_1 hcz11_2 hcz11_3 hcz11_4
        try clear hcz15_0 hcz15_1 hcz15_2 hcz15_3 hcz15_4
        try clear hcz20_0 hcz20_1 hcz20_2 hcz20_3 hcz20_4
        try clear hcz42_0 hcz42_1 hcz42_2 hcz42_3 hcz42_4
        try clear hfz11_0 hfz11_1 hfz11_2 hfz11_3 hfz11_4
        try clear hfz15_0 hfz15_1 hfz15_2 hfz15_3 hfz15_4
        try clear hfz20_0 hfz20_1 hfz20_2 hfz20_3 hfz20_4
        try clear hfz42_0 hfz42_1 hfz42_2 hfz42_3 hfz42_4
        try clear p2
        obtain ⟨x10_2, rfl, HA, HK2, HO_6, HO_7, BK516, BK528, HB⟩ := hrel
        cases gk with
        | zero => exact absurd HA.out (by simp [laws_FnEmitted.l0])
        | succ k2 =>
         have H := HA.out
         clear HA
         simp only [laws_FnEmitted.l0] at H
         by_cases c44 : x10_2 < (t517.length : Int)
         ·rw [if_pos c44] at H
          have c44b0 := decide_eq_true c44
          clear c44
          by_cases c45 : 0 ≤ x10_2
          ·rw [if_pos c45] at H
           have c45b0 := decide_eq_true c45
           clear c45
           replace H := Option.bind_eq_some_iff.mp H
           obtain ⟨t534, A460, H⟩ := H
           (try dsimp only at H)
           have A46 := Aside0.mk A460
           clear A460
           by_cases c47 : t534 = true
           ·subst c47
            rw [if_pos rfl] at H
            by_cases c48 : ((rd_T46 t517 x10_2).f0) = 10
            ·rw [if_pos c48] at H
             have c48b0 := beq_iff_eq.mpr c48
             have c48b1 := bne_eq_false_iff_eq.mpr c48
             clear c48
             by_cases c49 : ((rd_T46 t517 x10_2).f4) < t512
             ·rw [if_pos c49] at H
              have c49b0 := decide_eq_true c49
              clear c49
              replace H := Option.bind_eq_some_iff.mp H
              obtain ⟨t538, A500, H⟩ := H
              (try dsimp only at H)
              have A50 := Aside0.mk A500
              clear A500
              by_cases c51 : t538 = true
              ·subst c51
               rw [if_pos rfl] at H
               have H' := Aside0.mk H
               clear H
               have p533 : 0 ≤ (x10_2 : Int) := of_decide_eq_true atgA_
               have q533 : x10_2 < (t517.length : Int) := of_decide_eq_true atgA_
               obtain ⟨ad533, e533, hx533_0, hx533_1, hx533_2, hx533_3, hx533_4⟩ := at_T46 (Kd.R_reads' HO_7.out).2.2 x10_2 p533 q533
               cases e533
               replace p533 := eq_true p533
               replace q533 := eq_true q533
               go_wp2_with (first | ((with_reducible refine gate_callee (f := 28) rfl ?_); refine goesL_ (some 62) rfl rfl Try.func28 (by kernel_rfl) rfl #[.agg #[.int .i64 ((rd_T46 t517 x10_2).f0), .int .i64 ((rd_T46 t517 x10_2).f1), .int .i64 ((rd_T46 t517 x10_2).f2), .int .i64 ((rd_T46 t517 x10_2).f3), .int .i64 ((rd_T46 t517 x10_2).f4)], .int .i64 800] rfl atgM_ ?_; (with_reducible refine (impl_StepOk.calls k2 ((rd_T46 t517 x10_2).f0) ((rd_T46 t517 x10_2).f1) ((rd_T46 t517 x10_2).f2) ((rd_T46 t517 x10_2).f3) ((rd_T46 t517 x10_2).f4) 800 true _ A46.out).mono ?_); rintro e w52 ⟨rfl, hb⟩; refine ⟨_, rfl, ?_⟩; refine swap5_ (Kd.R_below att21_0_6 hb) (Kd.R_below att21_0_5 hb) (blk_below (g := gb516) (o := .cells #[.int .i64 t507, .int .i64 t508, .int .i64 t509, .int .i64 t510, .int .i64 t511] 37 (0, 0)) att21_0_2 hb) (blk_below (g := gb528) (o := .cells #[.int .i64 t523, .int .i64 t524, .int .i64 t525, .int .i64 t526, .int .i64 t527] 37 (0, 0)) att21_0_4 hb) (below_step att21_0_0 hb) ?_; clear HO_6 HO_7 BK516 BK528 HB; intro HO_6 HO_7 BK516 BK528 HB; (try clear hb); (try clear hb2); (try clear hk); (try clear hi); have p535 : 0 ≤ (x10_2 : Int) := of_decide_eq_true atgA_; have q535 : x10_2 < (t517.length : Int) := of_decide_eq_true atgA_; obtain ⟨ad535, e535, hx535_0, hx535_1, hx535_2, hx535_3, hx535_4⟩ := at_T46 (Kd.R_reads' HO_7.out).2.2 x10_2 p535 q535; obtain rfl : ad533 = ad535 := (by injection e535); replace p535 := eq_true p535; replace q535 := eq_true q535; have p536 : 0 ≤ (x10_2 : Int) := of_decide_eq_true atgA_; have q536 : x10_2 < (t517.length : Int) := of_decide_eq_true atgA_; obtain ⟨ad536, e536, hx536_0, hx536_1, hx536_2, hx536_3, hx536_4⟩ := at_T46 (Kd.R_reads' HO_7.out).2.2 x10_2 p536 q536; obtain rfl : ad533 = ad536 := (by injection e536); replace p536 := eq_true p536; replace q536 := eq_true q536; have p537 : 0 ≤ (x10_2 : Int) := of_decide_eq_true atgA_; have q537 : x10_2 < (t517.length : Int) := of_decide_eq_true atgA_; obtain ⟨ad537, e537, hx537_0, hx537_1, hx537_2, hx537_3, hx537_4⟩ := at_T46 (Kd.R_reads' HO_7.out).2.2 x10_2 p537 q537; obtain rfl : ad533 = ad537 := (by injection e537); replace p537 := eq_true p537; replace q537 := eq_true q537) | (go_at_call 29; (with_reducible refine (laws_within.calls k2 _ _ t513 ((rd_T46 t517 x10_2).f4) true _ ?side1 ?side2 A50.out).mono ?_); (case side1 => repeat (first | exact (Kd.R_reads' HO_6.out).2.2 | (with_reducible refine Kd.C_alloc ?_ _) | (with_reducible refine Kd.C_drewN ?_ _) | (with_reducible refine Kd.C_drew ?_))); (case side2 => exact (Kd.R_reads' HO_6.out).2.1); rintro e w' ⟨rfl, ⟨nd, rfl⟩⟩))
               go_roundg k2
               case measure => have := HJ7.out; have := HK2.out; omega
               case rel => exact ⟨(wrap64 (x10_2 + 1)), atgR_, H', ⟨att21_0_22⟩, ⟨att21_0_6⟩, ⟨att21_0_5⟩, ⟨att21_0_2⟩, ⟨att21_0_4⟩, ⟨att21_0_0⟩⟩
              ·replace c51 := Bool.eq_false_iff.mpr c51
               subst c51
               rw [if_neg (show ¬ (false = true) by decide)] at H
               obtain rfl := Option.some.inj H
               have p533 : 0 ≤ (x10_2 : Int) := of_decide_eq_true atgA_
               have q533 : x10_2 < (t517.length : Int) := of_decide_eq_true atgA_
               obtain ⟨ad533, e533, hx533_0, hx533_1, hx533_2, hx533_3, hx533_4⟩ := at_T46 (Kd.R_reads' HO_7.out).2.2 x10_2 p533 q533
               cases e533
               replace p533 := eq_true p533
               replace q533 := eq_true q533
               go_wp2_with (first | ((with_reducible refine gate_callee (f := 28) rfl ?_); refine goesL_ (some 62) rfl rfl Try.func28 (by kernel_rfl) rfl #[.agg #[.int .i64 ((rd_T46 t517 x10_2).f0), .int .i64 ((rd_T46 t517 x10_2).f1), .int .i64 ((rd_T46 t517 x10_2).f2), .int .i64 ((rd_T46 t517 x10_2).f3), .int .i64 ((rd_T46 t517 x10_2).f4)], .int .i64 800] rfl atgM_ ?_; (with_reducible refine (impl_StepOk.calls k2 ((rd_T46 t517 x10_2).f0) ((rd_T46 t517 x10_2).f1) ((rd_T46 t517 x10_2).f2) ((rd_T46 t517 x10_2).f3) ((rd_T46 t517 x10_2).f4) 800 true _ A46.out).mono ?_); rintro e w53 ⟨rfl, hb⟩; refine ⟨_, rfl, ?_⟩; refine swap5_ (Kd.R_below att21_0_6 hb) (Kd.R_below att21_0_5 hb) (blk_below (g := gb516) (o := .cells #[.int .i64 t507, .int .i64 t508, .int .i64 t509, .int .i64 t510, .int .i64 t511] 37 (0, 0)) att21_0_2 hb) (blk_below (g := gb528) (o := .cells #[.int .i64 t523, .int .i64 t524, .int .i64 t525, .int .i64 t526, .int .i64 t527] 37 (0, 0)) att21_0_4 hb) (below_step att21_0_0 hb) ?_; clear HO_6 HO_7 BK516 BK528 HB; intro HO_6 HO_7 BK516 BK528 HB; (try clear hb); (try clear hb2); (try clear hk); (try clear hi); have p535 : 0 ≤ (x10_2 : Int) := of_decide_eq_true atgA_; have q535 : x10_2 < (t517.length : Int) := of_decide_eq_true atgA_; obtain ⟨ad535, e535, hx535_0, hx535_1, hx535_2, hx535_3, hx535_4⟩ := at_T46 (Kd.R_reads' HO_7.out).2.2 x10_2 p535 q535; obtain rfl : ad533 = ad535 := (by injection e535); replace p535 := eq_true p535; replace q535 := eq_true q535; have p536 : 0 ≤ (x10_2 : Int) := of_decide_eq_true atgA_; have q536 : x10_2 < (t517.length : Int) := of_decide_eq_true atgA_; obtain ⟨ad536, e536, hx536_0, hx536_1, hx536_2, hx536_3, hx536_4⟩ := at_T46 (Kd.R_reads' HO_7.out).2.2 x10_2 p536 q536; obtain rfl : ad533 = ad536 := (by injection e536); replace p536 := eq_true p536; replace q536 := eq_true q536; have p537 : 0 ≤ (x10_2 : Int) := of_decide_eq_true atgA_; have q537 : x10_2 < (t517.length : Int) := of_decide_eq_true atgA_; obtain ⟨ad537, e537, hx537_0, hx537_1, hx537_2, hx537_3, hx537_4⟩ := at_T46 (Kd.R_reads' HO_7.out).2.2 x10_2 p537 q537; obtain rfl : ad533 = ad537 := (by injection e537); replace p537 := eq_true p537; replace q537 := eq_true q537) | (go_at_call 29; (with_reducible refine (laws_within.calls k2 _ _ t513 ((rd_T46 t517 x10_2).f4) false _ ?side1 ?side2 A50.out).mono ?_); (case side1 => repeat (first | exact (Kd.R_reads' HO_6.out).2.2 | (with_reducible refine Kd.C_alloc ?_ _) | (with_reducible refine Kd.C_drewN ?_ _) | (with_reducible refine Kd.C_drew ?_))); (case side2 => exact (Kd.R_reads' HO_6.out).2.1); rintro e w' ⟨rfl, ⟨nd, rfl⟩⟩))
               go_ret
               exact ⟨retT_, att21_0_0⟩
             ·rw [if_neg c49] at H
              have c49b0 := decide_eq_false c49
              clear c49
              by_cases c54 : ((rd_T46 t517 x10_2).f4) > (wrap64 (t512 + (t517.length : Int)))
              ·rw [if_pos c54] at H
               have c54b0 := decide_eq_true c54
               clear c54
               replace H := Option.bind_eq_some_iff.mp H
               obtain ⟨t541, A550, H⟩ := H
               (try dsimp only at H)
               have A55 := Aside0.mk A550
               clear A550
               by_cases c56 : t541 = true
               ·subst c56
                rw [if_pos rfl] at H
                have H' := Aside0.mk H
                clear H
                have p533 : 0 ≤ (x10_2 : Int) := of_decide_eq_true atgA_
                have q533 : x10_2 < (t517.length : Int) := of_decide_eq_true atgA_
                obtain ⟨ad533, e533, hx533_0, hx533_1, hx533_2, hx533_3, hx533_4⟩ := at_T46 (Kd.R_reads' HO_7.out).2.2 x10_2 p533 q533
                cases e533
                replace p533 := eq_true p533
                replace q533 := eq_true q533
                go_wp2_with (first | ((with_reducible refine gate_callee (f := 28) rfl ?_); refine goesL_ (some 62) rfl rfl Try.func28 (by kernel_rfl) rfl #[.agg #[.int .i64 ((rd_T46 t517 x10_2).f0), .int .i64 ((rd_T46 t517 x10_2).f1), .int .i64 ((rd_T46 t517 x10_2).f2), .int .i64 ((rd_T46 t517 x10_2).f3), .int .i64 ((rd_T46 t517 x10_2).f4)], .int .i64 800] rfl atgM_ ?_; (with_reducible refine (impl_StepOk.calls k2 ((rd_T46 t517 x10_2).f0) ((rd_T46 t517 x10_2).f1) ((rd_T46 t517 x10_2).f2) ((rd_T46 t517 x10_2).f3) ((rd_T46 t517 x10_2).f4) 800 true _ A46.out).mono ?_); rintro e w57 ⟨rfl, hb⟩; refine ⟨_, rfl, ?_⟩; refine swap5_ (Kd.R_below att21_0_6 hb) (Kd.R_below att21_0_5 hb) (blk_below (g := gb516) (o := .cells #[.int .i64 t507, .int .i64 t508, .int .i64 t509, .int .i64 t510, .int .i64 t511] 37 (0, 0)) att21_0_2 hb) (blk_below (g := gb528) (o := .cells #[.int .i64 t523, .int .i64 t524, .int .i64 t525, .int .i64 t526, .int .i64 t527] 37 (0, 0)) att21_0_4 hb) (below_step att21_0_0 hb) ?_; clear HO_6 HO_7 BK516 BK528 HB; intro HO_6 HO_7 BK516 BK528 HB; (try clear hb); (try clear hb2); (try clear hk); (try clear hi); have p535 : 0 ≤ (x10_2 : Int) := of_decide_eq_true atgA_; have q535 : x10_2 < (t517.length : Int) := of_decide_eq_true atgA_; obtain ⟨ad535, e535, hx535_0, hx535_1, hx535_2, hx535_3, hx535_4⟩ := at_T46 (Kd.R_reads' HO_7.out).2.2 x10_2 p535 q535; obtain rfl : ad533 = ad535 := (by injection e535); replace p535 := eq_true p535; replace q535 := eq_true q535; have p536 : 0 ≤ (x10_2 : Int) := of_decide_eq_true atgA_; have q536 : x10_2 < (t517.length : Int) := of_decide_eq_true atgA_; obtain ⟨ad536, e536, hx536_0, hx536_1, hx536_2, hx536_3, hx536_4⟩ := at_T46 (Kd.R_reads' HO_7.out).2.2 x10_2 p536 q536; obtain rfl : ad533 = ad536 := (by injection e536); replace p536 := eq_true p536; replace q536 := eq_true q536; have p539 : 0 ≤ (x10_2 : Int) := of_decide_eq_true atgA_; have q539 : x10_2 < (t517.length : Int) := of_decide_eq_true atgA_; obtain ⟨ad539, e539, hx539_0, hx539_1, hx539_2, hx539_3, hx539_4⟩ := at_T46 (Kd.R_reads' HO_7.out).2.2 x10_2 p539 q539; obtain rfl : ad533 = ad539 := (by injection e539); replace p539 := eq_true p539; replace q539 := eq_true q539; have p540 : 0 ≤ (x10_2 : Int) := of_decide_eq_true atgA_; have q540 : x10_2 < (t517.length : Int) := of_decide_eq_true atgA_; obtain ⟨ad540, e540, hx540_0, hx540_1, hx540_2, hx540_3, hx540_4⟩ := at_T46 (Kd.R_reads' HO_7.out).2.2 x10_2 p540 q540; obtain rfl : ad533 = ad540 := (by injection e540); replace p540 := eq_true p540; replace q540 := eq_true q540) | (go_at_call 29; (with_reducible refine (laws_within.calls k2 _ _ t513 ((rd_T46 t517 x10_2).f4) true _ ?side1 ?side2 A55.out).mono ?_); (case side1 => repeat (first | exact (Kd.R_reads' HO_6.out).2.2 | (with_reducible refine Kd.C_alloc ?_ _) | (with_reducible refine Kd.C_drewN ?_ _) | (with_reducible refine Kd.C_drew ?_))); (case side2 => exact (Kd.R_reads' HO_6.out).2.1); rintro e w' ⟨rfl, ⟨nd, rfl⟩⟩))
                go_roundg k2
                case measure => have := HJ7.out; have := HK2.out; omega
                case rel => exact ⟨(wrap64 (x10_2 + 1)), atgR_, H', ⟨att21_0_22⟩, ⟨att21_0_6⟩, ⟨att21_0_5⟩, ⟨att21_0_2⟩, ⟨att21_0_4⟩, ⟨att21_0_0⟩⟩
               ·replace c56 := Bool.eq_false_iff.mpr c56
                subst c56
                rw [if_neg (show ¬ (false = true) by decide)] at H
                obtain rfl := Option.some.inj H
                have p533 : 0 ≤ (x10_2 : Int) := of_decide_eq_true atgA_
                have q533 : x10_2 < (t517.length : Int) := of_decide_eq_true atgA_
                obtain ⟨ad533, e533, hx533_0, hx533_1, hx533_2, hx533_3, hx533_4⟩ := at_T46 (Kd.R_reads' HO_7.out).2.2 x10_2 p533 q533
                cases e533
                replace p533 := eq_true p533
                replace q533 := eq_true q533
                go_wp2_with (first | ((with_reducible refine gate_callee (f := 28) rfl ?_); refine goesL_ (some 62) rfl rfl Try.func28 (by kernel_rfl) rfl #[.agg #[.int .i64 ((rd_T46 t517 x10_2).f0), .int .i64 ((rd_T46 t517 x10_2).f1), .int .i64 ((rd_T46 t517 x10_2).f2), .int .i64 ((rd_T46 t517 x10_2).f3), .int .i64 ((rd_T46 t517 x10_2).f4)], .int .i64 800] rfl atgM_ ?_; (with_reducible refine (impl_StepOk.calls k2 ((rd_T46 t517 x10_2).f0) ((rd_T46 t517 x10_2).f1) ((rd_T46 t517 x10_2).f2) ((rd_T46 t517 x10_2).f3) ((rd_T46 t517 x10_2).f4) 800 true _ A46.out).mono ?_); rintro e w58 ⟨rfl, hb⟩; refine ⟨_, rfl, ?_⟩; refine swap5_ (Kd.R_below att21_0_6 hb) (Kd.R_below att21_0_5 hb) (blk_below (g := gb516) (o := .cells #[.int .i64 t507, .int .i64 t508, .int .i64 t509, .int .i64 t510, .int .i64 t511] 37 (0, 0)) att21_0_2 hb) (blk_below (g := gb528) (o := .cells #[.int .i64 t523, .int .i64 t524, .int .i64 t525, .int .i64 t526, .int .i64 t527] 37 (0, 0)) att21_0_4 hb) (below_step att21_0_0 hb) ?_; clear HO_6 HO_7 BK516 BK528 HB; intro HO_6 HO_7 BK516 BK528 HB; (try clear hb); (try clear hb2); (try clear hk); (try clear hi); have p535 : 0 ≤ (x10_2 : Int) := of_decide_eq_true atgA_; have q535 : x10_2 < (t517.length : Int) := of_decide_eq_true atgA_; obtain ⟨ad535, e535, hx535_0, hx535_1, hx535_2, hx535_3, hx535_4⟩ := at_T46 (Kd.R_reads' HO_7.out).2.2 x10_2 p535 q535; obtain rfl : ad533 = ad535 := (by injection e535); replace p535 := eq_true p535; replace q535 := eq_true q535; have p536 : 0 ≤ (x10_2 : Int) := of_decide_eq_true atgA_; have q536 : x10_2 < (t517.length : Int) := of_decide_eq_true atgA_; obtain ⟨ad536, e536, hx536_0, hx536_1, hx536_2, hx536_3, hx536_4⟩ := at_T46 (Kd.R_reads' HO_7.out).2.2 x10_2 p536 q536; obtain rfl : ad533 = ad536 := (by injection e536); replace p536 := eq_true p536; replace q536 := eq_true q536; have p539 : 0 ≤ (x10_2 : Int) := of_decide_eq_true atgA_; have q539 : x10_2 < (t517.length : Int) := of_decide_eq_true atgA_; obtain ⟨ad539, e539, hx539_0, hx539_1, hx539_2, hx539_3, hx539_4⟩ := at_T46 (Kd.R_reads' HO_7.out).2.2 x10_2 p539 q539; obtain rfl : ad533 = ad539 := (by injection e539); replace p539 := eq_true p539; replace q539 := eq_true q539; have p540 : 0 ≤ (x10_2 : Int) := of_decide_eq_true atgA_; have q540 : x10_2 < (t517.length : Int) := of_decide_eq_true atgA_; obtain ⟨ad540, e540, hx540_0, hx540_1, hx540_2, hx540_3, hx540_4⟩ := at_T46 (Kd.R_reads' HO_7.out).2.2 x10_2 p540 q540; obtain rfl : ad533 = ad540 := (by injection e540); replace p540 := eq_true p540; replace q540 := eq_true q540) | (go_at_call 29; (with_reducible refine (laws_within.calls k2 _ _ t513 ((rd_T46 t517 x10_2).f4) false _ ?side1 ?side2 A55.out).mono ?_); (case side1 => repeat (first | exact (Kd.R_reads' HO_6.out).2.2 | (with_reducible refine Kd.C_alloc ?_ _) | (with_reducible refine Kd.C_drewN ?_ _) | (with_reducible refine Kd.C_drew ?_))); (case side2 => exact (Kd.R_reads' HO_6.out).2.1); rintro e w' ⟨rfl, ⟨nd, rfl⟩⟩))
                go_ret
                exact ⟨retT_, att21_0_0⟩
              ·rw [if_neg c54] at H
               have c54b0 := decide_eq_false c54
               clear c54
               have H' := Aside0.mk H
               clear H
               have p533 : 0 ≤ (x10_2 : Int) := of_decide_eq_true atgA_
               have q533 : x10_2 < (t517.length : Int) := of_decide_eq_true atgA_
               obtain ⟨ad533, e533, hx533_0, hx533_1, hx533_2, hx533_3, hx533_4⟩ := at_T46 (Kd.R_reads' HO_7.out).2.2 x10_2 p533 q533
               cases e533
               replace p533 := eq_true p533
               replace q533 := eq_true q533
               go_wp2_with (first | ((with_reducible refine gate_callee (f := 28) rfl ?_); refine goesL_ (some 62) rfl rfl Try.func28 (by kernel_rfl) rfl #[.agg #[.int .i64 ((rd_T46 t517 x10_2).f0), .int .i64 ((rd_T46 t517 x10_2).f1), .int .i64 ((rd_T46 t517 x10_2).f2), .int .i64 ((rd_T46 t517 x10_2).f3), .int .i64 ((rd_T46 t517 x10_2).f4)], .int .i64 800] rfl atgM_ ?_; (with_reducible refine (impl_StepOk.calls k2 ((rd_T46 t517 x10_2).f0) ((rd_T46 t517 x10_2).f1) ((rd_T46 t517 x10_2).f2) ((rd_T46 t517 x10_2).f3) ((rd_T46 t517 x10_2).f4) 800 true _ A46.out).mono ?_); rintro e w59 ⟨rfl, hb⟩; refine ⟨_, rfl, ?_⟩; refine swap5_ (Kd.R_below att21_0_6 hb) (Kd.R_below att21_0_5 hb) (blk_below (g := gb516) (o := .cells #[.int .i64 t507, .int .i64 t508, .int .i64 t509, .int .i64 t510, .int .i64 t511] 37 (0, 0)) att21_0_2 hb) (blk_below (g := gb528) (o := .cells #[.int .i64 t523, .int .i64 t524, .int .i64 t525, .int .i64 t526, .int .i64 t527] 37 (0, 0)) att21_0_4 hb) (below_step att21_0_0 hb) ?_; clear HO_6 HO_7 BK516 BK528 HB; intro HO_6 HO_7 BK516 BK528 HB; (try clear hb); (try clear hb2); (try clear hk); (try clear hi); have p535 : 0 ≤ (x10_2 : Int) := of_decide_eq_true atgA_; have q535 : x10_2 < (t517.length : Int) := of_decide_eq_true atgA_; obtain ⟨ad535, e535, hx535_0, hx535_1, hx535_2, hx535_3, hx535_4⟩ := at_T46 (Kd.R_reads' HO_7.out).2.2 x10_2 p535 q535; obtain rfl : ad533 = ad535 := (by injection e535); replace p535 := eq_true p535; replace q535 := eq_true q535; have p536 : 0 ≤ (x10_2 : Int) := of_decide_eq_true atgA_; have q536 : x10_2 < (t517.length : Int) := of_decide_eq_true atgA_; obtain ⟨ad536, e536, hx536_0, hx536_1, hx536_2, hx536_3, hx536_4⟩ := at_T46 (Kd.R_reads' HO_7.out).2.2 x10_2 p536 q536; obtain rfl : ad533 = ad536 := (by injection e536); replace p536 := eq_true p536; replace q536 := eq_true q536; have p539 : 0 ≤ (x10_2 : Int) := of_decide_eq_true atgA_; have q539 : x10_2 < (t517.length : Int) := of_decide_eq_true atgA_; obtain ⟨ad539, e539, hx539_0, hx539_1, hx539_2, hx539_3, hx539_4⟩ := at_T46 (Kd.R_reads' HO_7.out).2.2 x10_2 p539 q539; obtain rfl : ad533 = ad539 := (by injection e539); replace p539 := eq_true p539; replace q539 := eq_true q539))
               go_roundg k2
               case measure => have := HJ7.out; have := HK2.out; omega
               case rel => exact ⟨(wrap64 (x10_2 + 1)), atgR_, H', ⟨att21_0_22⟩, ⟨att21_0_6⟩, ⟨att21_0_5⟩, ⟨att21_0_2⟩, ⟨att21_0_4⟩, ⟨att21_0_0⟩⟩
            ·rw [if_neg c48] at H
             have c48b0 := beq_eq_false_iff_ne.mpr c48
             have c48b1 := bne_iff_ne.mpr c48
             by_cases c60 : ((rd_T46 t517 x10_2).f0) = 11
             ·rw [if_pos c60] at H
              have c60b0 := beq_iff_eq.mpr c60
              have c60b1 := bne_eq_false_iff_eq.mpr c60
              clear c60
              by_cases c61 : ((rd_T46 t517 x10_2).f4) < t512
              ·rw [if_pos c61] at H
               have c61b0 := decide_eq_true c61
               clear c61
               replace H := Option.bind_eq_some_iff.mp H
               obtain ⟨t545, A620, H⟩ := H
               (try dsimp only at H)
               have A62 := Aside0.mk A620
               clear A620
               by_cases c63 : t545 = true
               ·subst c63
                rw [if_pos rfl] at H
                have H' := Aside0.mk H
                clear H
                have p533 : 0 ≤ (x10_2 : Int) := of_decide_eq_true atgA_
                have q533 : x10_2 < (t517.length : Int) := of_decide_eq_true atgA_
                obtain ⟨ad533, e533, hx533_0, hx533_1, hx533_2, hx533_3, hx533_4⟩ := at_T46 (Kd.R_reads' HO_7.out).2.2 x10_2 p533 q533
                cases e533
                replace p533 := eq_true p533
                replace q533 := eq_true q533
                go_wp2_with (first | ((with_reducible refine gate_callee (f := 28) rfl ?_); refine goesL_ (some 62) rfl rfl Try.func28 (by kernel_rfl) rfl #[.agg #[.int .i64 ((rd_T46 t517 x10_2).f0), .int .i64 ((rd_T46 t517 x10_2).f1), .int .i64 ((rd_T46 t517 x10_2).f2), .int .i64 ((rd_T46 t517 x10_2).f3), .int .i64 ((rd_T46 t517 x10_2).f4)], .int .i64 800] rfl atgM_ ?_; (with_reducible refine (impl_StepOk.calls k2 ((rd_T46 t517 x10_2).f0) ((rd_T46 t517 x10_2).f1) ((rd_T46 t517 x10_2).f2) ((rd_T46 t517 x10_2).f3) ((rd_T46 t517 x10_2).f4) 800 true _ A46.out).mono ?_); rintro e w64 ⟨rfl, hb⟩; refine ⟨_, rfl, ?_⟩; refine swap5_ (Kd.R_below att21_0_6 hb) (Kd.R_below att21_0_5 hb) (blk_below (g := gb516) (o := .cells #[.int .i64 t507, .int .i64 t508, .int .i64 t509, .int .i64 t510, .int .i64 t511] 37 (0, 0)) att21_0_2 hb) (blk_below (g := gb528) (o := .cells #[.int .i64 t523, .int .i64 t524, .int .i64 t525, .int .i64 t526, .int .i64 t527] 37 (0, 0)) att21_0_4 hb) (below_step att21_0_0 hb) ?_; clear HO_6 HO_7 BK516 BK528 HB; intro HO_6 HO_7 BK516 BK528 HB; (try clear hb); (try clear hb2); (try clear hk); (try clear hi); have p535 : 0 ≤ (x10_2 : Int) := of_decide_eq_true atgA_; have q535 : x10_2 < (t517.length : Int) := of_decide_eq_true atgA_; obtain ⟨ad535, e535, hx535_0, hx535_1, hx535_2, hx535_3, hx535_4⟩ := at_T46 (Kd.R_reads' HO_7.out).2.2 x10_2 p535 q535; obtain rfl : ad533 = ad535 := (by injection e535); replace p535 := eq_true p535; replace q535 := eq_true q535; have p542 : 0 ≤ (x10_2 : Int) := of_decide_eq_true atgA_; have q542 : x10_2 < (t517.length : Int) := of_decide_eq_true atgA_; obtain ⟨ad542, e542, hx542_0, hx542_1, hx542_2, hx542_3, hx542_4⟩ := at_T46 (Kd.R_reads' HO_7.out).2.2 x10_2 p542 q542; obtain rfl : ad533 = ad542 := (by injection e542); replace p542 := eq_true p542; replace q542 := eq_true q542; have p543 : 0 ≤ (x10_2 : Int) := of_decide_eq_true atgA_; have q543 : x10_2 < (t517.length : Int) := of_decide_eq_true atgA_; obtain ⟨ad543, e543, hx543_0, hx543_1, hx543_2, hx543_3, hx543_4⟩ := at_T46 (Kd.R_reads' HO_7.out).2.2 x10_2 p543 q543; obtain rfl : ad533 = ad543 := (by injection e543); replace p543 := eq_true p543; replace q543 := eq_true q543; have p544 : 0 ≤ (x10_2 : Int) := of_decide_eq_true atgA_; have q544 : x10_2 < (t517.length : Int) := of_decide_eq_true atgA_; obtain ⟨ad544, e544, hx544_0, hx544_1, hx544_2, hx544_3, hx544_4⟩ := at_T46 (Kd.R_reads' HO_7.out).2.2 x10_2 p544 q544; obtain rfl : ad533 = ad544 := (by injection e544); replace p544 := eq_true p544; replace q544 := eq_true q544) | (go_at_call 29; (with_reducible refine (laws_within.calls k2 _ _ t513 ((rd_T46 t517 x10_2).f4) true _ ?side1 ?side2 A62.out).mono ?_); (case side1 => repeat (first | exact (Kd.R_reads' HO_6.out).2.2 | (with_reducible refine Kd.C_alloc ?_ _) | (with_reducible refine Kd.C_drewN ?_ _) | (with_reducible refine Kd.C_drew ?_))); (case side2 => exact (Kd.R_reads' HO_6.out).2.1); rintro e w' ⟨rfl, ⟨nd, rfl⟩⟩))
                go_roundg k2
                case measure => have := HJ7.out; have := HK2.out; omega
                case rel => exact ⟨(wrap64 (x10_2 + 1)), atgR_, H', ⟨att21_0_22⟩, ⟨att21_0_6⟩, ⟨att21_0_5⟩, ⟨att21_0_2⟩, ⟨att21_0_4⟩, ⟨att21_0_0⟩⟩
               ·replace c63 := Bool.eq_false_iff.mpr c63
                subst c63
                rw [if_neg (show ¬ (false = true) by decide)] at H
                obtain rfl := Option.some.inj H
                have p533 : 0 ≤ (x10_2 : Int) := of_decide_eq_true atgA_
                have q533 : x10_2 < (t517.length : Int) := of_decide_eq_true atgA_
                obtain ⟨ad533, e533, hx533_0, hx533_1, hx533_2, hx533_3, hx533_4⟩ := at_T46 (Kd.R_reads' HO_7.out).2.2 x10_2 p533 q533
                cases e533
                replace p533 := eq_true p533
                replace q533 := eq_true q533
                go_wp2_with (first | ((with_reducible refine gate_callee (f := 28) rfl ?_); refine goesL_ (some 62) rfl rfl Try.func28 (by kernel_rfl) rfl #[.agg #[.int .i64 ((rd_T46 t517 x10_2).f0), .int .i64 ((rd_T46 t517 x10_2).f1), .int .i64 ((rd_T46 t517 x10_2).f2), .int .i64 ((rd_T46 t517 x10_2).f3), .int .i64 ((rd_T46 t517 x10_2).f4)], .int .i64 800] rfl atgM_ ?_; (with_reducible refine (impl_StepOk.calls k2 ((rd_T46 t517 x10_2).f0) ((rd_T46 t517 x10_2).f1) ((rd_T46 t517 x10_2).f2) ((rd_T46 t517 x10_2).f3) ((rd_T46 t517 x10_2).f4) 800 true _ A46.out).mono ?_); rintro e w65 ⟨rfl, hb⟩; refine ⟨_, rfl, ?_⟩; refine swap5_ (Kd.R_below att21_0_6 hb) (Kd.R_below att21_0_5 hb) (blk_below (g := gb516) (o := .cells #[.int .i64 t507, .int .i64 t508, .int .i64 t509, .int .i64 t510, .int .i64 t511] 37 (0, 0)) att21_0_2 hb) (blk_below (g := gb528) (o := .cells #[.int .i64 t523, .int .i64 t524, .int .i64 t525, .int .i64 t526, .int .i64 t527] 37 (0, 0)) att21_0_4 hb) (below_step att21_0_0 hb) ?_; clear HO_6 HO_7 BK516 BK528 HB; intro HO_6 HO_7 BK516 BK528 HB; (try clear hb); (try clear hb2); (try clear hk); (try clear hi); have p535 : 0 ≤ (x10_2 : Int) := of_decide_eq_true atgA_; have q535 : x10_2 < (t517.length : Int) := of_decide_eq_true atgA_; obtain ⟨ad535, e535, hx535_0, hx535_1, hx535_2, hx535_3, hx535_4⟩ := at_T46 (Kd.R_reads' HO_7.out).2.2 x10_2 p535 q535; obtain rfl : ad533 = ad535 := (by injection e535); replace p535 := eq_true p535; replace q535 := eq_true q535; have p542 : 0 ≤ (x10_2 : Int) := of_decide_eq_true atgA_; have q542 : x10_2 < (t517.length : Int) := of_decide_eq_true atgA_; obtain ⟨ad542, e542, hx542_0, hx542_1, hx542_2, hx542_3, hx542_4⟩ := at_T46 (Kd.R_reads' HO_7.out).2.2 x10_2 p542 q542; obtain rfl : ad533 = ad542 := (by injection e542); replace p542 := eq_true p542; replace q542 := eq_true q542; have p543 : 0 ≤ (x10_2 : Int) := of_decide_eq_true atgA_; have q543 : x10_2 < (t517.length : Int) := of_decide_eq_true atgA_; obtain ⟨ad543, e543, hx543_0, hx543_1, hx543_2, hx543_3, hx543_4⟩ := at_T46 (Kd.R_reads' HO_7.out).2.2 x10_2 p543 q543; obtain rfl : ad533 = ad543 := (by injection e543); replace p543 := eq_true p543; replace q543 := eq_true q543; have p544 : 0 ≤ (x10_2 : Int) := of_decide_eq_true atgA_; have q544 : x10_2 < (t517.length : Int) := of_decide_eq_true atgA_; obtain ⟨ad544, e544, hx544_0, hx544_1, hx544_2, hx544_3, hx544_4⟩ := at_T46 (Kd.R_reads' HO_7.out).2.2 x10_2 p544 q544; obtain rfl : ad533 = ad544 := (by injection e544); replace p544 := eq_true p544; replace q544 := eq_true q544) | (go_at_call 29; (with_reducible refine (laws_within.calls k2 _ _ t513 ((rd_T46 t517 x10_2).f4) false _ ?side1 ?side2 A62.out).mono ?_); (case side1 => repeat (first | exact (Kd.R_reads' HO_6.out).2.2 | (with_reducible refine Kd.C_alloc ?_ _) | (with_reducible refine Kd.C_drewN ?_ _) | (with_reducible refine Kd.C_drew ?_))); (case side2 => exact (Kd.R_reads' HO_6.out).2.1); rintro e w' ⟨rfl, ⟨nd, rfl⟩⟩))
                go_ret
                exact ⟨retT_, att21_0_0⟩
              ·rw [if_neg c61] at H
               have c61b0 := decide_eq_false c61
               clear c61
               by_cases c66 : ((rd_T46 t517 x10_2).f4) > (wrap64 (t512 + (t517.length : Int)))
               ·rw [if_pos c66] at H
                have c66b0 := decide_eq_true c66
                clear c66
                replace H := Option.bind_eq_some_iff.mp H
                obtain ⟨t548, A670, H⟩ := H
                (try dsimp only at H)
                have A67 := Aside0.mk A670
                clear A670
                by_cases c68 : t548 = true
                ·subst c68
                 rw [if_pos rfl] at H
                 have H' := Aside0.mk H
                 clear H
                 have p533 : 0 ≤ (x10_2 : Int) := of_decide_eq_true atgA_
                 have q533 : x10_2 < (t517.length : Int) := of_decide_eq_true atgA_
                 obtain ⟨ad533, e533, hx533_0, hx533_1, hx533_2, hx533_3, hx533_4⟩ := at_T46 (Kd.R_reads' HO_7.out).2.2 x10_2 p533 q533
                 cases e533
                 replace p533 := eq_true p533
                 replace q533 := eq_true q533
                 go_wp2_with (first | ((with_reducible refine gate_callee (f := 28) rfl ?_); refine goesL_ (some 62) rfl rfl Try.func28 (by kernel_rfl) rfl #[.agg #[.int .i64 ((rd_T46 t517 x10_2).f0), .int .i64 ((rd_T46 t517 x10_2).f1), .int .i64 ((rd_T46 t517 x10_2).f2), .int .i64 ((rd_T46 t517 x10_2).f3), .int .i64 ((rd_T46 t517 x10_2).f4)], .int .i64 800] rfl atgM_ ?_; (with_reducible refine (impl_StepOk.calls k2 ((rd_T46 t517 x10_2).f0) ((rd_T46 t517 x10_2).f1) ((rd_T46 t517 x10_2).f2) ((rd_T46 t517 x10_2).f3) ((rd_T46 t517 x10_2).f4) 800 true _ A46.out).mono ?_); rintro e w69 ⟨rfl, hb⟩; refine ⟨_, rfl, ?_⟩; refine swap5_ (Kd.R_below att21_0_6 hb) (Kd.R_below att21_0_5 hb) (blk_below (g := gb516) (o := .cells #[.int .i64 t507, .int .i64 t508, .int .i64 t509, .int .i64 t510, .int .i64 t511] 37 (0, 0)) att21_0_2 hb) (blk_below (g := gb528) (o := .cells #[.int .i64 t523, .int .i64 t524, .int .i64 t525, .int .i64 t526, .int .i64 t527] 37 (0, 0)) att21_0_4 hb) (below_step att21_0_0 hb) ?_; clear HO_6 HO_7 BK516 BK528 HB; intro HO_6 HO_7 BK516 BK528 HB; (try clear hb); (try clear hb2); (try clear hk); (try clear hi); have p535 : 0 ≤ (x10_2 : Int) := of_decide_eq_true atgA_; have q535 : x10_2 < (t517.length : Int) := of_decide_eq_true atgA_; obtain ⟨ad535, e535, hx535_0, hx535_1, hx535_2, hx535_3, hx535_4⟩ := at_T46 (Kd.R_reads' HO_7.out).2.2 x10_2 p535 q535; obtain rfl : ad533 = ad535 := (by injection e535); replace p535 := eq_true p535; replace q535 := eq_true q535; have p542 : 0 ≤ (x10_2 : Int) := of_decide_eq_true atgA_; have q542 : x10_2 < (t517.length : Int) := of_decide_eq_true atgA_; obtain ⟨ad542, e542, hx542_0, hx542_1, hx542_2, hx542_3, hx542_4⟩ := at_T46 (Kd.R_reads' HO_7.out).2.2 x10_2 p542 q542; obtain rfl : ad533 = ad542 := (by injection e542); replace p542 := eq_true p542; replace q542 := eq_true q542; have p543 : 0 ≤ (x10_2 : Int) := of_decide_eq_true atgA_; have q543 : x10_2 < (t517.length : Int) := of_decide_eq_true atgA_; obtain ⟨ad543, e543, hx543_0, hx543_1, hx543_2, hx543_3, hx543_4⟩ := at_T46 (Kd.R_reads' HO_7.out).2.2 x10_2 p543 q543; obtain rfl : ad533 = ad543 := (by injection e543); replace p543 := eq_true p543; replace q543 := eq_true q543; have p546 : 0 ≤ (x10_2 : Int) := of_decide_eq_true atgA_; have q546 : x10_2 < (t517.length : Int) := of_decide_eq_true atgA_; obtain ⟨ad546, e546, hx546_0, hx546_1, hx546_2, hx546_3, hx546_4⟩ := at_T46 (Kd.R_reads' HO_7.out).2.2 x10_2 p546 q546; obtain rfl : ad533 = ad546 := (by injection e546); replace p546 := eq_true p546; replace q546 := eq_true q546; have p547 : 0 ≤ (x10_2 : Int) := of_decide_eq_true atgA_; have q547 : x10_2 < (t517.length : Int) := of_decide_eq_true atgA_; obtain ⟨ad547, e547, hx547_0, hx547_1, hx547_2, hx547_3, hx547_4⟩ := at_T46 (Kd.R_reads' HO_7.out).2.2 x10_2 p547 q547; obtain rfl : ad533 = ad547 := (by injection e547); replace p547 := eq_true p547; replace q547 := eq_true q547) | (go_at_call 29; (with_reducible refine (laws_within.calls k2 _ _ t513 ((rd_T46 t517 x10_2).f4) true _ ?side1 ?side2 A67.out).mono ?_); (case side1 => repeat (first | exact (Kd.R_reads' HO_6.out).2.2 | (with_reducible refine Kd.C_alloc ?_ _) | (with_reducible refine Kd.C_drewN ?_ _) | (with_reducible refine Kd.C_drew ?_))); (case side2 => exact (Kd.R_reads' HO_6.out).2.1); rintro e w' ⟨rfl, ⟨nd, rfl⟩⟩))
                 go_roundg k2
                 case measure => have := HJ7.out; have := HK2.out; omega
                 case rel => exact ⟨(wrap64 (x10_2 + 1)), atgR_, H', ⟨att21_0_22⟩, ⟨att21_0_6⟩, ⟨att21_0_5⟩, ⟨att21_0_2⟩, ⟨att21_0_4⟩, ⟨att21_0_0⟩⟩
                ·replace c68 := Bool.eq_false_iff.mpr c68
                 subst c68
                 rw [if_neg (show ¬ (false = true) by decide)] at H
                 obtain rfl := Option.some.inj H
                 have p533 : 0 ≤ (x10_2 : Int) := of_decide_eq_true atgA_
                 have q533 : x10_2 < (t517.length : Int) := of_decide_eq_true atgA_
                 obtain ⟨ad533, e533, hx533_0, hx533_1, hx533_2, hx533_3, hx533_4⟩ := at_T46 (Kd.R_reads' HO_7.out).2.2 x10_2 p533 q533
                 cases e533
                 replace p533 := eq_true p533
                 replace q533 := eq_true q533
                 go_wp2_with (first | ((with_reducible refine gate_callee (f := 28) rfl ?_); refine goesL_ (some 62) rfl rfl Try.func28 (by kernel_rfl) rfl #[.agg #[.int .i64 ((rd_T46 t517 x10_2).f0), .int .i64 ((rd_T46 t517 x10_2).f1), .int .i64 ((rd_T46 t517 x10_2).f2), .int .i64 ((rd_T46 t517 x10_2).f3), .int .i64 ((rd_T46 t517 x10_2).f4)], .int .i64 800] rfl atgM_ ?_; (with_reducible refine (impl_StepOk.calls k2 ((rd_T46 t517 x10_2).f0) ((rd_T46 t517 x10_2).f1) ((rd_T46 t517 x10_2).f2) ((rd_T46 t517 x10_2).f3) ((rd_T46 t517 x10_2).f4) 800 true _ A46.out).mono ?_); rintro e w70 ⟨rfl, hb⟩; refine ⟨_, rfl, ?_⟩; refine swap5_ (Kd.R_below att21_0_6 hb) (Kd.R_below att21_0_5 hb) (blk_below (g := gb516) (o := .cells #[.int .i64 t507, .int .i64 t508, .int .i64 t509, .int .i64 t510, .int .i64 t511] 37 (0, 0)) att21_0_2 hb) (blk_below (g := gb528) (o := .cells #[.int .i64 t523, .int .i64 t524, .int .i64 t525, .int .i64 t526, .int .i64 t527] 37 (0, 0)) att21_0_4 hb) (below_step att21_0_0 hb) ?_; clear HO_6 HO_7 BK516 BK528 HB; intro HO_6 HO_7 BK516 BK528 HB; (try clear hb); (try clear hb2); (try clear hk); (try clear hi); have p535 : 0 ≤ (x10_2 : Int) := of_decide_eq_true atgA_; have q535 : x10_2 < (t517.length : Int) := of_decide_eq_true atgA_; obtain ⟨ad535, e535, hx535_0, hx535_1, hx535_2, hx535_3, hx535_4⟩ := at_T46 (Kd.R_reads' HO_7.out).2.2 x10_2 p535 q535; obtain rfl : ad533 = ad535 := (by injection e535); replace p535 := eq_true p535; replace q535 := eq_true q535; have p542 : 0 ≤ (x10_2 : Int) := of_decide_eq_true atgA_; have q542 : x10_2 < (t517.length : Int) := of_decide_eq_true atgA_; obtain ⟨ad542, e542, hx542_0, hx542_1, hx542_2, hx542_3, hx542_4⟩ := at_T46 (Kd.R_reads' HO_7.out).2.2 x10_2 p542 q542; obtain rfl : ad533 = ad542 := (by injection e542); replace p542 := eq_true p542; replace q542 := eq_true q542; have p543 : 0 ≤ (x10_2 : Int) := of_decide_eq_true atgA_; have q543 : x10_2 < (t517.length : Int) := of_decide_eq_true atgA_; obtain ⟨ad543, e543, hx543_0, hx543_1, hx543_2, hx543_3, hx543_4⟩ := at_T46 (Kd.R_reads' HO_7.out).2.2 x10_2 p543 q543; obtain rfl : ad533 = ad543 := (by injection e543); replace p543 := eq_true p543; replace q543 := eq_true q543; have p546 : 0 ≤ (x10_2 : Int) := of_decide_eq_true atgA_; have q546 : x10_2 < (t517.length : Int) := of_decide_eq_true atgA_; obtain ⟨ad546, e546, hx546_0, hx546_1, hx546_2, hx546_3, hx546_4⟩ := at_T46 (Kd.R_reads' HO_7.out).2.2 x10_2 p546 q546; obtain rfl : ad533 = ad546 := (by injection e546); replace p546 := eq_true p546; replace q546 := eq_true q546; have p547 : 0 ≤ (x10_2 : Int) := of_decide_eq_true atgA_; have q547 : x10_2 < (t517.length : Int) := of_decide_eq_true atgA_; obtain ⟨ad547, e547, hx547_0, hx547_1, hx547_2, hx547_3, hx547_4⟩ := at_T46 (Kd.R_reads' HO_7.out).2.2 x10_2 p547 q547; obtain rfl : ad533 = ad547 := (by injection e547); replace p547 := eq_true p547; replace q547 := eq_true q547) | (go_at_call 29; (with_reducible refine (laws_within.calls k2 _ _ t513 ((rd_T46 t517 x10_2).f4) false _ ?side1 ?side2 A67.out).mono ?_); (case side1 => repeat (first | exact (Kd.R_reads' HO_6.out).2.2 | (with_reducible refine Kd.C_alloc ?_ _) | (with_reducible refine Kd.C_drewN ?_ _) | (with_reducible refine Kd.C_drew ?_))); (case side2 => exact (Kd.R_reads' HO_6.out).2.1); rintro e w' ⟨rfl, ⟨nd, rfl⟩⟩))
                 go_ret
                 exact ⟨retT_, att21_0_0⟩
               ·rw [if_neg c66] at H
                have c66b0 := decide_eq_false c66
                clear c66
                have H' := Aside0.mk H
                clear H
                have p533 : 0 ≤ (x10_2 : Int) := of_decide_eq_true atgA_
                have q533 : x10_2 < (t517.length : Int) := of_decide_eq_true atgA_
                obtain ⟨ad533, e533, hx533_0, hx533_1, hx533_2, hx533_3, hx533_4⟩ := at_T46 (Kd.R_reads' HO_7.out).2.2 x10_2 p533 q533
                cases e533
                replace p533 := eq_true p533
                replace q533 := eq_true q533
                go_wp2_with (first | ((with_reducible refine gate_callee (f := 28) rfl ?_); refine goesL_ (some 62) rfl rfl Try.func28 (by kernel_rfl) rfl #[.agg #[.int .i64 ((rd_T46 t517 x10_2).f0), .int .i64 ((rd_T46 t517 x10_2).f1), .int .i64 ((rd_T46 t517 x10_2).f2), .int .i64 ((rd_T46 t517 x10_2).f3), .int .i64 ((rd_T46 t517 x10_2).f4)], .int .i64 800] rfl atgM_ ?_; (with_reducible refine (impl_StepOk.calls k2 ((rd_T46 t517 x10_2).f0) ((rd_T46 t517 x10_2).f1) ((rd_T46 t517 x10_2).f2) ((rd_T46 t517 x10_2).f3) ((rd_T46 t517 x10_2).f4) 800 true _ A46.out).mono ?_); rintro e w71 ⟨rfl, hb⟩; refine ⟨_, rfl, ?_⟩; refine swap5_ (Kd.R_below att21_0_6 hb) (Kd.R_below att21_0_5 hb) (blk_below (g := gb516) (o := .cells #[.int .i64 t507, .int .i64 t508, .int .i64 t509, .int .i64 t510, .int .i64 t511] 37 (0, 0)) att21_0_2 hb) (blk_below (g := gb528) (o := .cells #[.int .i64 t523, .int .i64 t524, .int .i64 t525, .int .i64 t526, .int .i64 t527] 37 (0, 0)) att21_0_4 hb) (below_step att21_0_0 hb) ?_; clear HO_6 HO_7 BK516 BK528 HB; intro HO_6 HO_7 BK516 BK528 HB; (try clear hb); (try clear hb2); (try clear hk); (try clear hi); have p535 : 0 ≤ (x10_2 : Int) := of_decide_eq_true atgA_; have q535 : x10_2 < (t517.length : Int) := of_decide_eq_true atgA_; obtain ⟨ad535, e535, hx535_0, hx535_1, hx535_2, hx535_3, hx535_4⟩ := at_T46 (Kd.R_reads' HO_7.out).2.2 x10_2 p535 q535; obtain rfl : ad533 = ad535 := (by injection e535); replace p535 := eq_true p535; replace q535 := eq_true q535; have p542 : 0 ≤ (x10_2 : Int) := of_decide_eq_true atgA_; have q542 : x10_2 < (t517.length : Int) := of_decide_eq_true atgA_; obtain ⟨ad542, e542, hx542_0, hx542_1, hx542_2, hx542_3, hx542_4⟩ := at_T46 (Kd.R_reads' HO_7.out).2.2 x10_2 p542 q542; obtain rfl : ad533 = ad542 := (by injection e542); replace p542 := eq_true p542; replace q542 := eq_true q542; have p543 : 0 ≤ (x10_2 : Int) := of_decide_eq_true atgA_; have q543 : x10_2 < (t517.length : Int) := of_decide_eq_true atgA_; obtain ⟨ad543, e543, hx543_0, hx543_1, hx543_2, hx543_3, hx543_4⟩ := at_T46 (Kd.R_reads' HO_7.out).2.2 x10_2 p543 q543; obtain rfl : ad533 = ad543 := (by injection e543); replace p543 := eq_true p543; replace q543 := eq_true q543; have p546 : 0 ≤ (x10_2 : Int) := of_decide_eq_true atgA_; have q546 : x10_2 < (t517.length : Int) := of_decide_eq_true atgA_; obtain ⟨ad546, e546, hx546_0, hx546_1, hx546_2, hx546_3, hx546_4⟩ := at_T46 (Kd.R_reads' HO_7.out).2.2 x10_2 p546 q546; obtain rfl : ad533 = ad546 := (by injection e546); replace p546 := eq_true p546; replace q546 := eq_true q546))
                go_roundg k2
                case measure => have := HJ7.out; have := HK2.out; omega
                case rel => exact ⟨(wrap64 (x10_2 + 1)), atgR_, H', ⟨att21_0_22⟩, ⟨att21_0_6⟩, ⟨att21_0_5⟩, ⟨att21_0_2⟩, ⟨att21_0_4⟩, ⟨att21_0_0⟩⟩
             ·rw [if_neg c60] at H
              have c60b0 := beq_eq_false_iff_ne.mpr c60
              have c60b1 := bne_iff_ne.mpr c60
              have H' := Aside0.mk H
              clear H
              have p533 : 0 ≤ (x10_2 : Int) := of_decide_eq_true atgA_
              have q533 : x10_2 < (t517.length : Int) := of_decide_eq_true atgA_
              obtain ⟨ad533, e533, hx533_0, hx533_1, hx533_2, hx533_3, hx533_4⟩ := at_T46 (Kd.R_reads' HO_7.out).2.2 x10_2 p533 q533
              cases e533
              replace p533 := eq_true p533
              replace q533 := eq_true q533
              go_wp2_with (first | ((with_reducible refine gate_callee (f := 28) rfl ?_); refine goesL_ (some 62) rfl rfl Try.func28 (by kernel_rfl) rfl #[.agg #[.int .i64 ((rd_T46 t517 x10_2).f0), .int .i64 ((rd_T46 t517 x10_2).f1), .int .i64 ((rd_T46 t517 x10_2).f2), .int .i64 ((rd_T46 t517 x10_2).f3), .int .i64 ((rd_T46 t517 x10_2).f4)], .int .i64 800] rfl atgM_ ?_; (with_reducible refine (impl_StepOk.calls k2 ((rd_T46 t517 x10_2).f0) ((rd_T46 t517 x10_2).f1) ((rd_T46 t517 x10_2).f2) ((rd_T46 t517 x10_2).f3) ((rd_T46 t517 x10_2).f4) 800 true _ A46.out).mono ?_); rintro e w72 ⟨rfl, hb⟩; refine ⟨_, rfl, ?_⟩; refine swap5_ (Kd.R_below att21_0_6 hb) (Kd.R_below att21_0_5 hb) (blk_below (g := gb516) (o := .cells #[.int .i64 t507, .int .i64 t508, .int .i64 t509, .int .i64 t510, .int .i64 t511] 37 (0, 0)) att21_0_2 hb) (blk_below (g := gb528) (o := .cells #[.int .i64 t523, .int .i64 t524, .int .i64 t525, .int .i64 t526, .int .i64 t527] 37 (0, 0)) att21_0_4 hb) (below_step att21_0_0 hb) ?_; clear HO_6 HO_7 BK516 BK528 HB; intro HO_6 HO_7 BK516 BK528 HB; (try clear hb); (try clear hb2); (try clear hk); (try clear hi); have p535 : 0 ≤ (x10_2 : Int) := of_decide_eq_true atgA_; have q535 : x10_2 < (t517.length : Int) := of_decide_eq_true atgA_; obtain ⟨ad535, e535, hx535_0, hx535_1, hx535_2, hx535_3, hx535_4⟩ := at_T46 (Kd.R_reads' HO_7.out).2.2 x10_2 p535 q535; obtain rfl : ad533 = ad535 := (by injection e535); replace p535 := eq_true p535; replace q535 := eq_true q535; have p542 : 0 ≤ (x10_2 : Int) := of_decide_eq_true atgA_; have q542 : x10_2 < (t517.length : Int) := of_decide_eq_true atgA_; obtain ⟨ad542, e542, hx542_0, hx542_1, hx542_2, hx542_3, hx542_4⟩ := at_T46 (Kd.R_reads' HO_7.out).2.2 x10_2 p542 q542; obtain rfl : ad533 = ad542 := (by injection e542); replace p542 := eq_true p542; replace q542 := eq_true q542))
              go_roundg k2
              case measure => have := HJ7.out; have := HK2.out; omega
              case rel => exact ⟨(wrap64 (x10_2 + 1)), atgR_, H', ⟨att21_0_22⟩, ⟨att21_0_6⟩, ⟨att21_0_5⟩, ⟨att21_0_2⟩, ⟨att21_0_4⟩, ⟨att21_0_0⟩⟩
           ·replace c47 := Bool.eq_false_iff.mpr c47
            subst c47
            rw [if_neg (show ¬ (false = true) by decide)] at H
            obtain rfl := Option.some.inj H
            have p533 : 0 ≤ (x10_2 : Int) := of_decide_eq_true atgA_
            have q533 : x10_2 < (t517.length : Int) := of_decide_eq_true atgA_
            obtain ⟨ad533, e533, hx533_0, hx533_1, hx533_2, hx533_3, hx533_4⟩ := at_T46 (Kd.R_reads' HO_7.out).2.2 x10_2 p533 q533
            cases e533
            replace p533 := eq_true p533
            replace q533 := eq_true q533
            go_wp2_with (first | ((with_reducible refine gate_callee (f := 28) rfl ?_); refine goesL_ (some 62) rfl rfl Try.func28 (by kernel_rfl) rfl #[.agg #[.int .i64 ((rd_T46 t517 x10_2).f0), .int .i64 ((rd_T46 t517 x10_2).f1), .int .i64 ((rd_T46 t517 x10_2).f2), .int .i64 ((rd_T46 t517 x10_2).f3), .int .i64 ((rd_T46 t517 x10_2).f4)], .int .i64 800] rfl atgM_ ?_; (with_reducible refine (impl_StepOk.calls k2 ((rd_T46 t517 x10_2).f0) ((rd_T46 t517 x10_2).f1) ((rd_T46 t517 x10_2).f2) ((rd_T46 t517 x10_2).f3) ((rd_T46 t517 x10_2).f4) 800 false _ A46.out).mono ?_); rintro e w73 ⟨rfl, hb⟩; refine ⟨_, rfl, ?_⟩; refine swap5_ (Kd.R_below att21_0_6 hb) (Kd.R_below att21_0_5 hb) (blk_below (g := gb516) (o := .cells #[.int .i64 t507, .int .i64 t508, .int .i64 t509, .int .i64 t510, .int .i64 t511] 37 (0, 0)) att21_0_2 hb) (blk_below (g := gb528) (o := .cells #[.int .i64 t523, .int .i64 t524, .int .i64 t525, .int .i64 t526, .int .i64 t527] 37 (0, 0)) att21_0_4 hb) (below_step att21_0_0 hb) ?_; clear HO_6 HO_7 BK516 BK528 HB; intro HO_6 HO_7 BK516 BK528 HB; (try clear hb); (try clear hb2); (try clear hk); (try clear hi)))
            go_ret
            exact ⟨retT_, att21_0_0⟩
          ·rw [if_neg c45] at H
           exact absurd H (by simp)
         ·rw [if_neg c44] at H
          have c44b0 := decide_eq_false c44
          clear c44
          obtain rfl := Option.some.inj H
          go_wp2
          go_ret
          exact ⟨retT_, att21_0_0⟩
      ·rw [if_neg c39] at H
       have c39b0 := beq_eq_false_iff_ne.mpr c39
       have c39b1 := bne_iff_ne.mpr c39
       obtain rfl := Option.some.inj H
       obtain ⟨Ao74, co74, eo74⟩ := Kd.R_slice HO_7.out
       subst eo74
       have hnb75 := NB516_528.out
       have hnc75 := NB528_516.out
       obtain ⟨hcz76_0, hcz76_1, hcz76_2, hcz76_3, hcz76_4, hfz76_0, hfz76_1, hfz76_2, hfz76_3, hfz76_4⟩ := blkB5_ BK516
       go_wp2_with (first | ((with_reducible refine gate_callee (f := 26) rfl ?_); refine goesL_ (some 50) rfl rfl Try.func26 (by kernel_rfl) rfl #[.agg #[.int .i64 t507, .int .i64 t508, .int .i64 t509, .int .i64 t510, .int .i64 t511]] rfl atgM_ ?_; (with_reducible refine (impl_EmitSize.calls t507 t508 t509 t510 t511 t532 _ A38.out).mono ?_); rintro e w77 ⟨rfl, hb⟩; refine ⟨_, rfl, ?_⟩; refine swap5_ (Kd.R_below att21_0_6 hb) (Kd.R_below att21_0_5 hb) (blk_below (g := gb516) (o := .cells #[.int .i64 t507, .int .i64 t508, .int .i64 t509, .int .i64 t510, .int .i64 t511] 37 (0, 0)) att21_0_2 hb) (blk_below (g := gb528) (o := .cells #[.int .i64 t523, .int .i64 t524, .int .i64 t525, .int .i64 t526, .int .i64 t527] 37 (0, 0)) att21_0_4 hb) (below_step att21_0_0 hb) ?_; clear HO_6 HO_7 BK516 BK528 HB; intro HO_6 HO_7 BK516 BK528 HB; (try clear hb); (try clear hb2); (try clear hk); (try clear hi)))
       go_ret
       exact ⟨retT_, att21_0_0⟩

/-- THE ONE PURE STATEMENT of laws_FnEmitted: yours. -/
def laws_FnEmitted.Pure : Prop := ∀ (l0 : List Int), l0.length ≤ maxLen → l0.length * 1 ≤ 140737488351232 → (∀ x ∈ l0, (Lit.int .u8 x).wf = true) → ∃ k, laws_FnEmitted.f k l0 = some true
theorem laws_FnEmitted.walk (P : laws_FnEmitted.Pure) (a0 : Option Addr) (len0 cap0 : Nat) (z0 : List Int) (w : World) (w0 : (a0 = none ∧ len0 = 0 ∧ cap0 = 0 ∧ z0 = []) ∨ ∃ x, a0 = some x ∧ len0 ≤ cap0 ∧ cap0 ≤ maxLen ∧ z0.length = cap0 ∧ (∀ i, i < z0.length → w.cell? (x.add i) = some (.int .u8 (z0.getD i 0))) ∧ ∀ n ∈ z0, (Lit.int .u8 n).wf = true) (y0 : len0 * 1 ≤ 140737488351232) :
  Calls Try.prog 4 #[.slice a0 len0 cap0] w fun e w' => e = .returned (.bool true) ∧ Below w.heap.size w w' := by
 obtain ⟨l0, rfl, hr0, hm0, hw0, hc0⟩ := ReadsInt.ofRowC w0
 obtain ⟨k, h⟩ := P l0 hm0 y0 hw0
 refine (laws_FnEmitted.calls k _ _ l0 true w (Kd.C_of_reads (d := (0 : Int)) (h1 := fun _ => rfl) hr0) hc0 h).mono ?_
 rintro e w' ⟨rfl, hd⟩
 exact ⟨rfl, hd⟩

end Go.Proofs.Ytonlhgkpmjefkaa.XFnEmitted
