/- Each Go function that the law reaches as a Lean function, and that Go comes to just its answer; written by this session's xprint.py over the kit's printer. -/
import Derived.Test.YtonlhgkpmjefkaaXFnExactEmitx0
import Derived.Test.YtonlhgkpmjefkaaXFnExactEmitx8
namespace Go.Proofs.Ytonlhgkpmjefkaa.XFnExactEmit
open Go.RowKit Go.Proofs.YtonlhgkpmjefkaaW.PrintWords Go.Proofs.YtonlhgkpmjefkaaW.PrintLast Go.Proofs.YtonlhgkpmjefkaaW.PrintMore
attribute [local go_sem] max2_int min2_int max_two min_two max_three min_three max_four min_four   -- for this text's walks alone
set_option linter.unusedVariables false
set_option linter.unusedSimpArgs false

theorem att11_0_0 {p : Prop} (h : p := by repeat (first | (with_reducible first | exact HB.out | apply below_alloc | apply pw_below_drewN | apply below_drew1 | refine below_set ?_ GE362.out) | exact HB.out)) : p := h
theorem att11_0_1 {p : Prop} (h : p := by (with_reducible repeat (first | refine blk_drewN ?_ _ | refine blk_drew ?_ | refine blk_alloc ?_ _)); exact BK362.out) : p := h
theorem att11_0_2 {p : Prop} (h : p := by exact toR_ (HO384.out)) : p := h
theorem att11_0_4 {p : Prop} (h : p := by exact toR_ (HO430.out)) : p := h
theorem att11_0_5 {p : Prop} (h : p := by exact toR_ (HO446.out)) : p := h
theorem att11_0_6 {p : Prop} (h : p := by exact toR_ (HO452.out)) : p := h
theorem att11_0_7 {p : Prop} (h : p := by exact toR_ (HO473.out)) : p := h
theorem att11_0_8 {p : Prop} (h : p := by exact toR_ (HO479.out)) : p := h
theorem att11_0_9 {p : Prop} (h : p := by exact toR_ (HO387.out)) : p := h
theorem att11_0_10 {p : Prop} (h : p := by exact toR_ (HO495.out)) : p := h
theorem att11_0_11 {p : Prop} (h : p := by exact toR_ (HO498.out)) : p := h
theorem att11_0_12 {p : Prop} (h : p := by exact toR_ (HO455.out)) : p := h
theorem att11_0_13 {p : Prop} (h : p := by exact toR_ (HO366.out)) : p := h
theorem att11_0_14 {p : Prop} (h : p := by exact toR_ (HO482.out)) : p := h
theorem att11_0_15 {p : Prop} (h : p := by exact toR_ (HO433.out)) : p := h
theorem att11_0_17 {p : Prop} (h : p := by rintro w' ⟨s0, s1, s2, s3, s4⟩; go_simp; with_reducible rfl) : p := h
theorem att11_0_18 {p : Prop} (h : p := by exact toR_ (HO476.out)) : p := h
theorem att11_0_19 {p : Prop} (h : p := by exact toR_ (HO449.out)) : p := h
theorem att11_0_20 {p : Prop} (h : p := by exact toR_ (Kd.R_mono HO498.out (fun _ hk => ⟨hk.1.1, ⟨hk.1.2.1, ⟨hk.1.2.2.1, ⟨hk.1.2.2.2.1, ⟨hk.1.2.2.2.2.1, ⟨hk.1.2.2.2.2.2.1, ⟨hk.1.2.2.2.2.2.2, hk.2⟩⟩⟩⟩⟩⟩⟩))) : p := h
theorem att11_0_21 {p : Prop} (h : p := by exact toR_ (Kd.R_mono HO495.out (fun _ hk => ⟨⟨hk.1.1.1, ⟨hk.1.1.2.1, ⟨hk.1.1.2.2.1, ⟨hk.1.1.2.2.2.1, ⟨hk.1.1.2.2.2.2.1, ⟨hk.1.1.2.2.2.2.2, hk.2⟩⟩⟩⟩⟩⟩, hk.1.2⟩))) : p := h
theorem att11_0_22 {p : Prop} (h : p := by exact toR_ (Kd.R_mono HO479.out (fun _ hk => ⟨⟨hk.1.1.1, ⟨hk.1.1.2.1, ⟨hk.1.1.2.2.1, ⟨hk.1.1.2.2.2.1, ⟨hk.1.1.2.2.2.2.1, ⟨hk.1.1.2.2.2.2.2, hk.2⟩⟩⟩⟩⟩⟩, hk.1.2⟩))) : p := h
theorem att11_0_23 {p : Prop} (h : p := by exact toR_ (Kd.R_mono HO473.out (fun _ hk => ⟨⟨hk.1.1.1, ⟨hk.1.1.2.1, ⟨hk.1.1.2.2.1, ⟨hk.1.1.2.2.2.1, ⟨hk.1.1.2.2.2.2.1, ⟨hk.1.1.2.2.2.2.2, hk.2⟩⟩⟩⟩⟩⟩, hk.1.2⟩))) : p := h
theorem att11_0_24 {p : Prop} (h : p := by exact toR_ (Kd.R_mono HO452.out (fun _ hk => ⟨⟨hk.1.1.1, ⟨hk.1.1.2.1, ⟨hk.1.1.2.2.1, ⟨hk.1.1.2.2.2.1, ⟨hk.1.1.2.2.2.2.1, ⟨hk.1.1.2.2.2.2.2, hk.2⟩⟩⟩⟩⟩⟩, hk.1.2⟩))) : p := h
theorem att11_0_25 {p : Prop} (h : p := by exact toR_ (Kd.R_mono HO446.out (fun _ hk => ⟨⟨hk.1.1.1, ⟨hk.1.1.2.1, ⟨hk.1.1.2.2.1, ⟨hk.1.1.2.2.2.1, ⟨hk.1.1.2.2.2.2.1, ⟨hk.1.1.2.2.2.2.2, hk.2⟩⟩⟩⟩⟩⟩, hk.1.2⟩))) : p := h
theorem att11_0_26 {p : Prop} (h : p := by exact toR_ (Kd.R_mono HO430.out (fun _ hk => ⟨⟨hk.1.1.1, ⟨hk.1.1.2.1, ⟨hk.1.1.2.2.1, ⟨hk.1.1.2.2.2.1, ⟨hk.1.1.2.2.2.2.1, ⟨hk.1.1.2.2.2.2.2, hk.2⟩⟩⟩⟩⟩⟩, hk.1.2⟩))) : p := h
theorem att11_0_27 {p : Prop} (h : p := by exact toR_ (Kd.R_mono HO384.out (fun _ hk => ⟨⟨hk.1.1.1, ⟨hk.1.1.2.1, ⟨hk.1.1.2.2.1, ⟨hk.1.1.2.2.2.1, ⟨hk.1.1.2.2.2.2.1, ⟨hk.1.1.2.2.2.2.2, hk.2⟩⟩⟩⟩⟩⟩, hk.1.2⟩))) : p := h
theorem att11_0_28 {p : Prop} (h : p := by exact toR_ (Kd.R_mono HO495.out (fun _ hk => ⟨⟨hk.1.1.1.1.1.1.2, ⟨hk.1.1.1.1.1.2, ⟨hk.1.1.1.1.2, ⟨hk.1.1.1.2, ⟨hk.1.1.2, hk.1.2⟩⟩⟩⟩⟩, hk.2⟩))) : p := h
theorem att11_0_29 {p : Prop} (h : p := by exact toR_ (Kd.R_mono HO482.out (fun _ hk => ⟨hk.1.1, ⟨hk.1.2.1, ⟨hk.1.2.2.1, ⟨hk.1.2.2.2.1, ⟨hk.1.2.2.2.2.1, ⟨hk.1.2.2.2.2.2, hk.2⟩⟩⟩⟩⟩⟩))) : p := h
theorem att11_0_30 {p : Prop} (h : p := by exact toR_ (Kd.R_mono HO479.out (fun _ hk => ⟨⟨hk.1.1.1, ⟨hk.1.1.2.1, ⟨hk.1.1.2.2.1, ⟨hk.1.1.2.2.2.1, ⟨hk.1.1.2.2.2.2, hk.2⟩⟩⟩⟩⟩, hk.1.2⟩))) : p := h
theorem att11_0_31 {p : Prop} (h : p := by exact toR_ (Kd.R_mono HO473.out (fun _ hk => ⟨⟨hk.1.1.1, ⟨hk.1.1.2.1, ⟨hk.1.1.2.2.1, ⟨hk.1.1.2.2.2.1, ⟨hk.1.1.2.2.2.2, hk.2⟩⟩⟩⟩⟩, hk.1.2⟩))) : p := h
theorem att11_0_32 {p : Prop} (h : p := by exact toR_ (Kd.R_mono HO452.out (fun _ hk => ⟨⟨hk.1.1.1, ⟨hk.1.1.2.1, ⟨hk.1.1.2.2.1, ⟨hk.1.1.2.2.2.1, ⟨hk.1.1.2.2.2.2, hk.2⟩⟩⟩⟩⟩, hk.1.2⟩))) : p := h
theorem att11_0_33 {p : Prop} (h : p := by exact toR_ (Kd.R_mono HO446.out (fun _ hk => ⟨⟨hk.1.1.1, ⟨hk.1.1.2.1, ⟨hk.1.1.2.2.1, ⟨hk.1.1.2.2.2.1, ⟨hk.1.1.2.2.2.2, hk.2⟩⟩⟩⟩⟩, hk.1.2⟩))) : p := h
theorem att11_0_34 {p : Prop} (h : p := by exact toR_ (Kd.R_mono HO430.out (fun _ hk => ⟨⟨hk.1.1.1, ⟨hk.1.1.2.1, ⟨hk.1.1.2.2.1, ⟨hk.1.1.2.2.2.1, ⟨hk.1.1.2.2.2.2, hk.2⟩⟩⟩⟩⟩, hk.1.2⟩))) : p := h
theorem att11_0_35 {p : Prop} (h : p := by exact toR_ (Kd.R_mono HO384.out (fun _ hk => ⟨⟨hk.1.1.1, ⟨hk.1.1.2.1, ⟨hk.1.1.2.2.1, ⟨hk.1.1.2.2.2.1, ⟨hk.1.1.2.2.2.2, hk.2⟩⟩⟩⟩⟩, hk.1.2⟩))) : p := h
theorem att11_0_36 {p : Prop} (h : p := by exact toR_ (Kd.R_mono HO479.out (fun _ hk => ⟨⟨hk.1.1.1.1.1.2, ⟨hk.1.1.1.1.2, ⟨hk.1.1.1.2, ⟨hk.1.1.2, hk.1.2⟩⟩⟩⟩, hk.2⟩))) : p := h
theorem att11_0_37 {p : Prop} (h : p := by exact toR_ (Kd.R_mono HO476.out (fun _ hk => ⟨hk.1.1, ⟨hk.1.2.1, ⟨hk.1.2.2.1, ⟨hk.1.2.2.2.1, ⟨hk.1.2.2.2.2, hk.2⟩⟩⟩⟩⟩))) : p := h
theorem att11_0_38 {p : Prop} (h : p := by exact toR_ (Kd.R_mono HO473.out (fun _ hk => ⟨⟨hk.1.1.1, ⟨hk.1.1.2.1, ⟨hk.1.1.2.2.1, ⟨hk.1.1.2.2.2, hk.2⟩⟩⟩⟩, hk.1.2⟩))) : p := h
theorem att11_0_39 {p : Prop} (h : p := by exact toR_ (Kd.R_mono HO452.out (fun _ hk => ⟨⟨hk.1.1.1, ⟨hk.1.1.2.1, ⟨hk.1.1.2.2.1, ⟨hk.1.1.2.2.2, hk.2⟩⟩⟩⟩, hk.1.2⟩))) : p := h
theorem att11_0_40 {p : Prop} (h : p := by exact toR_ (Kd.R_mono HO446.out (fun _ hk => ⟨⟨hk.1.1.1, ⟨hk.1.1.2.1, ⟨hk.1.1.2.2.1, ⟨hk.1.1.2.2.2, hk.2⟩⟩⟩⟩, hk.1.2⟩))) : p := h
theorem att11_0_41 {p : Prop} (h : p := by exact toR_ (Kd.R_mono HO430.out (fun _ hk => ⟨⟨hk.1.1.1, ⟨hk.1.1.2.1, ⟨hk.1.1.2.2.1, ⟨hk.1.1.2.2.2, hk.2⟩⟩⟩⟩, hk.1.2⟩))) : p := h
theorem att11_0_42 {p : Prop} (h : p := by exact toR_ (Kd.R_mono HO384.out (fun _ hk => ⟨⟨hk.1.1.1, ⟨hk.1.1.2.1, ⟨hk.1.1.2.2.1, ⟨hk.1.1.2.2.2, hk.2⟩⟩⟩⟩, hk.1.2⟩))) : p := h
theorem att11_0_43 {p : Prop} (h : p := by exact toR_ (Kd.R_mono HO473.out (fun _ hk => ⟨⟨hk.1.1.1.1.2, ⟨hk.1.1.1.2, ⟨hk.1.1.2, hk.1.2⟩⟩⟩, hk.2⟩))) : p := h
theorem att11_0_44 {p : Prop} (h : p := by exact toR_ (Kd.R_mono HO455.out (fun _ hk => ⟨hk.1.1, ⟨hk.1.2.1, ⟨hk.1.2.2.1, ⟨hk.1.2.2.2, hk.2⟩⟩⟩⟩))) : p := h
theorem att11_0_45 {p : Prop} (h : p := by exact toR_ (Kd.R_mono HO452.out (fun _ hk => ⟨⟨hk.1.1.1, ⟨hk.1.1.2.1, ⟨hk.1.1.2.2, hk.2⟩⟩⟩, hk.1.2⟩))) : p := h
theorem att11_0_46 {p : Prop} (h : p := by exact toR_ (Kd.R_mono HO446.out (fun _ hk => ⟨⟨hk.1.1.1, ⟨hk.1.1.2.1, ⟨hk.1.1.2.2, hk.2⟩⟩⟩, hk.1.2⟩))) : p := h
theorem att11_0_47 {p : Prop} (h : p := by exact toR_ (Kd.R_mono HO430.out (fun _ hk => ⟨⟨hk.1.1.1, ⟨hk.1.1.2.1, ⟨hk.1.1.2.2, hk.2⟩⟩⟩, hk.1.2⟩))) : p := h
theorem att11_0_48 {p : Prop} (h : p := by exact toR_ (Kd.R_mono HO384.out (fun _ hk => ⟨⟨hk.1.1.1, ⟨hk.1.1.2.1, ⟨hk.1.1.2.2, hk.2⟩⟩⟩, hk.1.2⟩))) : p := h
theorem att11_0_49 {p : Prop} (h : p := by exact toR_ (Kd.R_mono HO452.out (fun _ hk => ⟨⟨hk.1.1.1.2, ⟨hk.1.1.2, hk.1.2⟩⟩, hk.2⟩))) : p := h
theorem att11_0_50 {p : Prop} (h : p := by exact toR_ (Kd.R_mono HO449.out (fun _ hk => ⟨hk.1.1, ⟨hk.1.2.1, ⟨hk.1.2.2, hk.2⟩⟩⟩))) : p := h
theorem att11_0_51 {p : Prop} (h : p := by exact toR_ (Kd.R_mono HO446.out (fun _ hk => ⟨⟨hk.1.1.1, ⟨hk.1.1.2, hk.2⟩⟩, hk.1.2⟩))) : p := h
theorem att11_0_52 {p : Prop} (h : p := by exact toR_ (Kd.R_mono HO430.out (fun _ hk => ⟨⟨hk.1.1.1, ⟨hk.1.1.2, hk.2⟩⟩, hk.1.2⟩))) : p := h
theorem att11_0_53 {p : Prop} (h : p := by exact toR_ (Kd.R_mono HO384.out (fun _ hk => ⟨⟨hk.1.1.1, ⟨hk.1.1.2, hk.2⟩⟩, hk.1.2⟩))) : p := h
theorem att11_0_54 {p : Prop} (h : p := by exact toR_ (Kd.R_mono HO446.out (fun _ hk => ⟨⟨hk.1.1.2, hk.1.2⟩, hk.2⟩))) : p := h
theorem att11_0_55 {p : Prop} (h : p := by exact toR_ (Kd.R_mono HO433.out (fun _ hk => ⟨hk.1.1, ⟨hk.1.2, hk.2⟩⟩))) : p := h
theorem att11_0_56 {p : Prop} (h : p := by exact toR_ (Kd.R_mono HO430.out (fun _ hk => ⟨⟨hk.1.1, hk.2⟩, hk.1.2⟩))) : p := h
theorem att11_0_57 {p : Prop} (h : p := by exact toR_ (Kd.R_mono HO384.out (fun _ hk => ⟨⟨hk.1.1, hk.2⟩, hk.1.2⟩))) : p := h
theorem att11_0_58 {p : Prop} (h : p := by exact toR_ (Kd.R_mono HO430.out (fun _ hk => ⟨hk.1.2, hk.2⟩))) : p := h
theorem att11_0_59 {p : Prop} (h : p := by exact toR_ (Kd.R_mono HO384.out (fun _ hk => ⟨hk.2, hk.1.2⟩))) : p := h
theorem att11_0_60 {p : Prop} (h : p := by exact toR_ (Kd.R_mono HO366.out (fun _ hk => hk.2))) : p := h
/-! ### spec_l10Take: function 113 -/
def spec_l10Take.f (a0_0 : Int) (a0_1 : Int) (a0_2 : Int) (a0_3 : Int) (a0_4 : Int) (a1 : Int) (a2 : Int) (a3 : Int) : Option ((List (S46))) := (spec_EmitSize.f a0_0 a0_1 a0_2 a0_3 a0_4).bind fun t363 => ((spec_l10Lock.f a1 a3).bind fun t364 => ((spec_l10Load.f 5 (wrap64 (a1 + 2))).bind fun bt367 => ((spec_l10Zero.f 5 (wrap64 (a3 + 22))).bind fun bt372 => ((spec_l10Load.f 4 (wrap64 (a1 + 1))).bind fun bt377 => ((some (([(⟨bt367.1, bt367.2.1, bt367.2.2.1, bt367.2.2.2.1, bt367.2.2.2.2⟩ : S46), (⟨bt372.1, bt372.2.1, bt372.2.2.1, bt372.2.2.2.1, bt372.2.2.2.2⟩ : S46), (⟨bt377.1, bt377.2.1, bt377.2.2.1, bt377.2.2.2.1, bt377.2.2.2.2⟩ : S46), (⟨5, a0_1, 4, 0, wrap64 (a1 + 4)⟩ : S46)] : List (S46)) : List (S46))).bind fun y382 => (if t364.length + y382.length < 3518437208883 then ((some (t364 ++ y382 : List (S46))).bind fun y385 => ((spec_l10Set.f 7 1).bind fun bt388 => ((spec_l10Three.f 2 4 4 7).bind fun bt393 => ((spec_l10Three.f 3 5 5 7).bind fun bt398 => ((spec_l10Set.f 7 a2).bind fun bt403 => ((spec_l10Three.f 4 6 4 7).bind fun bt408 => ((spec_l10Zero.f 6 (wrap64 (a3 + 15))).bind fun bt413 => ((spec_l10Jump.f (wrap64 (a3 + 16))).bind fun bt418 => ((spec_l10Set.f 4 0).bind fun bt423 => ((some (([(⟨bt388.1, bt388.2.1, bt388.2.2.1, bt388.2.2.2.1, bt388.2.2.2.2⟩ : S46), (⟨bt393.1, bt393.2.1, bt393.2.2.1, bt393.2.2.2.1, bt393.2.2.2.2⟩ : S46), (⟨bt398.1, bt398.2.1, bt398.2.2.1, bt398.2.2.2.1, bt398.2.2.2.2⟩ : S46), (⟨bt403.1, bt403.2.1, bt403.2.2.1, bt403.2.2.2.1, bt403.2.2.2.2⟩ : S46), (⟨bt408.1, bt408.2.1, bt408.2.2.1, bt408.2.2.2.1, bt408.2.2.2.2⟩ : S46), (⟨bt413.1, bt413.2.1, bt413.2.2.1, bt413.2.2.2.1, bt413.2.2.2.2⟩ : S46), (⟨bt418.1, bt418.2.1, bt418.2.2.1, bt418.2.2.2.1, bt418.2.2.2.2⟩ : S46), (⟨bt423.1, bt423.2.1, bt423.2.2.1, bt423.2.2.2.1, bt423.2.2.2.2⟩ : S46)] : List (S46)) : List (S46))).bind fun y428 => (if y385.length + y428.length < 3518437208883 then ((some (y385 ++ y428 : List (S46))).bind fun y431 => ((spec_l10Store.f (wrap64 (a1 + 1)) 4).bind fun bt434 => ((spec_l10Store.f (wrap64 (a1 + 2)) 5).bind fun bt439 => ((some (([(⟨bt434.1, bt434.2.1, bt434.2.2.1, bt434.2.2.2.1, bt434.2.2.2.2⟩ : S46), (⟨bt439.1, bt439.2.1, bt439.2.2.1, bt439.2.2.2.1, bt439.2.2.2.2⟩ : S46)] : List (S46)) : List (S46))).bind fun y444 => (if y431.length + y444.length < 3518437208883 then ((some (y431 ++ y444 : List (S46))).bind fun y447 => ((spec_l10Let.f a1).bind fun t450 => (if y447.length + t450.length < 3518437208883 then ((some (y447 ++ t450 : List (S46))).bind fun y453 => ((spec_l10Set.f a0_3 1).bind fun bt456 => ((spec_l10Jump.f (wrap64 (a3 + t363))).bind fun bt461 => ((spec_l10Load.f 4 (wrap64 (a1 + 3))).bind fun bt466 => ((some (([(⟨bt456.1, bt456.2.1, bt456.2.2.1, bt456.2.2.2.1, bt456.2.2.2.2⟩ : S46), (⟨bt461.1, bt461.2.1, bt461.2.2.1, bt461.2.2.2.1, bt461.2.2.2.2⟩ : S46), (⟨bt466.1, bt466.2.1, bt466.2.2.1, bt466.2.2.2.1, bt466.2.2.2.2⟩ : S46)] : List (S46)) : List (S46))).bind fun y471 => (if y453.length + y471.length < 3518437208883 then ((some (y453 ++ y471 : List (S46))).bind fun y474 => ((spec_l10Let.f a1).bind fun t477 => (if y474.length + t477.length < 3518437208883 then ((some (y474 ++ t477 : List (S46))).bind fun y480 => ((spec_l10Zero.f 4 (wrap64 (a3 + 29))).bind fun bt483 => ((spec_l10Set.f a0_1 0).bind fun bt488 => ((some (([(⟨bt483.1, bt483.2.1, bt483.2.2.1, bt483.2.2.2.1, bt483.2.2.2.2⟩ : S46), (⟨bt488.1, bt488.2.1, bt488.2.2.1, bt488.2.2.2.1, bt488.2.2.2.2⟩ : S46)] : List (S46)) : List (S46))).bind fun y493 => (if y480.length + y493.length < 3518437208883 then ((some (y480 ++ y493 : List (S46))).bind fun y496 => (if a0_0 = 6 then ((spec_l10Set.f a0_3 0).bind fun bt499 => ((spec_l10Jump.f (wrap64 (a3 + t363))).bind fun bt504 => ((spec_l10Jump.f a3).bind fun bt509 => ((some (([(⟨bt499.1, bt499.2.1, bt499.2.2.1, bt499.2.2.2.1, bt499.2.2.2.2⟩ : S46), (⟨bt504.1, bt504.2.1, bt504.2.2.1, bt504.2.2.2.1, bt504.2.2.2.2⟩ : S46), (⟨bt509.1, bt509.2.1, bt509.2.2.1, bt509.2.2.2.1, bt509.2.2.2.2⟩ : S46)] : List (S46)) : List (S46))).bind fun y514 => (if y496.length + y514.length < 3518437208883 then (some (y496 ++ y514)) else (none)))))) else ((spec_l10Set.f a0_3 2).bind fun bt520 => ((spec_l10Jump.f (wrap64 (a3 + t363))).bind fun bt525 => ((spec_l10Set.f a0_1 0).bind fun bt530 => ((spec_l10Set.f a0_3 0).bind fun bt535 => ((spec_l10Jump.f (wrap64 (a3 + t363))).bind fun bt540 => ((some (([(⟨bt520.1, bt520.2.1, bt520.2.2.1, bt520.2.2.2.1, bt520.2.2.2.2⟩ : S46), (⟨bt525.1, bt525.2.1, bt525.2.2.1, bt525.2.2.2.1, bt525.2.2.2.2⟩ : S46), (⟨bt530.1, bt530.2.1, bt530.2.2.1, bt530.2.2.2.1, bt530.2.2.2.2⟩ : S46), (⟨bt535.1, bt535.2.1, bt535.2.2.1, bt535.2.2.2.1, bt535.2.2.2.2⟩ : S46), (⟨bt540.1, bt540.2.1, bt540.2.2.1, bt540.2.2.2.1, bt540.2.2.2.2⟩ : S46)] : List (S46)) : List (S46))).bind fun y545 => (if y496.length + y545.length < 3518437208883 then (some (y496 ++ y545)) else (none)))))))))) else (none)))))) else (none)))) else (none))))))) else (none)))) else (none)))))) else (none)))))))))))) else (none)))))))
def spec_l10Take.T2 : Bool × List (List Nat × List Nat) := (true, [([], []), ([], []), ([0, 1], [0, 1]), ([], []), ([3], [3]), ([4, 2], [4]), ([], []), ([6], [6]), ([7, 5], [7]), ([], []), ([9], [9]), ([10, 8], [10]), ([], []), ([12], [12]), ([], []), ([14], [14]), ([13, 15], [13, 15]), ([5, 8, 11, 16], [5, 8, 11, 16]), ([2, 17, 11], [2, 17]), ([18, 18, 0, 1, 2, 3, 4, 5, 6, 7, 8, 9, 10, 11, 12, 13, 14, 15, 16, 17, 18], [18])])
def spec_l10Take.B2 : List Nat := [0, 0, 3, 0, 8, 31, 0, 64, 255, 0, 512, 2047, 0, 4096, 0, 16384, 61440, 131071, 262143, 524287]
theorem spec_l10Take.tab2 : rtab .any (opsOf Try.f113 2) = spec_l10Take.T2 := by kernel_rfl
theorem spec_l10Take.bits2 : waitsOk spec_l10Take.T2.2 spec_l10Take.B2 = true := by kernel_rfl
def spec_l10Take.T8 : Bool × List (List Nat × List Nat) := (true, [([], []), ([], []), ([1], [1]), ([2], [2]), ([], []), ([4], [4]), ([5, 3], [5]), ([3, 6], [3, 6]), ([0, 7, 6], [0, 7]), ([8, 8, 0, 1, 2, 3, 4, 5, 6, 7, 8], [0, 8])])
def spec_l10Take.B8 : List Nat := [0, 0, 2, 6, 0, 16, 62, 126, 255, 511]
theorem spec_l10Take.tab8 : rtab .any (opsOf Try.f113 8) = spec_l10Take.T8 := by kernel_rfl
theorem spec_l10Take.bits8 : waitsOk spec_l10Take.T8.2 spec_l10Take.B8 = true := by kernel_rfl
def spec_l10Take.T11 : Bool × List (List Nat × List Nat) := (true, [([], []), ([], []), ([1], [1]), ([2], [2]), ([], []), ([4, 3], [4]), ([], []), ([6], [6]), ([7, 5], [7]), ([], []), ([9], [9]), ([10, 8], [10]), ([], []), ([12, 11], [12]), ([3, 5, 8, 11, 13], [3, 5, 8, 11, 13]), ([0, 14, 13], [0, 14]), ([15, 15, 0, 1, 2, 3, 4, 5, 6, 7, 8, 9, 10, 11, 12, 13, 14, 15], [15])])
def spec_l10Take.B11 : List Nat := [0, 0, 2, 6, 0, 30, 0, 64, 254, 0, 512, 2046, 0, 8190, 16382, 32767, 65535]
theorem spec_l10Take.tab11 : rtab .any (opsOf Try.f113 11) = spec_l10Take.T11 := by kernel_rfl
theorem spec_l10Take.bits11 : waitsOk spec_l10Take.T11.2 spec_l10Take.B11 = true := by kernel_rfl
set_option maxHeartbeats 80000000 in
set_option maxRecDepth 100000 in
theorem spec_l10Take.calls (a0_0 : Int) (a0_1 : Int) (a0_2 : Int) (a0_3 : Int) (a0_4 : Int) (a1 : Int) (a2 : Int) (a3 : Int) (r : List (S46)) (w : World) (h : spec_l10Take.f a0_0 a0_1 a0_2 a0_3 a0_4 a1 a2 a3 = some r) :
  Calls Try.prog 113 #[.agg #[.int .i64 a0_0, .int .i64 a0_1, .int .i64 a0_2, .int .i64 a0_3, .int .i64 a0_4], .int .i64 a1, .int .i64 a2, .int .i64 a3] w fun e w' => ∃ v0_ : Value, e = .returned (v0_) ∧ Kd.R k46 46 w' w.heap.size (fun _ => True) v0_ r ∧ Below w.heap.size w w' := by
 have hu37 := Try.underlying37
 have hu46 := Try.underlying46
 have HB := Aside0.mk (Below.refl w.heap.size w)
 have H : ((spec_EmitSize.f a0_0 a0_1 a0_2 a0_3 a0_4).bind fun t363 => ((spec_l10Lock.f a1 a3).bind fun t364 => ((spec_l10Load.f 5 (wrap64 (a1 + 2))).bind fun bt367 => ((spec_l10Zero.f 5 (wrap64 (a3 + 22))).bind fun bt372 => ((spec_l10Load.f 4 (wrap64 (a1 + 1))).bind fun bt377 => ((some (([(⟨bt367.1, bt367.2.1, bt367.2.2.1, bt367.2.2.2.1, bt367.2.2.2.2⟩ : S46), (⟨bt372.1, bt372.2.1, bt372.2.2.1, bt372.2.2.2.1, bt372.2.2.2.2⟩ : S46), (⟨bt377.1, bt377.2.1, bt377.2.2.1, bt377.2.2.2.1, bt377.2.2.2.2⟩ : S46), (⟨5, a0_1, 4, 0, wrap64 (a1 + 4)⟩ : S46)] : List (S46)) : List (S46))).bind fun y382 => (if t364.length + y382.length < 3518437208883 then ((some (t364 ++ y382 : List (S46))).bind fun y385 => ((spec_l10Set.f 7 1).bind fun bt388 => ((spec_l10Three.f 2 4 4 7).bind fun bt393 => ((spec_l10Three.f 3 5 5 7).bind fun bt398 => ((spec_l10Set.f 7 a2).bind fun bt403 => ((spec_l10Three.f 4 6 4 7).bind fun bt408 => ((spec_l10Zero.f 6 (wrap64 (a3 + 15))).bind fun bt413 => ((spec_l10Jump.f (wrap64 (a3 + 16))).bind fun bt418 => ((spec_l10Set.f 4 0).bind fun bt423 => ((some (([(⟨bt388.1, bt388.2.1, bt388.2.2.1, bt388.2.2.2.1, bt388.2.2.2.2⟩ : S46), (⟨bt393.1, bt393.2.1, bt393.2.2.1, bt393.2.2.2.1, bt393.2.2.2.2⟩ : S46), (⟨bt398.1, bt398.2.1, bt398.2.2.1, bt398.2.2.2.1, bt398.2.2.2.2⟩ : S46), (⟨bt403.1, bt403.2.1, bt403.2.2.1, bt403.2.2.2.1, bt403.2.2.2.2⟩ : S46), (⟨bt408.1, bt408.2.1, bt408.2.2.1, bt408.2.2.2.1, bt408.2.2.2.2⟩ : S46), (⟨bt413.1, bt413.2.1, bt413.2.2.1, bt413.2.2.2.1, bt413.2.2.2.2⟩ : S46), (⟨bt418.1, bt418.2.1, bt418.2.2.1, bt418.2.2.2.1, bt418.2.2.2.2⟩ : S46), (⟨bt423.1, bt423.2.1, bt423.2.2.1, bt423.2.2.2.1, bt423.2.2.2.2⟩ : S46)] : List (S46)) : List (S46))).bind fun y428 => (if y385.length + y428.length < 3518437208883 then ((some (y385 ++ y428 : List (S46))).bind fun y431 => ((spec_l10Store.f (wrap64 (a1 + 1)) 4).bind fun bt434 => ((spec_l10Store.f (wrap64 (a1 + 2)) 5).bind fun bt439 => ((some (([(⟨bt434.1, bt434.2.1, bt434.2.2.1, bt434.2.2.2.1, bt434.2.2.2.2⟩ : S46), (⟨bt439.1, bt439.2.1, bt439.2.2.1, bt439.2.2.2.1, bt439.2.2.2.2⟩ : S46)] : List (S46)) : List (S46))).bind fun y444 => (if y431.length + y444.length < 3518437208883 then ((some (y431 ++ y444 : List (S46))).bind fun y447 => ((spec_l10Let.f a1).bind fun t450 => (if y447.length + t450.length < 3518437208883 then ((some (y447 ++ t450 : List (S46))).bind fun y453 => ((spec_l10Set.f a0_3 1).bind fun bt456 => ((spec_l10Jump.f (wrap64 (a3 + t363))).bind fun bt461 => ((spec_l10Load.f 4 (wrap64 (a1 + 3))).bind fun bt466 => ((some (([(⟨bt456.1, bt456.2.1, bt456.2.2.1, bt456.2.2.2.1, bt456.2.2.2.2⟩ : S46), (⟨bt461.1, bt461.2.1, bt461.2.2.1, bt461.2.2.2.1, bt461.2.2.2.2⟩ : S46), (⟨bt466.1, bt466.2.1, bt466.2.2.1, bt466.2.2.2.1, bt466.2.2.2.2⟩ : S46)] : List (S46)) : List (S46))).bind fun y471 => (if y453.length + y471.length < 3518437208883 then ((some (y453 ++ y471 : List (S46))).bind fun y474 => ((spec_l10Let.f a1).bind fun t477 => (if y474.length + t477.length < 3518437208883 then ((some (y474 ++ t477 : List (S46))).bind fun y480 => ((spec_l10Zero.f 4 (wrap64 (a3 + 29))).bind fun bt483 => ((spec_l10Set.f a0_1 0).bind fun bt488 => ((some (([(⟨bt483.1, bt483.2.1, bt483.2.2.1, bt483.2.2.2.1, bt483.2.2.2.2⟩ : S46), (⟨bt488.1, bt488.2.1, bt488.2.2.1, bt488.2.2.2.1, bt488.2.2.2.2⟩ : S46)] : List (S46)) : List (S46))).bind fun y493 => (if y480.length + y493.length < 3518437208883 then ((some (y480 ++ y493 : List (S46))).bind fun y496 => (if a0_0 = 6 then ((spec_l10Set.f a0_3 0).bind fun bt499 => ((spec_l10Jump.f (wrap64 (a3 + t363))).bind fun bt504 => ((spec_l10Jump.f a3).bind fun bt509 => ((some (([(⟨bt499.1, bt499.2.1, bt499.2.2.1, bt499.2.2.2.1, bt499.2.2.2.2⟩ : S46), (⟨bt504.1, bt504.2.1, bt504.2.2.1, bt504.2.2.2.1, bt504.2.2.2.2⟩ : S46), (⟨bt509.1, bt509.2.1, bt509.2.2.1, bt509.2.2.2.1, bt509.2.2.2.2⟩ : S46)] : List (S46)) : List (S46))).bind fun y514 => (if y496.length + y514.length < 3518437208883 then (some (y496 ++ y514)) else (none)))))) else ((spec_l10Set.f a0_3 2).bind fun bt520 => ((spec_l10Jump.f (wrap64 (a3 + t363))).bind fun bt525 => ((spec_l10Set.f a0_1 0).bind fun bt530 => ((spec_l10Set.f a0_3 0).bind fun bt535 => ((spec_l10Jump.f (wrap64 (a3 + t363))).bind fun bt540 => ((some (([(⟨bt520.1, bt520.2.1, bt520.2.2.1, bt520.2.2.2.1, bt520.2.2.2.2⟩ : S46), (⟨bt525.1, bt525.2.1, bt525.2.2.1, bt525.2.2.2.1, bt525.2.2.2.2⟩ : S46), (⟨bt530.1, bt530.2.1, bt530.2.2.1, bt530.2.2.2.1, bt530.2.2.2.2⟩ : S46), (⟨bt535.1, bt535.2.1, bt535.2.2.1, bt535.2.2.2.1, bt535.2.2.2.2⟩ : S46), (⟨bt540.1, bt540.2.1, bt540.2.2.1, bt540.2.2.2.1, bt540.2.2.2.2⟩ : S46)] : List (S46)) : List (S46))).bind fun y545 => (if y496.length + y545.length < 3518437208883 then (some (y496 ++ y545)) else (none)))))))))) else (none)))))) else (none)))) else (none))))))) else (none)))) else (none)))))) else (none)))))))))))) else (none)))))))) = some r := h
 clear h
 replace H := Option.bind_eq_some_iff.mp H
 obtain ⟨t363, A50, H⟩ := H
 (try dsimp only at H)
 have A5 := Aside0.mk A50
 clear A50
 replace H := Option.bind_eq_some_iff.mp H
 obtain ⟨t364, A60, H⟩ := H
 (try dsimp only at H)
 have A6 := Aside0.mk A60
 clear A60
 replace H := Option.bind_eq_some_iff.mp H
 obtain ⟨⟨t367, t368, t369, t370, t371⟩, A70, H⟩ := H
 (try dsimp only at H)
 have A7 := Aside0.mk A70
 clear A70
 replace H := Option.bind_eq_some_iff.mp H
 obtain ⟨⟨t372, t373, t374, t375, t376⟩, A80, H⟩ := H
 (try dsimp only at H)
 have A8 := Aside0.mk A80
 clear A80
 replace H := Option.bind_eq_some_iff.mp H
 obtain ⟨⟨t377, t378, t379, t380, t381⟩, A90, H⟩ := H
 (try dsimp only at H)
 have A9 := Aside0.mk A90
 clear A90
 obtain ⟨y382, hy382⟩ : ∃ y_ : List (S46), y_ = (([(⟨t367, t368, t369, t370, t371⟩ : S46), (⟨t372, t373, t374, t375, t376⟩ : S46), (⟨t377, t378, t379, t380, t381⟩ : S46), (⟨5, a0_1, 4, 0, wrap64 (a1 + 4)⟩ : S46)] : List (S46))) := ⟨_, rfl⟩
 replace H := yy_ H hy382
 have Ny382 := Aside0.mk hy382
 clear hy382
 by_cases c10 : t364.length + y382.length < 3518437208883
 ·rw [if_pos c10] at H
  have LMc10 := Aside0.mk c10
  clear c10
  obtain ⟨y385, hy385⟩ : ∃ y_ : List (S46), y_ = (t364 ++ y382) := ⟨_, rfl⟩
  replace H := yy_ H hy385
  have Ny385 := Aside0.mk hy385
  clear hy385
  replace H := Option.bind_eq_some_iff.mp H
  obtain ⟨⟨t388, t389, t390, t391, t392⟩, A110, H⟩ := H
  (try dsimp only at H)
  have A11 := Aside0.mk A110
  clear A110
  replace H := Option.bind_eq_some_iff.mp H
  obtain ⟨⟨t393, t394, t395, t396, t397⟩, A120, H⟩ := H
  (try dsimp only at H)
  have A12 := Aside0.mk A120
  clear A120
  replace H := Option.bind_eq_some_iff.mp H
  obtain ⟨⟨t398, t399, t400, t401, t402⟩, A130, H⟩ := H
  (try dsimp only at H)
  have A13 := Aside0.mk A130
  clear A130
  replace H := Option.bind_eq_some_iff.mp H
  obtain ⟨⟨t403, t404, t405, t406, t407⟩, A140, H⟩ := H
  (try dsimp only at H)
  have A14 := Aside0.mk A140
  clear A140
  replace H := Option.bind_eq_some_iff.mp H
  obtain ⟨⟨t408, t409, t410, t411, t412⟩, A150, H⟩ := H
  (try dsimp only at H)
  have A15 := Aside0.mk A150
  clear A150
  replace H := Option.bind_eq_some_iff.mp H
  obtain ⟨⟨t413, t414, t415, t416, t417⟩, A160, H⟩ := H
  (try dsimp only at H)
  have A16 := Aside0.mk A160
  clear A160
  replace H := Option.bind_eq_some_iff.mp H
  obtain ⟨⟨t418, t419, t420, t421, t422⟩, A170, H⟩ := H
  (try dsimp only at H)
  have A17 := Aside0.mk A170
  clear A170
  replace H := Option.bind_eq_some_iff.mp H
  obtain ⟨⟨t423, t424, t425, t426, t427⟩, A180, H⟩ := H
  (try dsimp only at H)
  have A18 := Aside0.mk A180
  clear A180
  obtain ⟨y428, hy428⟩ : ∃ y_ : List (S46), y_ = (([(⟨t388, t389, t390, t391, t392⟩ : S46), (⟨t393, t394, t395, t396, t397⟩ : S46), (⟨t398, t399, t400, t401, t402⟩ : S46), (⟨t403, t404, t405, t406, t407⟩ : S46), (⟨t408, t409, t410, t411, t412⟩ : S46), (⟨t413, t414, t415, t416, t417⟩ : S46), (⟨t418, t419, t420, t421, t422⟩ : S46), (⟨t423, t424, t425, t426, t427⟩ : S46)] : List (S46))) := ⟨_, rfl⟩
  replace H := yy_ H hy428
  have Ny428 := Aside0.mk hy428
  clear hy428
  by_cases c19 : y385.length + y428.length < 3518437208883
  ·rw [if_pos c19] at H
   have LMc19 := Aside0.mk c19
   clear c19
   obtain ⟨y431, hy431⟩ : ∃ y_ : List (S46), y_ = (y385 ++ y428) := ⟨_, rfl⟩
   replace H := yy_ H hy431
   have Ny431 := Aside0.mk hy431
   clear hy431
   replace H := Option.bind_eq_some_iff.mp H
   obtain ⟨⟨t434, t435, t436, t437, t438⟩, A200, H⟩ := H
   (try dsimp only at H)
   have A20 := Aside0.mk A200
   clear A200
   replace H := Option.bind_eq_some_iff.mp H
   obtain ⟨⟨t439, t440, t441, t442, t443⟩, A210, H⟩ := H
   (try dsimp only at H)
   have A21 := Aside0.mk A210
   clear A210
   obtain ⟨y444, hy444⟩ : ∃ y_ : List (S46), y_ = (([(⟨t434, t435, t436, t437, t438⟩ : S46), (⟨t439, t440, t441, t442, t443⟩ : S46)] : List (S46))) := ⟨_, rfl⟩
   replace H := yy_ H hy444
   have Ny444 := Aside0.mk hy444
   clear hy444
   by_cases c22 : y431.length + y444.length < 3518437208883
   ·rw [if_pos c22] at H
    have LMc22 := Aside0.mk c22
    clear c22
    obtain ⟨y447, hy447⟩ : ∃ y_ : List (S46), y_ = (y431 ++ y444) := ⟨_, rfl⟩
    replace H := yy_ H hy447
    have Ny447 := Aside0.mk hy447
    clear hy447
    replace H := Option.bind_eq_some_iff.mp H
    obtain ⟨t450, A230, H⟩ := H
    (try dsimp only at H)
    have A23 := Aside0.mk A230
    clear A230
    by_cases c24 : y447.length + t450.length < 3518437208883
    ·rw [if_pos c24] at H
     have LMc24 := Aside0.mk c24
     clear c24
     obtain ⟨y453, hy453⟩ : ∃ y_ : List (S46), y_ = (y447 ++ t450) := ⟨_, rfl⟩
     replace H := yy_ H hy453
     have Ny453 := Aside0.mk hy453
     clear hy453
     replace H := Option.bind_eq_some_iff.mp H
     obtain ⟨⟨t456, t457, t458, t459, t460⟩, A250, H⟩ := H
     (try dsimp only at H)
     have A25 := Aside0.mk A250
     clear A250
     replace H := Option.bind_eq_some_iff.mp H
     obtain ⟨⟨t461, t462, t463, t464, t465⟩, A260, H⟩ := H
     (try dsimp only at H)
     have A26 := Aside0.mk A260
     clear A260
     replace H := Option.bind_eq_some_iff.mp H
     obtain ⟨⟨t466, t467, t468, t469, t470⟩, A270, H⟩ := H
     (try dsimp only at H)
     have A27 := Aside0.mk A270
     clear A270
     obtain ⟨y471, hy471⟩ : ∃ y_ : List (S46), y_ = (([(⟨t456, t457, t458, t459, t460⟩ : S46), (⟨t461, t462, t463, t464, t465⟩ : S46), (⟨t466, t467, t468, t469, t470⟩ : S46)] : List (S46))) := ⟨_, rfl⟩
     replace H := yy_ H hy471
     have Ny471 := Aside0.mk hy471
     clear hy471
     by_cases c28 : y453.length + y471.length < 3518437208883
     ·rw [if_pos c28] at H
      have LMc28 := Aside0.mk c28
      clear c28
      obtain ⟨y474, hy474⟩ : ∃ y_ : List (S46), y_ = (y453 ++ y471) := ⟨_, rfl⟩
      replace H := yy_ H hy474
      have Ny474 := Aside0.mk hy474
      clear hy474
      replace H := Option.bind_eq_some_iff.mp H
      obtain ⟨t477, A290, H⟩ := H
      (try dsimp only at H)
      have A29 := Aside0.mk A290
      clear A290
      by_cases c30 : y474.length + t477.length < 3518437208883
      ·rw [if_pos c30] at H
       have LMc30 := Aside0.mk c30
       clear c30
       obtain ⟨y480, hy480⟩ : ∃ y_ : List (S46), y_ = (y474 ++ t477) := ⟨_, rfl⟩
       replace H := yy_ H hy480
       have Ny480 := Aside0.mk hy480
       clear hy480
       replace H := Option.bind_eq_some_iff.mp H
       obtain ⟨⟨t483, t484, t485, t486, t487⟩, A310, H⟩ := H
       (try dsimp only at H)
       have A31 := Aside0.mk A310
       clear A310
       replace H := Option.bind_eq_some_iff.mp H
       obtain ⟨⟨t488, t489, t490, t491, t492⟩, A320, H⟩ := H
       (try dsimp only at H)
       have A32 := Aside0.mk A320
       clear A320
       obtain ⟨y493, hy493⟩ : ∃ y_ : List (S46), y_ = (([(⟨t483, t484, t485, t486, t487⟩ : S46), (⟨t488, t489, t490, t491, t492⟩ : S46)] : List (S46))) := ⟨_, rfl⟩
       replace H := yy_ H hy493
       have Ny493 := Aside0.mk hy493
       clear hy493
       by_cases c33 : y480.length + y493.length < 3518437208883
       ·rw [if_pos c33] at H
        have LMc33 := Aside0.mk c33
        clear c33
        obtain ⟨y496, hy496⟩ : ∃ y_ : List (S46), y_ = (y480 ++ y493) := ⟨_, rfl⟩
        replace H := yy_ H hy496
        have Ny496 := Aside0.mk hy496
        clear hy496
        by_cases c34 : a0_0 = 6
        ·rw [if_pos c34] at H
         have c34b0 := beq_iff_eq.mpr c34
         have c34b1 := bne_eq_false_iff_eq.mpr c34
         clear c34
         replace H := Option.bind_eq_some_iff.mp H
         obtain ⟨⟨t499, t500, t501, t502, t503⟩, A350, H⟩ := H
         (try dsimp only at H)
         have A35 := Aside0.mk A350
         clear A350
         replace H := Option.bind_eq_some_iff.mp H
         obtain ⟨⟨t504, t505, t506, t507, t508⟩, A360, H⟩ := H
         (try dsimp only at H)
         have A36 := Aside0.mk A360
         clear A360
         replace H := Option.bind_eq_some_iff.mp H
         obtain ⟨⟨t509, t510, t511, t512, t513⟩, A370, H⟩ := H
         (try dsimp only at H)
         have A37 := Aside0.mk A370
         clear A370
         obtain ⟨y514, hy514⟩ : ∃ y_ : List (S46), y_ = (([(⟨t499, t500, t501, t502, t503⟩ : S46), (⟨t504, t505, t506, t507, t508⟩ : S46), (⟨t509, t510, t511, t512, t513⟩ : S46)] : List (S46))) := ⟨_, rfl⟩
         replace H := yy_ H hy514
         have Ny514 := Aside0.mk hy514
         clear hy514
         by_cases c38 : y496.length + y514.length < 3518437208883
         ·rw [if_pos c38] at H
          have LMc38 := Aside0.mk c38
          clear c38
          obtain ⟨y517, hy517⟩ : ∃ y_ : List (S46), y_ = (y496 ++ y514) := ⟨_, rfl⟩
          replace H : (some y517) = some r := by rw [hy517]; exact H
          have Ny517 := Aside0.mk hy517
          clear hy517
          obtain rfl := Option.some.inj H
          go_enter Try.func113, Try.ntmps113
          try go_wp2_with (first | ((with_reducible refine gate_dst (N := 4) rfl ?_); refine box_event ?hg (N := 4) ?hd (cs := #[.int .i64 a0_0, .int .i64 a0_1, .int .i64 a0_2, .int .i64 a0_3, .int .i64 a0_4]) (t := 37) ?hr ?_; (case hd => rfl); (case hg => rfl); (case hr => first | (go_simp; done) | (go_simp; rfl)); intro gb362 hg w39 hbox hb; refine swap4_ (below_step atgB_ hb) (hbox) ((by rw [hg]; exact (below_size atgB_) : w.heap.size ≤ gb362)) ((by rw [hg]; exact (below_size atgB_) : w.heap.size ≤ gb362)) ?_; clear HB; intro HB BK362 GW362 GE362; clear hb hbox hg; obtain ⟨hcz40_0, hcz40_1, hcz40_2, hcz40_3, hcz40_4, hfz40_0, hfz40_1, hfz40_2, hfz40_3, hfz40_4⟩ := blkB5_ BK362) | ((with_reducible refine gate_callee (f := 27) rfl ?_); refine goesL_ (some 13) rfl rfl Try.func27 (by kernel_rfl) rfl #[.agg #[.int .i64 a0_0, .int .i64 a0_1, .int .i64 a0_2, .int .i64 a0_3, .int .i64 a0_4]] rfl atgM_ ?_; (with_reducible refine (spec_EmitSize.calls a0_0 a0_1 a0_2 a0_3 a0_4 t363 _ A5.out).mono ?_); rintro e w41 ⟨rfl, hb⟩; refine ⟨_, rfl, ?_⟩; refine swap2_ (blk_below (g := gb362) (o := .cells #[.int .i64 a0_0, .int .i64 a0_1, .int .i64 a0_2, .int .i64 a0_3, .int .i64 a0_4] 37 (0, 0)) att11_0_1 hb) (below_step att11_0_0 hb) ?_; clear BK362 HB; intro BK362 HB; (try clear hb); (try clear hb2); (try clear hk); (try clear hi)))
          have n0_ := Aside0.mk (blk_drew BK362.out)
          have n1_ := Aside0.mk (below_drew1 HB.out)
          clear BK362
          clear HB
          have BK362 := n0_
          have HB := n1_
          clear n0_ n1_
          refine start_ (n := 20) (S := fun w' => w'.cell? ⟨gb362, 0, none⟩ = some (.int .i64 a0_0) ∧ w'.cell? ⟨gb362, 1, none⟩ = some (.int .i64 a0_1) ∧ w'.cell? ⟨gb362, 2, none⟩ = some (.int .i64 a0_2) ∧ w'.cell? ⟨gb362, 3, none⟩ = some (.int .i64 a0_3) ∧ w'.cell? ⟨gb362, 4, none⟩ = some (.int .i64 a0_4)) (ds := []) (tf_ 0 20) (by kernel_rfl) rfl rfl ⟨(blk_cell BK362.out 0).trans rfl, (blk_cell BK362.out 1).trans rfl, (blk_cell BK362.out 2).trans rfl, (blk_cell BK362.out 3).trans rfl, (blk_cell BK362.out 4).trans rfl⟩ (fun hHeld => ?_); refine with_tabW spec_l10Take.tab2 spec_l10Take.bits2 (fun HT_ HW_ => ?_)
          generalize w41.drew = w42 at BK362 HB hHeld ⊢
          refine pureQ_ (i := 0) (N := some 15) (tf_ 1 19) (h := ?_)
          refine pureQ_ (i := 1) (N := some 16) (tf_ 2 18) (h := ?_)
          refine pureQ_ (i := 3) (N := some 18) #[true, true, false, true, false, false, false, false, false, false, false, false, false, false, false, false, false, false, false, false] (h := ?_)
          refine pureQ_ (i := 4) (N := some 19) #[true, true, false, true, true, false, false, false, false, false, false, false, false, false, false, false, false, false, false, false] (h := ?_)
          refine pureQ_ (i := 6) (N := some 21) #[true, true, false, true, true, false, true, false, false, false, false, false, false, false, false, false, false, false, false, false] (h := ?_)
          refine pureQ_ (i := 7) (N := some 22) #[true, true, false, true, true, false, true, true, false, false, false, false, false, false, false, false, false, false, false, false] (h := ?_)
          refine pureQ_ (i := 9) (N := some 24) #[true, true, false, true, true, false, true, true, false, true, false, false, false, false, false, false, false, false, false, false] (h := ?_)
          refine pureQ_ (i := 10) (N := some 25) #[true, true, false, true, true, false, true, true, false, true, true, false, false, false, false, false, false, false, false, false] (h := ?_)
          refine pureQ_ (i := 12) (N := some 27) #[true, true, false, true, true, false, true, true, false, true, true, false, true, false, false, false, false, false, false, false] (h := ?_)
          refine pureQ_ (i := 14) (N := some 29) #[true, true, false, true, true, false, true, true, false, true, true, false, true, false, true, false, false, false, false, false] (h := ?_)
          refine pureQ_ (i := 15) (N := some 30) #[true, true, false, true, true, false, true, true, false, true, true, false, true, false, true, true, false, false, false, false] (h := ?_)
          refine takeQ_ (i := 13) (N := some 28) #[true, true, false, true, true, false, true, true, false, true, true, false, true, true, true, true, false, false, false, false] hHeld (hy := Or.inl ⟨by rfl, att11_0_17⟩) (h := ?_)
          refine pureQ_ (i := 16) (N := some 31) #[true, true, false, true, true, false, true, true, false, true, true, false, true, true, true, true, true, false, false, false] (h := ?_)
          refine one_ (i := 2) (N := some 17) #[true, true, true, true, true, false, true, true, false, true, true, false, true, true, true, true, true, false, false, false] rfl rfl (one_of HT_.out (by kernel_rfl)) (by decide) (fun K hK => ?_)
          refine goes_ Try.func175 (by kernel_rfl) rfl #[.int .i64 a1, .int .i64 a3] (by rfl) rfl rfl atgM_ ?_
          with_reducible refine (spec_l10Lock.calls a1 a3 t364 _ A6.out).mono ?_
          rintro e w43 ⟨v365, rfl, ho0, hb⟩
          refine ⟨_, rfl, ?_⟩
          have n0_ := Aside0.mk (Kd.R_lower ho0 (below_size att11_0_0))
          have n1_ := Aside0.mk (blk_below (g := gb362) (o := .cells #[.int .i64 a0_0, .int .i64 a0_1, .int .i64 a0_2, .int .i64 a0_3, .int .i64 a0_4] 37 (0, 0)) att11_0_1 hb)
          have n2_ := Aside0.mk (below_step att11_0_0 hb)
          clear BK362
          clear HB
          have HO366 := n0_
          have BK362 := n1_
          have HB := n2_
          clear n0_ n1_ n2_
          (try clear hb)
          (try clear hb2)
          (try clear hk)
          (try clear hi)
          (try clear ho0)
          refine hK.out _ _ ⟨(blk_cell BK362.out 0).trans rfl, (blk_cell BK362.out 1).trans rfl, (blk_cell BK362.out 2).trans rfl, (blk_cell BK362.out 3).trans rfl, (blk_cell BK362.out 4).trans rfl⟩ (fun hHeld => ?_)
          clear hK K
          refine normS_ (N := some 17) (h := ?_)
          refine one_ (i := 5) (N := some 20) #[true, true, true, true, true, true, true, true, false, true, true, false, true, true, true, true, true, false, false, false] rfl rfl (one_of HT_.out (by kernel_rfl)) (by decide) (fun K hK => ?_)
          refine goes_ Try.func177 (by kernel_rfl) rfl #[.int .i64 5, .int .i64 (wrap64 (a1 + 2))] (by rfl) rfl rfl atgM_ ?_
          with_reducible refine (spec_l10Load.calls 5 (wrap64 (a1 + 2)) t367 t368 t369 t370 t371 _ A7.out).mono ?_
          rintro e w44 ⟨rfl, hb⟩
          refine ⟨_, rfl, ?_⟩
          have n0_ := Aside0.mk (Kd.R_below att11_0_13 hb)
          have n1_ := Aside0.mk (blk_below (g := gb362) (o := .cells #[.int .i64 a0_0, .int .i64 a0_1, .int .i64 a0_2, .int .i64 a0_3, .int .i64 a0_4] 37 (0, 0)) att11_0_1 hb)
          have n2_ := Aside0.mk (below_step att11_0_0 hb)
          clear HO366
          clear BK362
          clear HB
          have HO366 := n0_
          have BK362 := n1_
          have HB := n2_
          clear n0_ n1_ n2_
          (try clear hb)
          (try clear hb2)
          (try clear hk)
          (try clear hi)
          refine hK.out _ _ ⟨(blk_cell BK362.out 0).trans rfl, (blk_cell BK362.out 1).trans rfl, (blk_cell BK362.out 2).trans rfl, (blk_cell BK362.out 3).trans rfl, (blk_cell BK362.out 4).trans rfl⟩ (fun hHeld => ?_)
          clear hK K
          refine normS_ (N := some 20) (h := ?_)
          refine one_ (i := 8) (N := some 23) #[true, true, true, true, true, true, true, true, true, true, true, false, true, true, true, true, true, false, false, false] rfl rfl (one_of HT_.out (by kernel_rfl)) (by decide) (fun K hK => ?_)
          refine goes_ Try.func110 (by kernel_rfl) rfl #[.int .i64 5, .int .i64 (wrap64 (a3 + 22))] (by rfl) rfl rfl atgM_ ?_
          with_reducible refine (spec_l10Zero.calls 5 (wrap64 (a3 + 22)) t372 t373 t374 t375 t376 _ A8.out).mono ?_
          rintro e w45 ⟨rfl, hb⟩
          refine ⟨_, rfl, ?_⟩
          have n0_ := Aside0.mk (Kd.R_below att11_0_13 hb)
          have n1_ := Aside0.mk (blk_below (g := gb362) (o := .cells #[.int .i64 a0_0, .int .i64 a0_1, .int .i64 a0_2, .int .i64 a0_3, .int .i64 a0_4] 37 (0, 0)) att11_0_1 hb)
          have n2_ := Aside0.mk (below_step att11_0_0 hb)
          clear HO366
          clear BK362
          clear HB
          have HO366 := n0_
          have BK362 := n1_
          have HB := n2_
          clear n0_ n1_ n2_
          (try clear hb)
          (try clear hb2)
          (try clear hk)
          (try clear hi)
          refine hK.out _ _ ⟨(blk_cell BK362.out 0).trans rfl, (blk_cell BK362.out 1).trans rfl, (blk_cell BK362.out 2).trans rfl, (blk_cell BK362.out 3).trans rfl, (blk_cell BK362.out 4).trans rfl⟩ (fun hHeld => ?_)
          clear hK K
          refine normS_ (N := some 23) (h := ?_)
          refine one_ (i := 11) (N := some 26) (tf_ 17 3) rfl rfl (one_of HT_.out (by kernel_rfl)) (by decide) (fun K hK => ?_)
          refine goes_ Try.func177 (by kernel_rfl) rfl #[.int .i64 4, .int .i64 (wrap64 (a1 + 1))] (by rfl) rfl rfl atgM_ ?_
          with_reducible refine (spec_l10Load.calls 4 (wrap64 (a1 + 1)) t377 t378 t379 t380 t381 _ A9.out).mono ?_
          rintro e w46 ⟨rfl, hb⟩
          refine ⟨_, rfl, ?_⟩
          have n0_ := Aside0.mk (Kd.R_below att11_0_13 hb)
          have n1_ := Aside0.mk (blk_below (g := gb362) (o := .cells #[.int .i64 a0_0, .int .i64 a0_1, .int .i64 a0_2, .int .i64 a0_3, .int .i64 a0_4] 37 (0, 0)) att11_0_1 hb)
          have n2_ := Aside0.mk (below_step att11_0_0 hb)
          clear HO366
          clear BK362
          clear HB
          have HO366 := n0_
          have BK362 := n1_
          have HB := n2_
          clear n0_ n1_ n2_
          (try clear hb)
          (try clear hb2)
          (try clear hk)
          (try clear hi)
          refine hK.out _ _ ⟨(blk_cell BK362.out 0).trans rfl, (blk_cell BK362.out 1).trans rfl, (blk_cell BK362.out 2).trans rfl, (blk_cell BK362.out 3).trans rfl, (blk_cell BK362.out 4).trans rfl⟩ (fun hHeld => ?_)
          clear hK K
          refine normS_ (N := some 26) (h := ?_)
          refine one_ (i := 17) (N := some 32) (tf_ 18 2) rfl rfl (one_of HT_.out (by kernel_rfl)) (by decide) (fun K hK => ?_)
          refine Kd.R_lit_step k46 _ 46 ?hg (N := 32) ?hd (xs := ([(⟨t367, t368, t369, t370, t371⟩ : S46), (⟨t372, t373, t374, t375, t376⟩ : S46), (⟨t377, t378, t379, t380, t381⟩ : S46), (⟨5, a0_1, 4, 0, wrap64 (a1 + 4)⟩ : S46)] : List (S46))) (inner := [.int .i64 t367, .int .i64 t368, .int .i64 t369, .int .i64 t370, .int .i64 t371, .int .i64 t372, .int .i64 t373, .int .i64 t374, .int .i64 t375, .int .i64 t376, .int .i64 t377, .int .i64 t378, .int .i64 t379, .int .i64 t380, .int .i64 t381, .int .i64 5, .int .i64 a0_1, .int .i64 4, .int .i64 0, .int .i64 (wrap64 (a1 + 4))]) (ok := fun _ => True) (okp := fun _ => True) ?hr ?hp (fun _ hk => hk) trivial (Below.refl _ _) (Nat.le_refl _) (by simp) ?_; (case hd => rfl); (case hg => rfl); (case hr => first | (go_simp; done) | (go_simp; rfl)); (case hp => exact (Reps.c5 (show Kd.M k46 _ _ _ (⟨t367, t368, t369, t370, t371⟩ : S46) [.int .i64 t367, .int .i64 t368, .int .i64 t369, .int .i64 t370, .int .i64 t371] from (k46_mkM _ _ _ (⟨t367, t368, t369, t370, t371⟩ : S46) )) (Reps.c5 (show Kd.M k46 _ _ _ (⟨t372, t373, t374, t375, t376⟩ : S46) [.int .i64 t372, .int .i64 t373, .int .i64 t374, .int .i64 t375, .int .i64 t376] from (k46_mkM _ _ _ (⟨t372, t373, t374, t375, t376⟩ : S46) )) (Reps.c5 (show Kd.M k46 _ _ _ (⟨t377, t378, t379, t380, t381⟩ : S46) [.int .i64 t377, .int .i64 t378, .int .i64 t379, .int .i64 t380, .int .i64 t381] from (k46_mkM _ _ _ (⟨t377, t378, t379, t380, t381⟩ : S46) )) (Reps.c5 (show Kd.M k46 _ _ _ (⟨5, a0_1, 4, 0, wrap64 (a1 + 4)⟩ : S46) [.int .i64 5, .int .i64 a0_1, .int .i64 4, .int .i64 0, .int .i64 (wrap64 (a1 + 4))] from (k46_mkM _ _ _ (⟨5, a0_1, 4, 0, wrap64 (a1 + 4)⟩ : S46) )) (Reps.none _ _))))))
          intro v383 w47 ho48 hb hg_ hnew_
          clear hg_ hnew_
          (first | rw [← Ny382.out] at ho48 | (simp only [Int.reduceToNat] at ho48; rw [← Ny382.out] at ho48))
          have n0_ := Aside0.mk (Kd.R_elder' att11_0_13 (Kd.R_base ho48) hb)
          have n1_ := Aside0.mk (Kd.R_lower (Kd.R_new' ho48 (Kd.R_lt att11_0_13)) (below_size att11_0_0))
          have n2_ := Aside0.mk (blk_below (g := gb362) (o := .cells #[.int .i64 a0_0, .int .i64 a0_1, .int .i64 a0_2, .int .i64 a0_3, .int .i64 a0_4] 37 (0, 0)) att11_0_1 hb)
          have n3_ := Aside0.mk (below_step att11_0_0 hb)
          clear HO366
          clear BK362
          clear HB
          have HO366 := n0_
          have HO384 := n1_
          have BK362 := n2_
          have HB := n3_
          clear n0_ n1_ n2_ n3_
          clear hb ho48
          obtain ⟨Ao50, co50, eo50⟩ := Kd.R_slice HO384.out
          (first | subst eo50 | (injection eo50 with f1_ f2_ f3_; have f4_ := f1_.symm; have f5_ := f3_.symm; clear f1_ f2_ f3_; subst f4_; subst f5_))
          refine hK.out _ _ ⟨(blk_cell BK362.out 0).trans rfl, (blk_cell BK362.out 1).trans rfl, (blk_cell BK362.out 2).trans rfl, (blk_cell BK362.out 3).trans rfl, (blk_cell BK362.out 4).trans rfl⟩ (fun hHeld => ?_)
          clear hK K
          refine normS_ (N := some 32) (h := ?_)
          refine one_ (i := 18) (N := some 33) (tf_ 19 1) rfl rfl (one_of HT_.out (by kernel_rfl)) (by decide) (fun K hK => ?_)
          refine Kd.R_append_rows_step k46 (w0 := w) w.heap.size (by rfl) (.tmp 17) (.tmp 32) 40 46 (.agg #[(.int .i64 0), (.int .i64 0), (.int .i64 0), (.int .i64 0), (.int .i64 0)]) 40 rfl Try.underlying40 info46 rfl (by decide) (by omega) v365 t364 y382 _ _ _ (fun k_ => some k_ ≠ (.slice Ao50 y382.length co50 : Value).ownBlock) (fun _ => False) rfl rfl ?aO ?aR (fun _ _ h => h) (fun _ h => h.elim) ?aF ?aB ?aS ?aL ?_
          (case aR => repeat (first | exact (Kd.R_reads' HO384.out).2.2 | (with_reducible refine Kd.C_alloc ?_ _) | (with_reducible refine Kd.C_drewN ?_ _) | (with_reducible refine Kd.C_drew ?_)))
          (case aB => exact att11_0_0)
          (case aF => exact (fun k_ hk => Kd.fresh' (Kd.R_lt att11_0_2) k_ hk))
          (case aO => exact att11_0_60)
          (case aS => exact (below_size att11_0_0))
          (case aL => have := LMc10.out; omega)
          intro v386 w49 ho hb hg hat
          rw [← Ny385.out] at ho
          have n0_ := Aside0.mk (blk_grown (g := gb362) (o := .cells #[.int .i64 a0_0, .int .i64 a0_1, .int .i64 a0_2, .int .i64 a0_3, .int .i64 a0_4] 37 (0, 0)) att11_0_1 hg (Kd.R_ne HO366.out BK362.out (by decide)))
          have n1_ := Aside0.mk (Kd.R_after (ok := (fun _ => True)) att11_0_2 hg hat)
          have n2_ := Aside0.mk (hb)
          have n3_ := Aside0.mk (ho)
          clear BK362
          clear HO384
          clear HB
          clear HO366
          have BK362 := n0_
          have HO384 := n1_
          have HB := n2_
          have HO387 := n3_
          clear n0_ n1_ n2_ n3_
          clear ho hb hg hat
          refine hK.out _ _ ⟨(blk_cell BK362.out 0).trans rfl, (blk_cell BK362.out 1).trans rfl, (blk_cell BK362.out 2).trans rfl, (blk_cell BK362.out 3).trans rfl, (blk_cell BK362.out 4).trans rfl⟩ (fun hHeld => ?_)
          clear hK K
          refine normS_ (N := some 33) (h := ?_)
          refine pureQ_ (i := 19) (N := some 10) (tf_ 20 0) (h := ?_)
          refine done_ (done_of HT_.out (by kernel_rfl)) ?_
          try go_wp2_with (first | ((with_reducible refine gate_callee (f := 107) rfl ?_); refine goesL_ (some 35) rfl rfl Try.func107 (by kernel_rfl) rfl #[.int .i64 7, .int .i64 1] rfl atgM_ ?_; (with_reducible refine (spec_l10Set.calls 7 1 t388 t389 t390 t391 t392 _ A11.out).mono ?_); rintro e w51 ⟨rfl, hb⟩; refine ⟨_, rfl, ?_⟩; refine swap4_ (Kd.R_below att11_0_2 hb) (Kd.R_below att11_0_9 hb) (blk_below (g := gb362) (o := .cells #[.int .i64 a0_0, .int .i64 a0_1, .int .i64 a0_2, .int .i64 a0_3, .int .i64 a0_4] 37 (0, 0)) att11_0_1 hb) (below_step att11_0_0 hb) ?_; clear HO384 HO387 BK362 HB; intro HO384 HO387 BK362 HB; (try clear hb); (try clear hb2); (try clear hk); (try clear hi)) | ((with_reducible refine gate_callee (f := 108) rfl ?_); refine goesL_ (some 36) rfl rfl Try.func108 (by kernel_rfl) rfl #[.int .i64 2, .int .i64 4, .int .i64 4, .int .i64 7] rfl atgM_ ?_; (with_reducible refine (spec_l10Three.calls 2 4 4 7 t393 t394 t395 t396 t397 _ A12.out).mono ?_); rintro e w52 ⟨rfl, hb⟩; refine ⟨_, rfl, ?_⟩; refine swap4_ (Kd.R_below att11_0_2 hb) (Kd.R_below att11_0_9 hb) (blk_below (g := gb362) (o := .cells #[.int .i64 a0_0, .int .i64 a0_1, .int .i64 a0_2, .int .i64 a0_3, .int .i64 a0_4] 37 (0, 0)) att11_0_1 hb) (below_step att11_0_0 hb) ?_; clear HO384 HO387 BK362 HB; intro HO384 HO387 BK362 HB; (try clear hb); (try clear hb2); (try clear hk); (try clear hi)) | ((with_reducible refine gate_callee (f := 108) rfl ?_); refine goesL_ (some 37) rfl rfl Try.func108 (by kernel_rfl) rfl #[.int .i64 3, .int .i64 5, .int .i64 5, .int .i64 7] rfl atgM_ ?_; (with_reducible refine (spec_l10Three.calls 3 5 5 7 t398 t399 t400 t401 t402 _ A13.out).mono ?_); rintro e w53 ⟨rfl, hb⟩; refine ⟨_, rfl, ?_⟩; refine swap4_ (Kd.R_below att11_0_2 hb) (Kd.R_below att11_0_9 hb) (blk_below (g := gb362) (o := .cells #[.int .i64 a0_0, .int .i64 a0_1, .int .i64 a0_2, .int .i64 a0_3, .int .i64 a0_4] 37 (0, 0)) att11_0_1 hb) (below_step att11_0_0 hb) ?_; clear HO384 HO387 BK362 HB; intro HO384 HO387 BK362 HB; (try clear hb); (try clear hb2); (try clear hk); (try clear hi)) | ((with_reducible refine gate_callee (f := 107) rfl ?_); refine goesL_ (some 39) rfl rfl Try.func107 (by kernel_rfl) rfl #[.int .i64 7, .int .i64 a2] rfl atgM_ ?_; (with_reducible refine (spec_l10Set.calls 7 a2 t403 t404 t405 t406 t407 _ A14.out).mono ?_); rintro e w54 ⟨rfl, hb⟩; refine ⟨_, rfl, ?_⟩; refine swap4_ (Kd.R_below att11_0_2 hb) (Kd.R_below att11_0_9 hb) (blk_below (g := gb362) (o := .cells #[.int .i64 a0_0, .int .i64 a0_1, .int .i64 a0_2, .int .i64 a0_3, .int .i64 a0_4] 37 (0, 0)) att11_0_1 hb) (below_step att11_0_0 hb) ?_; clear HO384 HO387 BK362 HB; intro HO384 HO387 BK362 HB; (try clear hb); (try clear hb2); (try clear hk); (try clear hi)) | ((with_reducible refine gate_callee (f := 108) rfl ?_); refine goesL_ (some 40) rfl rfl Try.func108 (by kernel_rfl) rfl #[.int .i64 4, .int .i64 6, .int .i64 4, .int .i64 7] rfl atgM_ ?_; (with_reducible refine (spec_l10Three.calls 4 6 4 7 t408 t409 t410 t411 t412 _ A15.out).mono ?_); rintro e w55 ⟨rfl, hb⟩; refine ⟨_, rfl, ?_⟩; refine swap4_ (Kd.R_below att11_0_2 hb) (Kd.R_below att11_0_9 hb) (blk_below (g := gb362) (o := .cells #[.int .i64 a0_0, .int .i64 a0_1, .int .i64 a0_2, .int .i64 a0_3, .int .i64 a0_4] 37 (0, 0)) att11_0_1 hb) (below_step att11_0_0 hb) ?_; clear HO384 HO387 BK362 HB; intro HO384 HO387 BK362 HB; (try clear hb); (try clear hb2); (try clear hk); (try clear hi)) | ((with_reducible refine gate_callee (f := 110) rfl ?_); refine goesL_ (some 43) rfl rfl Try.func110 (by kernel_rfl) rfl #[.int .i64 6, .int .i64 (wrap64 (a3 + 15))] rfl atgM_ ?_; (with_reducible refine (spec_l10Zero.calls 6 (wrap64 (a3 + 15)) t413 t414 t415 t416 t417 _ A16.out).mono ?_); rintro e w56 ⟨rfl, hb⟩; refine ⟨_, rfl, ?_⟩; refine swap4_ (Kd.R_below att11_0_2 hb) (Kd.R_below att11_0_9 hb) (blk_below (g := gb362) (o := .cells #[.int .i64 a0_0, .int .i64 a0_1, .int .i64 a0_2, .int .i64 a0_3, .int .i64 a0_4] 37 (0, 0)) att11_0_1 hb) (below_step att11_0_0 hb) ?_; clear HO384 HO387 BK362 HB; intro HO384 HO387 BK362 HB; (try clear hb); (try clear hb2); (try clear hk); (try clear hi)) | ((with_reducible refine gate_callee (f := 109) rfl ?_); refine goesL_ (some 46) rfl rfl Try.func109 (by kernel_rfl) rfl #[.int .i64 (wrap64 (a3 + 16))] rfl atgM_ ?_; (with_reducible refine (spec_l10Jump.calls (wrap64 (a3 + 16)) t418 t419 t420 t421 t422 _ A17.out).mono ?_); rintro e w57 ⟨rfl, hb⟩; refine ⟨_, rfl, ?_⟩; refine swap4_ (Kd.R_below att11_0_2 hb) (Kd.R_below att11_0_9 hb) (blk_below (g := gb362) (o := .cells #[.int .i64 a0_0, .int .i64 a0_1, .int .i64 a0_2, .int .i64 a0_3, .int .i64 a0_4] 37 (0, 0)) att11_0_1 hb) (below_step att11_0_0 hb) ?_; clear HO384 HO387 BK362 HB; intro HO384 HO387 BK362 HB; (try clear hb); (try clear hb2); (try clear hk); (try clear hi)) | ((with_reducible refine gate_callee (f := 107) rfl ?_); refine goesL_ (some 47) rfl rfl Try.func107 (by kernel_rfl) rfl #[.int .i64 4, .int .i64 0] rfl atgM_ ?_; (with_reducible refine (spec_l10Set.calls 4 0 t423 t424 t425 t426 t427 _ A18.out).mono ?_); rintro e w58 ⟨rfl, hb⟩; refine ⟨_, rfl, ?_⟩; refine swap4_ (Kd.R_below att11_0_2 hb) (Kd.R_below att11_0_9 hb) (blk_below (g := gb362) (o := .cells #[.int .i64 a0_0, .int .i64 a0_1, .int .i64 a0_2, .int .i64 a0_3, .int .i64 a0_4] 37 (0, 0)) att11_0_1 hb) (below_step att11_0_0 hb) ?_; clear HO384 HO387 BK362 HB; intro HO384 HO387 BK362 HB; (try clear hb); (try clear hb2); (try clear hk); (try clear hi)) | ((with_reducible refine gate_dst (N := 48) rfl ?_); refine Kd.R_lit k46 _ 46 ?hg (N := 48) ?hd (xs := ([(⟨t388, t389, t390, t391, t392⟩ : S46), (⟨t393, t394, t395, t396, t397⟩ : S46), (⟨t398, t399, t400, t401, t402⟩ : S46), (⟨t403, t404, t405, t406, t407⟩ : S46), (⟨t408, t409, t410, t411, t412⟩ : S46), (⟨t413, t414, t415, t416, t417⟩ : S46), (⟨t418, t419, t420, t421, t422⟩ : S46), (⟨t423, t424, t425, t426, t427⟩ : S46)] : List (S46))) (inner := [.int .i64 t388, .int .i64 t389, .int .i64 t390, .int .i64 t391, .int .i64 t392, .int .i64 t393, .int .i64 t394, .int .i64 t395, .int .i64 t396, .int .i64 t397, .int .i64 t398, .int .i64 t399, .int .i64 t400, .int .i64 t401, .int .i64 t402, .int .i64 t403, .int .i64 t404, .int .i64 t405, .int .i64 t406, .int .i64 t407, .int .i64 t408, .int .i64 t409, .int .i64 t410, .int .i64 t411, .int .i64 t412, .int .i64 t413, .int .i64 t414, .int .i64 t415, .int .i64 t416, .int .i64 t417, .int .i64 t418, .int .i64 t419, .int .i64 t420, .int .i64 t421, .int .i64 t422, .int .i64 t423, .int .i64 t424, .int .i64 t425, .int .i64 t426, .int .i64 t427]) (ok := fun _ => True) (okp := fun _ => True) ?hr ?hp (fun _ hk => hk) trivial (Below.refl _ _) (Nat.le_refl _) (by simp) ?_; (case hd => rfl); (case hg => rfl); (case hr => first | (go_simp; done) | (go_simp; rfl)); (case hp => exact (Reps.c5 (show Kd.M k46 _ _ _ (⟨t388, t389, t390, t391, t392⟩ : S46) [.int .i64 t388, .int .i64 t389, .int .i64 t390, .int .i64 t391, .int .i64 t392] from (k46_mkM _ _ _ (⟨t388, t389, t390, t391, t392⟩ : S46) )) (Reps.c5 (show Kd.M k46 _ _ _ (⟨t393, t394, t395, t396, t397⟩ : S46) [.int .i64 t393, .int .i64 t394, .int .i64 t395, .int .i64 t396, .int .i64 t397] from (k46_mkM _ _ _ (⟨t393, t394, t395, t396, t397⟩ : S46) )) (Reps.c5 (show Kd.M k46 _ _ _ (⟨t398, t399, t400, t401, t402⟩ : S46) [.int .i64 t398, .int .i64 t399, .int .i64 t400, .int .i64 t401, .int .i64 t402] from (k46_mkM _ _ _ (⟨t398, t399, t400, t401, t402⟩ : S46) )) (Reps.c5 (show Kd.M k46 _ _ _ (⟨t403, t404, t405, t406, t407⟩ : S46) [.int .i64 t403, .int .i64 t404, .int .i64 t405, .int .i64 t406, .int .i64 t407] from (k46_mkM _ _ _ (⟨t403, t404, t405, t406, t407⟩ : S46) )) (Reps.c5 (show Kd.M k46 _ _ _ (⟨t408, t409, t410, t411, t412⟩ : S46) [.int .i64 t408, .int .i64 t409, .int .i64 t410, .int .i64 t411, .int .i64 t412] from (k46_mkM _ _ _ (⟨t408, t409, t410, t411, t412⟩ : S46) )) (Reps.c5 (show Kd.M k46 _ _ _ (⟨t413, t414, t415, t416, t417⟩ : S46) [.int .i64 t413, .int .i64 t414, .int .i64 t415, .int .i64 t416, .int .i64 t417] from (k46_mkM _ _ _ (⟨t413, t414, t415, t416, t417⟩ : S46) )) (Reps.c5 (show Kd.M k46 _ _ _ (⟨t418, t419, t420, t421, t422⟩ : S46) [.int .i64 t418, .int .i64 t419, .int .i64 t420, .int .i64 t421, .int .i64 t422] from (k46_mkM _ _ _ (⟨t418, t419, t420, t421, t422⟩ : S46) )) (Reps.c5 (show Kd.M k46 _ _ _ (⟨t423, t424, t425, t426, t427⟩ : S46) [.int .i64 t423, .int .i64 t424, .int .i64 t425, .int .i64 t426, .int .i64 t427] from (k46_mkM _ _ _ (⟨t423, t424, t425, t426, t427⟩ : S46) )) (Reps.none _ _)))))))))); intro v429 w59 ho60 hb hg_ hnew_; clear hg_ hnew_; (first | rw [← Ny428.out] at ho60 | (simp only [Int.reduceToNat] at ho60; rw [← Ny428.out] at ho60)); refine swap5_ (Kd.R_elder' att11_0_2 (Kd.R_base ho60) hb) (Kd.R_elder' att11_0_9 (Kd.R_base ho60) hb) (Kd.R_lower (Kd.R_new' (Kd.R_new' ho60 (Kd.R_lt att11_0_2)) (Kd.R_lt att11_0_9)) (below_size att11_0_0)) (blk_below (g := gb362) (o := .cells #[.int .i64 a0_0, .int .i64 a0_1, .int .i64 a0_2, .int .i64 a0_3, .int .i64 a0_4] 37 (0, 0)) att11_0_1 hb) (below_step att11_0_0 hb) ?_; clear HO384 HO387 BK362 HB; intro HO384 HO387 HO430 BK362 HB; clear hb ho60; obtain ⟨Ao62, co62, eo62⟩ := Kd.R_slice HO430.out; subst eo62) | ((with_reducible refine gate_builtin (b := .append) (xs := #[.tmp 34, .tmp 48]) rfl ?_); at_builtin; refine Kd.R_append_rows k46 (w0 := w) w.heap.size rfl (.tmp 34) (.tmp 48) 40 46 (.agg #[(.int .i64 0), (.int .i64 0), (.int .i64 0), (.int .i64 0), (.int .i64 0)]) 40 rfl Try.underlying40 info46 rfl (by decide) (by omega) v386 y385 y428 _ _ _ (fun k_ => some k_ ≠ (.slice Ao50 y382.length co50 : Value).ownBlock ∧ some k_ ≠ (.slice Ao62 y428.length co62 : Value).ownBlock) (fun _ => False) rfl rfl ?aO ?aR (fun _ _ h => h) (fun _ h => h.elim) ?aF ?aB ?aS ?aL ?_; (case aR => repeat (first | exact (Kd.R_reads' HO430.out).2.2 | (with_reducible refine Kd.C_alloc ?_ _) | (with_reducible refine Kd.C_drewN ?_ _) | (with_reducible refine Kd.C_drew ?_))); (case aB => exact att11_0_0); (case aF => exact (fun k_ hk => ⟨Kd.fresh' (Kd.R_lt att11_0_2) k_ hk, Kd.fresh' (Kd.R_lt att11_0_4) k_ hk⟩)); (case aO => exact att11_0_9); (case aS => exact (below_size att11_0_0)); (case aL => have := LMc19.out; omega); intro v432 w61 ho hb hg hat; rw [← Ny431.out] at ho; refine swap5_ (blk_grown (g := gb362) (o := .cells #[.int .i64 a0_0, .int .i64 a0_1, .int .i64 a0_2, .int .i64 a0_3, .int .i64 a0_4] 37 (0, 0)) att11_0_1 hg (Kd.R_ne HO387.out BK362.out (by decide))) (Kd.R_after (ok := (fun k_ => some k_ ≠ (.slice Ao62 y428.length co62 : Value).ownBlock)) att11_0_59 hg hat) (Kd.R_after (ok := (fun k_ => some k_ ≠ (.slice Ao50 y382.length co50 : Value).ownBlock)) att11_0_58 hg hat) (hb) (ho) ?_; clear BK362 HO384 HO430 HB HO387; intro BK362 HO384 HO430 HB HO433; clear ho hb hg hat) | ((with_reducible refine gate_callee (f := 178) rfl ?_); refine goesL_ (some 53) rfl rfl Try.func178 (by kernel_rfl) rfl #[.int .i64 (wrap64 (a1 + 1)), .int .i64 4] rfl atgM_ ?_; (with_reducible refine (spec_l10Store.calls (wrap64 (a1 + 1)) 4 t434 t435 t436 t437 t438 _ A20.out).mono ?_); rintro e w63 ⟨rfl, hb⟩; refine ⟨_, rfl, ?_⟩; refine swap5_ (Kd.R_below att11_0_2 hb) (Kd.R_below att11_0_4 hb) (Kd.R_below att11_0_15 hb) (blk_below (g := gb362) (o := .cells #[.int .i64 a0_0, .int .i64 a0_1, .int .i64 a0_2, .int .i64 a0_3, .int .i64 a0_4] 37 (0, 0)) att11_0_1 hb) (below_step att11_0_0 hb) ?_; clear HO384 HO430 HO433 BK362 HB; intro HO384 HO430 HO433 BK362 HB; (try clear hb); (try clear hb2); (try clear hk); (try clear hi)) | ((with_reducible refine gate_callee (f := 178) rfl ?_); refine goesL_ (some 56) rfl rfl Try.func178 (by kernel_rfl) rfl #[.int .i64 (wrap64 (a1 + 2)), .int .i64 5] rfl atgM_ ?_; (with_reducible refine (spec_l10Store.calls (wrap64 (a1 + 2)) 5 t439 t440 t441 t442 t443 _ A21.out).mono ?_); rintro e w64 ⟨rfl, hb⟩; refine ⟨_, rfl, ?_⟩; refine swap5_ (Kd.R_below att11_0_2 hb) (Kd.R_below att11_0_4 hb) (Kd.R_below att11_0_15 hb) (blk_below (g := gb362) (o := .cells #[.int .i64 a0_0, .int .i64 a0_1, .int .i64 a0_2, .int .i64 a0_3, .int .i64 a0_4] 37 (0, 0)) att11_0_1 hb) (below_step att11_0_0 hb) ?_; clear HO384 HO430 HO433 BK362 HB; intro HO384 HO430 HO433 BK362 HB; (try clear hb); (try clear hb2); (try clear hk); (try clear hi)) | ((with_reducible refine gate_dst (N := 57) rfl ?_); refine Kd.R_lit k46 _ 46 ?hg (N := 57) ?hd (xs := ([(⟨t434, t435, t436, t437, t438⟩ : S46), (⟨t439, t440, t441, t442, t443⟩ : S46)] : List (S46))) (inner := [.int .i64 t434, .int .i64 t435, .int .i64 t436, .int .i64 t437, .int .i64 t438, .int .i64 t439, .int .i64 t440, .int .i64 t441, .int .i64 t442, .int .i64 t443]) (ok := fun _ => True) (okp := fun _ => True) ?hr ?hp (fun _ hk => hk) trivial (Below.refl _ _) (Nat.le_refl _) (by simp) ?_; (case hd => rfl); (case hg => rfl); (case hr => first | (go_simp; done) | (go_simp; rfl)); (case hp => exact (Reps.c5 (show Kd.M k46 _ _ _ (⟨t434, t435, t436, t437, t438⟩ : S46) [.int .i64 t434, .int .i64 t435, .int .i64 t436, .int .i64 t437, .int .i64 t438] from (k46_mkM _ _ _ (⟨t434, t435, t436, t437, t438⟩ : S46) )) (Reps.c5 (show Kd.M k46 _ _ _ (⟨t439, t440, t441, t442, t443⟩ : S46) [.int .i64 t439, .int .i64 t440, .int .i64 t441, .int .i64 t442, .int .i64 t443] from (k46_mkM _ _ _ (⟨t439, t440, t441, t442, t443⟩ : S46) )) (Reps.none _ _)))); intro v445 w65 ho66 hb hg_ hnew_; clear hg_ hnew_; (first | rw [← Ny444.out] at ho66 | (simp only [Int.reduceToNat] at ho66; rw [← Ny444.out] at ho66)); refine swap6_ (Kd.R_elder' att11_0_2 (Kd.R_base ho66) hb) (Kd.R_elder' att11_0_4 (Kd.R_base ho66) hb) (Kd.R_elder' att11_0_15 (Kd.R_base ho66) hb) (Kd.R_lower (Kd.R_new' (Kd.R_new' (Kd.R_new' ho66 (Kd.R_lt att11_0_2)) (Kd.R_lt att11_0_4)) (Kd.R_lt att11_0_15)) (below_size att11_0_0)) (blk_below (g := gb362) (o := .cells #[.int .i64 a0_0, .int .i64 a0_1, .int .i64 a0_2, .int .i64 a0_3, .int .i64 a0_4] 37 (0, 0)) att11_0_1 hb) (below_step att11_0_0 hb) ?_; clear HO384 HO430 HO433 BK362 HB; intro HO384 HO430 HO433 HO446 BK362 HB; clear hb ho66; obtain ⟨Ao68, co68, eo68⟩ := Kd.R_slice HO446.out; subst eo68) | ((with_reducible refine gate_builtin (b := .append) (xs := #[.tmp 50, .tmp 57]) rfl ?_); at_builtin; refine Kd.R_append_rows k46 (w0 := w) w.heap.size rfl (.tmp 50) (.tmp 57) 40 46 (.agg #[(.int .i64 0), (.int .i64 0), (.int .i64 0), (.int .i64 0), (.int .i64 0)]) 40 rfl Try.underlying40 info46 rfl (by decide) (by omega) v432 y431 y444 _ _ _ (fun k_ => some k_ ≠ (.slice Ao50 y382.length co50 : Value).ownBlock ∧ some k_ ≠ (.slice Ao62 y428.length co62 : Value).ownBlock ∧ some k_ ≠ (.slice Ao68 y444.length co68 : Value).ownBlock) (fun _ => False) rfl rfl ?aO ?aR (fun _ _ h => h) (fun _ h => h.elim) ?aF ?aB ?aS ?aL ?_; (case aR => repeat (first | exact (Kd.R_reads' HO446.out).2.2 | (with_reducible refine Kd.C_alloc ?_ _) | (with_reducible refine Kd.C_drewN ?_ _) | (with_reducible refine Kd.C_drew ?_))); (case aB => exact att11_0_0); (case aF => exact (fun k_ hk => ⟨Kd.fresh' (Kd.R_lt att11_0_2) k_ hk, Kd.fresh' (Kd.R_lt att11_0_4) k_ hk, Kd.fresh' (Kd.R_lt att11_0_5) k_ hk⟩)); (case aO => exact att11_0_55); (case aS => exact (below_size att11_0_0)); (case aL => have := LMc22.out; omega); intro v448 w67 ho hb hg hat; rw [← Ny447.out] at ho; refine swap6_ (blk_grown (g := gb362) (o := .cells #[.int .i64 a0_0, .int .i64 a0_1, .int .i64 a0_2, .int .i64 a0_3, .int .i64 a0_4] 37 (0, 0)) att11_0_1 hg (Kd.R_ne HO433.out BK362.out (by decide))) (Kd.R_after (ok := (fun k_ => some k_ ≠ (.slice Ao62 y428.length co62 : Value).ownBlock ∧ some k_ ≠ (.slice Ao68 y444.length co68 : Value).ownBlock)) att11_0_57 hg hat) (Kd.R_after (ok := (fun k_ => some k_ ≠ (.slice Ao50 y382.length co50 : Value).ownBlock ∧ some k_ ≠ (.slice Ao68 y444.length co68 : Value).ownBlock)) att11_0_56 hg hat) (Kd.R_after (ok := (fun k_ => some k_ ≠ (.slice Ao50 y382.length co50 : Value).ownBlock ∧ some k_ ≠ (.slice Ao62 y428.length co62 : Value).ownBlock)) att11_0_54 hg hat) (hb) (ho) ?_; clear BK362 HO384 HO430 HO446 HB HO433; intro BK362 HO384 HO430 HO446 HB HO449; clear ho hb hg hat) | ((with_reducible refine gate_callee (f := 179) rfl ?_); refine goesL_ (some 61) rfl rfl Try.func179 (by kernel_rfl) rfl #[.int .i64 a1] rfl atgM_ ?_; (with_reducible refine (spec_l10Let.calls a1 t450 _ A23.out).mono ?_); rintro e w69 ⟨v451, rfl, ho0, hb⟩; refine ⟨_, rfl, ?_⟩; refine swap7_ (Kd.R_elder' att11_0_2 (Kd.R_base ho0) hb) (Kd.R_elder' att11_0_4 (Kd.R_base ho0) hb) (Kd.R_elder' att11_0_5 (Kd.R_base ho0) hb) (Kd.R_elder' att11_0_19 (Kd.R_base ho0) hb) (Kd.R_lower (Kd.R_new' (Kd.R_new' (Kd.R_new' (Kd.R_new' ho0 (Kd.R_lt att11_0_2)) (Kd.R_lt att11_0_4)) (Kd.R_lt att11_0_5)) (Kd.R_lt att11_0_19)) (below_size att11_0_0)) (blk_below (g := gb362) (o := .cells #[.int .i64 a0_0, .int .i64 a0_1, .int .i64 a0_2, .int .i64 a0_3, .int .i64 a0_4] 37 (0, 0)) att11_0_1 hb) (below_step att11_0_0 hb) ?_; clear HO384 HO430 HO446 HO449 BK362 HB; intro HO384 HO430 HO446 HO449 HO452 BK362 HB; (try clear hb); (try clear hb2); (try clear hk); (try clear hi); (try clear ho0); obtain ⟨Ao71, co71, eo71⟩ := Kd.R_slice HO452.out; subst eo71) | ((with_reducible refine gate_builtin (b := .append) (xs := #[.tmp 59, .tmp 61]) rfl ?_); at_builtin; refine Kd.R_append_rows k46 (w0 := w) w.heap.size rfl (.tmp 59) (.tmp 61) 40 46 (.agg #[(.int .i64 0), (.int .i64 0), (.int .i64 0), (.int .i64 0), (.int .i64 0)]) 40 rfl Try.underlying40 info46 rfl (by decide) (by omega) v448 y447 t450 _ _ _ (fun k_ => some k_ ≠ (.slice Ao50 y382.length co50 : Value).ownBlock ∧ some k_ ≠ (.slice Ao62 y428.length co62 : Value).ownBlock ∧ some k_ ≠ (.slice Ao68 y444.length co68 : Value).ownBlock ∧ some k_ ≠ (.slice Ao71 t450.length co71 : Value).ownBlock) (fun _ => False) rfl rfl ?aO ?aR (fun _ _ h => h) (fun _ h => h.elim) ?aF ?aB ?aS ?aL ?_; (case aR => repeat (first | exact (Kd.R_reads' HO452.out).2.2 | (with_reducible refine Kd.C_alloc ?_ _) | (with_reducible refine Kd.C_drewN ?_ _) | (with_reducible refine Kd.C_drew ?_))); (case aB => exact att11_0_0); (case aF => exact (fun k_ hk => ⟨Kd.fresh' (Kd.R_lt att11_0_2) k_ hk, Kd.fresh' (Kd.R_lt att11_0_4) k_ hk, Kd.fresh' (Kd.R_lt att11_0_5) k_ hk, Kd.fresh' (Kd.R_lt att11_0_6) k_ hk⟩)); (case aO => exact att11_0_50); (case aS => exact (below_size att11_0_0)); (case aL => have := LMc24.out; omega); intro v454 w70 ho hb hg hat; rw [← Ny453.out] at ho; refine swap7_ (blk_grown (g := gb362) (o := .cells #[.int .i64 a0_0, .int .i64 a0_1, .int .i64 a0_2, .int .i64 a0_3, .int .i64 a0_4] 37 (0, 0)) att11_0_1 hg (Kd.R_ne HO449.out BK362.out (by decide))) (Kd.R_after (ok := (fun k_ => some k_ ≠ (.slice Ao62 y428.length co62 : Value).ownBlock ∧ some k_ ≠ (.slice Ao68 y444.length co68 : Value).ownBlock ∧ some k_ ≠ (.slice Ao71 t450.length co71 : Value).ownBlock)) att11_0_53 hg hat) (Kd.R_after (ok := (fun k_ => some k_ ≠ (.slice Ao50 y382.length co50 : Value).ownBlock ∧ some k_ ≠ (.slice Ao68 y444.length co68 : Value).ownBlock ∧ some k_ ≠ (.slice Ao71 t450.length co71 : Value).ownBlock)) att11_0_52 hg hat) (Kd.R_after (ok := (fun k_ => some k_ ≠ (.slice Ao50 y382.length co50 : Value).ownBlock ∧ some k_ ≠ (.slice Ao62 y428.length co62 : Value).ownBlock ∧ some k_ ≠ (.slice Ao71 t450.length co71 : Value).ownBlock)) att11_0_51 hg hat) (Kd.R_after (ok := (fun k_ => some k_ ≠ (.slice Ao50 y382.length co50 : Value).ownBlock ∧ some k_ ≠ (.slice Ao62 y428.length co62 : Value).ownBlock ∧ some k_ ≠ (.slice Ao68 y444.length co68 : Value).ownBlock)) att11_0_49 hg hat) (hb) (ho) ?_; clear BK362 HO384 HO430 HO446 HO452 HB HO449; intro BK362 HO384 HO430 HO446 HO452 HB HO455; clear ho hb hg hat; obtain ⟨hcz72_0, hcz72_1, hcz72_2, hcz72_3, hcz72_4, hfz72_0, hfz72_1, hfz72_2, hfz72_3, hfz72_4⟩ := blkB5_ BK362) | ((with_reducible refine gate_callee (f := 107) rfl ?_); refine goesL_ (some 66) rfl rfl Try.func107 (by kernel_rfl) rfl #[.int .i64 a0_3, .int .i64 1] rfl atgM_ ?_; (with_reducible refine (spec_l10Set.calls a0_3 1 t456 t457 t458 t459 t460 _ A25.out).mono ?_); rintro e w73 ⟨rfl, hb⟩; refine ⟨_, rfl, ?_⟩; refine swap7_ (Kd.R_below att11_0_2 hb) (Kd.R_below att11_0_4 hb) (Kd.R_below att11_0_5 hb) (Kd.R_below att11_0_6 hb) (Kd.R_below att11_0_12 hb) (blk_below (g := gb362) (o := .cells #[.int .i64 a0_0, .int .i64 a0_1, .int .i64 a0_2, .int .i64 a0_3, .int .i64 a0_4] 37 (0, 0)) att11_0_1 hb) (below_step att11_0_0 hb) ?_; clear HO384 HO430 HO446 HO452 HO455 BK362 HB; intro HO384 HO430 HO446 HO452 HO455 BK362 HB; (try clear hb); (try clear hb2); (try clear hk); (try clear hi)) | ((with_reducible refine gate_callee (f := 109) rfl ?_); refine goesL_ (some 68) rfl rfl Try.func109 (by kernel_rfl) rfl #[.int .i64 (wrap64 (a3 + t363))] rfl atgM_ ?_; (with_reducible refine (spec_l10Jump.calls (wrap64 (a3 + t363)) t461 t462 t463 t464 t465 _ A26.out).mono ?_); rintro e w74 ⟨rfl, hb⟩; refine ⟨_, rfl, ?_⟩; refine swap7_ (Kd.R_below att11_0_2 hb) (Kd.R_below att11_0_4 hb) (Kd.R_below att11_0_5 hb) (Kd.R_below att11_0_6 hb) (Kd.R_below att11_0_12 hb) (blk_below (g := gb362) (o := .cells #[.int .i64 a0_0, .int .i64 a0_1, .int .i64 a0_2, .int .i64 a0_3, .int .i64 a0_4] 37 (0, 0)) att11_0_1 hb) (below_step att11_0_0 hb) ?_; clear HO384 HO430 HO446 HO452 HO455 BK362 HB; intro HO384 HO430 HO446 HO452 HO455 BK362 HB; (try clear hb); (try clear hb2); (try clear hk); (try clear hi)) | ((with_reducible refine gate_callee (f := 177) rfl ?_); refine goesL_ (some 71) rfl rfl Try.func177 (by kernel_rfl) rfl #[.int .i64 4, .int .i64 (wrap64 (a1 + 3))] rfl atgM_ ?_; (with_reducible refine (spec_l10Load.calls 4 (wrap64 (a1 + 3)) t466 t467 t468 t469 t470 _ A27.out).mono ?_); rintro e w75 ⟨rfl, hb⟩; refine ⟨_, rfl, ?_⟩; refine swap7_ (Kd.R_below att11_0_2 hb) (Kd.R_below att11_0_4 hb) (Kd.R_below att11_0_5 hb) (Kd.R_below att11_0_6 hb) (Kd.R_below att11_0_12 hb) (blk_below (g := gb362) (o := .cells #[.int .i64 a0_0, .int .i64 a0_1, .int .i64 a0_2, .int .i64 a0_3, .int .i64 a0_4] 37 (0, 0)) att11_0_1 hb) (below_step att11_0_0 hb) ?_; clear HO384 HO430 HO446 HO452 HO455 BK362 HB; intro HO384 HO430 HO446 HO452 HO455 BK362 HB; (try clear hb); (try clear hb2); (try clear hk); (try clear hi)) | ((with_reducible refine gate_dst (N := 72) rfl ?_); refine Kd.R_lit k46 _ 46 ?hg (N := 72) ?hd (xs := ([(⟨t456, t457, t458, t459, t460⟩ : S46), (⟨t461, t462, t463, t464, t465⟩ : S46), (⟨t466, t467, t468, t469, t470⟩ : S46)] : List (S46))) (inner := [.int .i64 t456, .int .i64 t457, .int .i64 t458, .int .i64 t459, .int .i64 t460, .int .i64 t461, .int .i64 t462, .int .i64 t463, .int .i64 t464, .int .i64 t465, .int .i64 t466, .int .i64 t467, .int .i64 t468, .int .i64 t469, .int .i64 t470]) (ok := fun _ => True) (okp := fun _ => True) ?hr ?hp (fun _ hk => hk) trivial (Below.refl _ _) (Nat.le_refl _) (by simp) ?_; (case hd => rfl); (case hg => rfl); (case hr => first | (go_simp; done) | (go_simp; rfl)); (case hp => exact (Reps.c5 (show Kd.M k46 _ _ _ (⟨t456, t457, t458, t459, t460⟩ : S46) [.int .i64 t456, .int .i64 t457, .int .i64 t458, .int .i64 t459, .int .i64 t460] from (k46_mkM _ _ _ (⟨t456, t457, t458, t459, t460⟩ : S46) )) (Reps.c5 (show Kd.M k46 _ _ _ (⟨t461, t462, t463, t464, t465⟩ : S46) [.int .i64 t461, .int .i64 t462, .int .i64 t463, .int .i64 t464, .int .i64 t465] from (k46_mkM _ _ _ (⟨t461, t462, t463, t464, t465⟩ : S46) )) (Reps.c5 (show Kd.M k46 _ _ _ (⟨t466, t467, t468, t469, t470⟩ : S46) [.int .i64 t466, .int .i64 t467, .int .i64 t468, .int .i64 t469, .int .i64 t470] from (k46_mkM _ _ _ (⟨t466, t467, t468, t469, t470⟩ : S46) )) (Reps.none _ _))))); intro v472 w76 ho77 hb hg_ hnew_; clear hg_ hnew_; (first | rw [← Ny471.out] at ho77 | (simp only [Int.reduceToNat] at ho77; rw [← Ny471.out] at ho77)); refine swap8_ (Kd.R_elder' att11_0_2 (Kd.R_base ho77) hb) (Kd.R_elder' att11_0_4 (Kd.R_base ho77) hb) (Kd.R_elder' att11_0_5 (Kd.R_base ho77) hb) (Kd.R_elder' att11_0_6 (Kd.R_base ho77) hb) (Kd.R_elder' att11_0_12 (Kd.R_base ho77) hb) (Kd.R_lower (Kd.R_new' (Kd.R_new' (Kd.R_new' (Kd.R_new' (Kd.R_new' ho77 (Kd.R_lt att11_0_2)) (Kd.R_lt att11_0_4)) (Kd.R_lt att11_0_5)) (Kd.R_lt att11_0_6)) (Kd.R_lt att11_0_12)) (below_size att11_0_0)) (blk_below (g := gb362) (o := .cells #[.int .i64 a0_0, .int .i64 a0_1, .int .i64 a0_2, .int .i64 a0_3, .int .i64 a0_4] 37 (0, 0)) att11_0_1 hb) (below_step att11_0_0 hb) ?_; clear HO384 HO430 HO446 HO452 HO455 BK362 HB; intro HO384 HO430 HO446 HO452 HO455 HO473 BK362 HB; clear hb ho77; obtain ⟨Ao79, co79, eo79⟩ := Kd.R_slice HO473.out; subst eo79) | ((with_reducible refine gate_builtin (b := .append) (xs := #[.tmp 63, .tmp 72]) rfl ?_); at_builtin; refine Kd.R_append_rows k46 (w0 := w) w.heap.size rfl (.tmp 63) (.tmp 72) 40 46 (.agg #[(.int .i64 0), (.int .i64 0), (.int .i64 0), (.int .i64 0), (.int .i64 0)]) 40 rfl Try.underlying40 info46 rfl (by decide) (by omega) v454 y453 y471 _ _ _ (fun k_ => some k_ ≠ (.slice Ao50 y382.length co50 : Value).ownBlock ∧ some k_ ≠ (.slice Ao62 y428.length co62 : Value).ownBlock ∧ some k_ ≠ (.slice Ao68 y444.length co68 : Value).ownBlock ∧ some k_ ≠ (.slice Ao71 t450.length co71 : Value).ownBlock ∧ some k_ ≠ (.slice Ao79 y471.length co79 : Value).ownBlock) (fun _ => False) rfl rfl ?aO ?aR (fun _ _ h => h) (fun _ h => h.elim) ?aF ?aB ?aS ?aL ?_; (case aR => repeat (first | exact (Kd.R_reads' HO473.out).2.2 | (with_reducible refine Kd.C_alloc ?_ _) | (with_reducible refine Kd.C_drewN ?_ _) | (with_reducible refine Kd.C_drew ?_))); (case aB => exact att11_0_0); (case aF => exact (fun k_ hk => ⟨Kd.fresh' (Kd.R_lt att11_0_2) k_ hk, Kd.fresh' (Kd.R_lt att11_0_4) k_ hk, Kd.fresh' (Kd.R_lt att11_0_5) k_ hk, Kd.fresh' (Kd.R_lt att11_0_6) k_ hk, Kd.fresh' (Kd.R_lt att11_0_7) k_ hk⟩)); (case aO => exact att11_0_44); (case aS => exact (below_size att11_0_0)); (case aL => have := LMc28.out; omega); intro v475 w78 ho hb hg hat; rw [← Ny474.out] at ho; refine swap8_ (blk_grown (g := gb362) (o := .cells #[.int .i64 a0_0, .int .i64 a0_1, .int .i64 a0_2, .int .i64 a0_3, .int .i64 a0_4] 37 (0, 0)) att11_0_1 hg (Kd.R_ne HO455.out BK362.out (by decide))) (Kd.R_after (ok := (fun k_ => some k_ ≠ (.slice Ao62 y428.length co62 : Value).ownBlock ∧ some k_ ≠ (.slice Ao68 y444.length co68 : Value).ownBlock ∧ some k_ ≠ (.slice Ao71 t450.length co71 : Value).ownBlock ∧ some k_ ≠ (.slice Ao79 y471.length co79 : Value).ownBlock)) att11_0_48 hg hat) (Kd.R_after (ok := (fun k_ => some k_ ≠ (.slice Ao50 y382.length co50 : Value).ownBlock ∧ some k_ ≠ (.slice Ao68 y444.length co68 : Value).ownBlock ∧ some k_ ≠ (.slice Ao71 t450.length co71 : Value).ownBlock ∧ some k_ ≠ (.slice Ao79 y471.length co79 : Value).ownBlock)) att11_0_47 hg hat) (Kd.R_after (ok := (fun k_ => some k_ ≠ (.slice Ao50 y382.length co50 : Value).ownBlock ∧ some k_ ≠ (.slice Ao62 y428.length co62 : Value).ownBlock ∧ some k_ ≠ (.slice Ao71 t450.length co71 : Value).ownBlock ∧ some k_ ≠ (.slice Ao79 y471.length co79 : Value).ownBlock)) att11_0_46 hg hat) (Kd.R_after (ok := (fun k_ => some k_ ≠ (.slice Ao50 y382.length co50 : Value).ownBlock ∧ some k_ ≠ (.slice Ao62 y428.length co62 : Value).ownBlock ∧ some k_ ≠ (.slice Ao68 y444.length co68 : Value).ownBlock ∧ some k_ ≠ (.slice Ao79 y471.length co79 : Value).ownBlock)) att11_0_45 hg hat) (Kd.R_after (ok := (fun k_ => some k_ ≠ (.slice Ao50 y382.length co50 : Value).ownBlock ∧ some k_ ≠ (.slice Ao62 y428.length co62 : Value).ownBlock ∧ some k_ ≠ (.slice Ao68 y444.length co68 : Value).ownBlock ∧ some k_ ≠ (.slice Ao71 t450.length co71 : Value).ownBlock)) att11_0_43 hg hat) (hb) (ho) ?_; clear BK362 HO384 HO430 HO446 HO452 HO473 HB HO455; intro BK362 HO384 HO430 HO446 HO452 HO473 HB HO476; clear ho hb hg hat) | ((with_reducible refine gate_callee (f := 179) rfl ?_); refine goesL_ (some 76) rfl rfl Try.func179 (by kernel_rfl) rfl #[.int .i64 a1] rfl atgM_ ?_; (with_reducible refine (spec_l10Let.calls a1 t477 _ A29.out).mono ?_); rintro e w80 ⟨v478, rfl, ho0, hb⟩; refine ⟨_, rfl, ?_⟩; have n0_ := Aside0.mk (Kd.R_elder' att11_0_2 (Kd.R_base ho0) hb); have n1_ := Aside0.mk (Kd.R_elder' att11_0_4 (Kd.R_base ho0) hb); have n2_ := Aside0.mk (Kd.R_elder' att11_0_5 (Kd.R_base ho0) hb); have n3_ := Aside0.mk (Kd.R_elder' att11_0_6 (Kd.R_base ho0) hb); have n4_ := Aside0.mk (Kd.R_elder' att11_0_7 (Kd.R_base ho0) hb); have n5_ := Aside0.mk (Kd.R_elder' att11_0_18 (Kd.R_base ho0) hb); have n6_ := Aside0.mk (Kd.R_lower (Kd.R_new' (Kd.R_new' (Kd.R_new' (Kd.R_new' (Kd.R_new' (Kd.R_new' ho0 (Kd.R_lt att11_0_2)) (Kd.R_lt att11_0_4)) (Kd.R_lt att11_0_5)) (Kd.R_lt att11_0_6)) (Kd.R_lt att11_0_7)) (Kd.R_lt att11_0_18)) (below_size att11_0_0)); have n7_ := Aside0.mk (blk_below (g := gb362) (o := .cells #[.int .i64 a0_0, .int .i64 a0_1, .int .i64 a0_2, .int .i64 a0_3, .int .i64 a0_4] 37 (0, 0)) att11_0_1 hb); have n8_ := Aside0.mk (below_step att11_0_0 hb); clear HO384; clear HO430; clear HO446; clear HO452; clear HO473; clear HO476; clear BK362; clear HB; have HO384 := n0_; have HO430 := n1_; have HO446 := n2_; have HO452 := n3_; have HO473 := n4_; have HO476 := n5_; have HO479 := n6_; have BK362 := n7_; have HB := n8_; clear n0_ n1_ n2_ n3_ n4_ n5_ n6_ n7_ n8_; (try clear hb); (try clear hb2); (try clear hk); (try clear hi); (try clear ho0); obtain ⟨Ao82, co82, eo82⟩ := Kd.R_slice HO479.out; subst eo82) | ((with_reducible refine gate_builtin (b := .append) (xs := #[.tmp 74, .tmp 76]) rfl ?_); at_builtin; refine Kd.R_append_rows k46 (w0 := w) w.heap.size rfl (.tmp 74) (.tmp 76) 40 46 (.agg #[(.int .i64 0), (.int .i64 0), (.int .i64 0), (.int .i64 0), (.int .i64 0)]) 40 rfl Try.underlying40 info46 rfl (by decide) (by omega) v475 y474 t477 _ _ _ (fun k_ => some k_ ≠ (.slice Ao50 y382.length co50 : Value).ownBlock ∧ some k_ ≠ (.slice Ao62 y428.length co62 : Value).ownBlock ∧ some k_ ≠ (.slice Ao68 y444.length co68 : Value).ownBlock ∧ some k_ ≠ (.slice Ao71 t450.length co71 : Value).ownBlock ∧ some k_ ≠ (.slice Ao79 y471.length co79 : Value).ownBlock ∧ some k_ ≠ (.slice Ao82 t477.length co82 : Value).ownBlock) (fun _ => False) rfl rfl ?aO ?aR (fun _ _ h => h) (fun _ h => h.elim) ?aF ?aB ?aS ?aL ?_; (case aR => repeat (first | exact (Kd.R_reads' HO479.out).2.2 | (with_reducible refine Kd.C_alloc ?_ _) | (with_reducible refine Kd.C_drewN ?_ _) | (with_reducible refine Kd.C_drew ?_))); (case aB => exact att11_0_0); (case aF => exact (fun k_ hk => ⟨Kd.fresh' (Kd.R_lt att11_0_2) k_ hk, Kd.fresh' (Kd.R_lt att11_0_4) k_ hk, Kd.fresh' (Kd.R_lt att11_0_5) k_ hk, Kd.fresh' (Kd.R_lt att11_0_6) k_ hk, Kd.fresh' (Kd.R_lt att11_0_7) k_ hk, Kd.fresh' (Kd.R_lt att11_0_8) k_ hk⟩)); (case aO => exact att11_0_37); (case aS => exact (below_size att11_0_0)); (case aL => have := LMc30.out; omega); intro v481 w81 ho hb hg hat; rw [← Ny480.out] at ho; have n0_ := Aside0.mk (blk_grown (g := gb362) (o := .cells #[.int .i64 a0_0, .int .i64 a0_1, .int .i64 a0_2, .int .i64 a0_3, .int .i64 a0_4] 37 (0, 0)) att11_0_1 hg (Kd.R_ne HO476.out BK362.out (by decide))); have n1_ := Aside0.mk (Kd.R_after (ok := (fun k_ => some k_ ≠ (.slice Ao62 y428.length co62 : Value).ownBlock ∧ some k_ ≠ (.slice Ao68 y444.length co68 : Value).ownBlock ∧ some k_ ≠ (.slice Ao71 t450.length co71 : Value).ownBlock ∧ some k_ ≠ (.slice Ao79 y471.length co79 : Value).ownBlock ∧ some k_ ≠ (.slice Ao82 t477.length co82 : Value).ownBlock)) att11_0_42 hg hat); have n2_ := Aside0.mk (Kd.R_after (ok := (fun k_ => some k_ ≠ (.slice Ao50 y382.length co50 : Value).ownBlock ∧ some k_ ≠ (.slice Ao68 y444.length co68 : Value).ownBlock ∧ some k_ ≠ (.slice Ao71 t450.length co71 : Value).ownBlock ∧ some k_ ≠ (.slice Ao79 y471.length co79 : Value).ownBlock ∧ some k_ ≠ (.slice Ao82 t477.length co82 : Value).ownBlock)) att11_0_41 hg hat); have n3_ := Aside0.mk (Kd.R_after (ok := (fun k_ => some k_ ≠ (.slice Ao50 y382.length co50 : Value).ownBlock ∧ some k_ ≠ (.slice Ao62 y428.length co62 : Value).ownBlock ∧ some k_ ≠ (.slice Ao71 t450.length co71 : Value).ownBlock ∧ some k_ ≠ (.slice Ao79 y471.length co79 : Value).ownBlock ∧ some k_ ≠ (.slice Ao82 t477.length co82 : Value).ownBlock)) att11_0_40 hg hat); have n4_ := Aside0.mk (Kd.R_after (ok := (fun k_ => some k_ ≠ (.slice Ao50 y382.length co50 : Value).ownBlock ∧ some k_ ≠ (.slice Ao62 y428.length co62 : Value).ownBlock ∧ some k_ ≠ (.slice Ao68 y444.length co68 : Value).ownBlock ∧ some k_ ≠ (.slice Ao79 y471.length co79 : Value).ownBlock ∧ some k_ ≠ (.slice Ao82 t477.length co82 : Value).ownBlock)) att11_0_39 hg hat); have n5_ := Aside0.mk (Kd.R_after (ok := (fun k_ => some k_ ≠ (.slice Ao50 y382.length co50 : Value).ownBlock ∧ some k_ ≠ (.slice Ao62 y428.length co62 : Value).ownBlock ∧ some k_ ≠ (.slice Ao68 y444.length co68 : Value).ownBlock ∧ some k_ ≠ (.slice Ao71 t450.length co71 : Value).ownBlock ∧ some k_ ≠ (.slice Ao82 t477.length co82 : Value).ownBlock)) att11_0_38 hg hat); have n6_ := Aside0.mk (Kd.R_after (ok := (fun k_ => some k_ ≠ (.slice Ao50 y382.length co50 : Value).ownBlock ∧ some k_ ≠ (.slice Ao62 y428.length co62 : Value).ownBlock ∧ some k_ ≠ (.slice Ao68 y444.length co68 : Value).ownBlock ∧ some k_ ≠ (.slice Ao71 t450.length co71 : Value).ownBlock ∧ some k_ ≠ (.slice Ao79 y471.length co79 : Value).ownBlock)) att11_0_36 hg hat); have n7_ := Aside0.mk (hb); have n8_ := Aside0.mk (ho); clear BK362; clear HO384; clear HO430; clear HO446; clear HO452; clear HO473; clear HO479; clear HB; clear HO476; have BK362 := n0_; have HO384 := n1_; have HO430 := n2_; have HO446 := n3_; have HO452 := n4_; have HO473 := n5_; have HO479 := n6_; have HB := n7_; have HO482 := n8_; clear n0_ n1_ n2_ n3_ n4_ n5_ n6_ n7_ n8_; clear ho hb hg hat))
          have n0_ := Aside0.mk (Kd.R_drew HO384.out)
          have n1_ := Aside0.mk (Kd.R_drew HO430.out)
          have n2_ := Aside0.mk (Kd.R_drew HO446.out)
          have n3_ := Aside0.mk (Kd.R_drew HO452.out)
          have n4_ := Aside0.mk (Kd.R_drew HO473.out)
          have n5_ := Aside0.mk (Kd.R_drew HO479.out)
          have n6_ := Aside0.mk (Kd.R_drew HO482.out)
          have n7_ := Aside0.mk (blk_drew BK362.out)
          have n8_ := Aside0.mk (below_drew1 HB.out)
          clear HO384
          clear HO430
          clear HO446
          clear HO452
          clear HO473
          clear HO479
          clear HO482
          clear BK362
          clear HB
          have HO384 := n0_
          have HO430 := n1_
          have HO446 := n2_
          have HO452 := n3_
          have HO473 := n4_
          have HO479 := n5_
          have HO482 := n6_
          have BK362 := n7_
          have HB := n8_
          clear n0_ n1_ n2_ n3_ n4_ n5_ n6_ n7_ n8_
          refine start_ (n := 10) (S := fun w' => w'.cell? ⟨gb362, 0, none⟩ = some (.int .i64 a0_0) ∧ w'.cell? ⟨gb362, 1, none⟩ = some (.int .i64 a0_1) ∧ w'.cell? ⟨gb362, 2, none⟩ = some (.int .i64 a0_2) ∧ w'.cell? ⟨gb362, 3, none⟩ = some (.int .i64 a0_3) ∧ w'.cell? ⟨gb362, 4, none⟩ = some (.int .i64 a0_4)) (ds := []) (tf_ 0 10) (by kernel_rfl) rfl rfl ⟨(blk_cell BK362.out 0).trans rfl, (blk_cell BK362.out 1).trans rfl, (blk_cell BK362.out 2).trans rfl, (blk_cell BK362.out 3).trans rfl, (blk_cell BK362.out 4).trans rfl⟩ (fun hHeld => ?_); refine with_tabW spec_l10Take.tab8 spec_l10Take.bits8 (fun HT_ HW_ => ?_)
          generalize w81.drew = w83 at HO384 HO430 HO446 HO452 HO473 HO479 HO482 BK362 HB hHeld ⊢
          refine pureQ_ (i := 0) (N := some 78) (tf_ 1 9) (h := ?_)
          refine pureQ_ (i := 1) (N := some 79) (tf_ 2 8) (h := ?_)
          refine pureQ_ (i := 2) (N := some 80) (tf_ 3 7) (h := ?_)
          refine pureQ_ (i := 4) (N := some 82) #[true, true, true, false, true, false, false, false, false, false] (h := ?_)
          refine takeQ_ (i := 5) (N := some 83) #[true, true, true, false, true, true, false, false, false, false] hHeld (hy := Or.inl ⟨by rfl, att11_0_17⟩) (h := ?_)
          refine one_ (i := 3) (N := some 81) (tf_ 6 4) rfl rfl (one_of HT_.out (by kernel_rfl)) (by decide) (fun K hK => ?_)
          refine goes_ Try.func110 (by kernel_rfl) rfl #[.int .i64 4, .int .i64 (wrap64 (a3 + 29))] (by rfl) rfl rfl atgM_ ?_
          with_reducible refine (spec_l10Zero.calls 4 (wrap64 (a3 + 29)) t483 t484 t485 t486 t487 _ A31.out).mono ?_
          rintro e w84 ⟨rfl, hb⟩
          refine ⟨_, rfl, ?_⟩
          have n0_ := Aside0.mk (Kd.R_below att11_0_2 hb)
          have n1_ := Aside0.mk (Kd.R_below att11_0_4 hb)
          have n2_ := Aside0.mk (Kd.R_below att11_0_5 hb)
          have n3_ := Aside0.mk (Kd.R_below att11_0_6 hb)
          have n4_ := Aside0.mk (Kd.R_below att11_0_7 hb)
          have n5_ := Aside0.mk (Kd.R_below att11_0_8 hb)
          have n6_ := Aside0.mk (Kd.R_below att11_0_14 hb)
          have n7_ := Aside0.mk (blk_below (g := gb362) (o := .cells #[.int .i64 a0_0, .int .i64 a0_1, .int .i64 a0_2, .int .i64 a0_3, .int .i64 a0_4] 37 (0, 0)) att11_0_1 hb)
          have n8_ := Aside0.mk (below_step att11_0_0 hb)
          clear HO384
          clear HO430
          clear HO446
          clear HO452
          clear HO473
          clear HO479
          clear HO482
          clear BK362
          clear HB
          have HO384 := n0_
          have HO430 := n1_
          have HO446 := n2_
          have HO452 := n3_
          have HO473 := n4_
          have HO479 := n5_
          have HO482 := n6_
          have BK362 := n7_
          have HB := n8_
          clear n0_ n1_ n2_ n3_ n4_ n5_ n6_ n7_ n8_
          (try clear hb)
          (try clear hb2)
          (try clear hk)
          (try clear hi)
          refine hK.out _ _ ⟨(blk_cell BK362.out 0).trans rfl, (blk_cell BK362.out 1).trans rfl, (blk_cell BK362.out 2).trans rfl, (blk_cell BK362.out 3).trans rfl, (blk_cell BK362.out 4).trans rfl⟩ (fun hHeld => ?_)
          clear hK K
          refine normS_ (N := some 81) (h := ?_)
          refine one_ (i := 6) (N := some 84) (tf_ 7 3) rfl rfl (one_of HT_.out (by kernel_rfl)) (by decide) (fun K hK => ?_)
          refine goes_ Try.func107 (by kernel_rfl) rfl #[.int .i64 a0_1, .int .i64 0] (by rfl) rfl rfl atgM_ ?_
          with_reducible refine (spec_l10Set.calls a0_1 0 t488 t489 t490 t491 t492 _ A32.out).mono ?_
          rintro e w85 ⟨rfl, hb⟩
          refine ⟨_, rfl, ?_⟩
          have n0_ := Aside0.mk (Kd.R_below att11_0_2 hb)
          have n1_ := Aside0.mk (Kd.R_below att11_0_4 hb)
          have n2_ := Aside0.mk (Kd.R_below att11_0_5 hb)
          have n3_ := Aside0.mk (Kd.R_below att11_0_6 hb)
          have n4_ := Aside0.mk (Kd.R_below att11_0_7 hb)
          have n5_ := Aside0.mk (Kd.R_below att11_0_8 hb)
          have n6_ := Aside0.mk (Kd.R_below att11_0_14 hb)
          have n7_ := Aside0.mk (blk_below (g := gb362) (o := .cells #[.int .i64 a0_0, .int .i64 a0_1, .int .i64 a0_2, .int .i64 a0_3, .int .i64 a0_4] 37 (0, 0)) att11_0_1 hb)
          have n8_ := Aside0.mk (below_step att11_0_0 hb)
          clear HO384
          clear HO430
          clear HO446
          clear HO452
          clear HO473
          clear HO479
          clear HO482
          clear BK362
          clear HB
          have HO384 := n0_
          have HO430 := n1_
          have HO446 := n2_
          have HO452 := n3_
          have HO473 := n4_
          have HO479 := n5_
          have HO482 := n6_
          have BK362 := n7_
          have HB := n8_
          clear n0_ n1_ n2_ n3_ n4_ n5_ n6_ n7_ n8_
          (try clear hb)
          (try clear hb2)
          (try clear hk)
          (try clear hi)
          refine hK.out _ _ ⟨(blk_cell BK362.out 0).trans rfl, (blk_cell BK362.out 1).trans rfl, (blk_cell BK362.out 2).trans rfl, (blk_cell BK362.out 3).trans rfl, (blk_cell BK362.out 4).trans rfl⟩ (fun hHeld => ?_)
          clear hK K
          refine normS_ (N := some 84) (h := ?_)
          refine one_ (i := 7) (N := some 85) (tf_ 8 2) rfl rfl (one_of HT_.out (by kernel_rfl)) (by decide) (fun K hK => ?_)
          refine Kd.R_lit_step k46 _ 46 ?hg (N := 85) ?hd (xs := ([(⟨t483, t484, t485, t486, t487⟩ : S46), (⟨t488, t489, t490, t491, t492⟩ : S46)] : List (S46))) (inner := [.int .i64 t483, .int .i64 t484, .int .i64 t485, .int .i64 t486, .int .i64 t487, .int .i64 t488, .int .i64 t489, .int .i64 t490, .int .i64 t491, .int .i64 t492]) (ok := fun _ => True) (okp := fun _ => True) ?hr ?hp (fun _ hk => hk) trivial (Below.refl _ _) (Nat.le_refl _) (by simp) ?_; (case hd => rfl); (case hg => rfl); (case hr => first | (go_simp; done) | (go_simp; rfl)); (case hp => exact (Reps.c5 (show Kd.M k46 _ _ _ (⟨t483, t484, t485, t486, t487⟩ : S46) [.int .i64 t483, .int .i64 t484, .int .i64 t485, .int .i64 t486, .int .i64 t487] from (k46_mkM _ _ _ (⟨t483, t484, t485, t486, t487⟩ : S46) )) (Reps.c5 (show Kd.M k46 _ _ _ (⟨t488, t489, t490, t491, t492⟩ : S46) [.int .i64 t488, .int .i64 t489, .int .i64 t490, .int .i64 t491, .int .i64 t492] from (k46_mkM _ _ _ (⟨t488, t489, t490, t491, t492⟩ : S46) )) (Reps.none _ _))))
          intro v494 w86 ho87 hb hg_ hnew_
          clear hg_ hnew_
          (first | rw [← Ny493.out] at ho87 | (simp only [Int.reduceToNat] at ho87; rw [← Ny493.out] at ho87))
          have n0_ := Aside0.mk (Kd.R_elder' att11_0_2 (Kd.R_base ho87) hb)
          have n1_ := Aside0.mk (Kd.R_elder' att11_0_4 (Kd.R_base ho87) hb)
          have n2_ := Aside0.mk (Kd.R_elder' att11_0_5 (Kd.R_base ho87) hb)
          have n3_ := Aside0.mk (Kd.R_elder' att11_0_6 (Kd.R_base ho87) hb)
          have n4_ := Aside0.mk (Kd.R_elder' att11_0_7 (Kd.R_base ho87) hb)
          have n5_ := Aside0.mk (Kd.R_elder' att11_0_8 (Kd.R_base ho87) hb)
          have n6_ := Aside0.mk (Kd.R_elder' att11_0_14 (Kd.R_base ho87) hb)
          have n7_ := Aside0.mk (Kd.R_lower (Kd.R_new' (Kd.R_new' (Kd.R_new' (Kd.R_new' (Kd.R_new' (Kd.R_new' (Kd.R_new' ho87 (Kd.R_lt att11_0_2)) (Kd.R_lt att11_0_4)) (Kd.R_lt att11_0_5)) (Kd.R_lt att11_0_6)) (Kd.R_lt att11_0_7)) (Kd.R_lt att11_0_8)) (Kd.R_lt att11_0_14)) (below_size att11_0_0))
          have n8_ := Aside0.mk (blk_below (g := gb362) (o := .cells #[.int .i64 a0_0, .int .i64 a0_1, .int .i64 a0_2, .int .i64 a0_3, .int .i64 a0_4] 37 (0, 0)) att11_0_1 hb)
          have n9_ := Aside0.mk (below_step att11_0_0 hb)
          clear HO384
          clear HO430
          clear HO446
          clear HO452
          clear HO473
          clear HO479
          clear HO482
          clear BK362
          clear HB
          have HO384 := n0_
          have HO430 := n1_
          have HO446 := n2_
          have HO452 := n3_
          have HO473 := n4_
          have HO479 := n5_
          have HO482 := n6_
          have HO495 := n7_
          have BK362 := n8_
          have HB := n9_
          clear n0_ n1_ n2_ n3_ n4_ n5_ n6_ n7_ n8_ n9_
          clear hb ho87
          obtain ⟨Ao89, co89, eo89⟩ := Kd.R_slice HO495.out
          (first | subst eo89 | (injection eo89 with f1_ f2_ f3_; have f4_ := f1_.symm; have f5_ := f3_.symm; clear f1_ f2_ f3_; subst f4_; subst f5_))
          refine hK.out _ _ ⟨(blk_cell BK362.out 0).trans rfl, (blk_cell BK362.out 1).trans rfl, (blk_cell BK362.out 2).trans rfl, (blk_cell BK362.out 3).trans rfl, (blk_cell BK362.out 4).trans rfl⟩ (fun hHeld => ?_)
          clear hK K
          refine normS_ (N := some 85) (h := ?_)
          refine one_ (i := 8) (N := some 86) (tf_ 9 1) rfl rfl (one_of HT_.out (by kernel_rfl)) (by decide) (fun K hK => ?_)
          refine Kd.R_append_rows_step k46 (w0 := w) w.heap.size (by rfl) (.tmp 78) (.tmp 85) 40 46 (.agg #[(.int .i64 0), (.int .i64 0), (.int .i64 0), (.int .i64 0), (.int .i64 0)]) 40 rfl Try.underlying40 info46 rfl (by decide) (by omega) v481 y480 y493 _ _ _ (fun k_ => some k_ ≠ (.slice Ao50 y382.length co50 : Value).ownBlock ∧ some k_ ≠ (.slice Ao62 y428.length co62 : Value).ownBlock ∧ some k_ ≠ (.slice Ao68 y444.length co68 : Value).ownBlock ∧ some k_ ≠ (.slice Ao71 t450.length co71 : Value).ownBlock ∧ some k_ ≠ (.slice Ao79 y471.length co79 : Value).ownBlock ∧ some k_ ≠ (.slice Ao82 t477.length co82 : Value).ownBlock ∧ some k_ ≠ (.slice Ao89 y493.length co89 : Value).ownBlock) (fun _ => False) rfl rfl ?aO ?aR (fun _ _ h => h) (fun _ h => h.elim) ?aF ?aB ?aS ?aL ?_
          (case aR => repeat (first | exact (Kd.R_reads' HO495.out).2.2 | (with_reducible refine Kd.C_alloc ?_ _) | (with_reducible refine Kd.C_drewN ?_ _) | (with_reducible refine Kd.C_drew ?_)))
          (case aB => exact att11_0_0)
          (case aF => exact (fun k_ hk => ⟨Kd.fresh' (Kd.R_lt att11_0_2) k_ hk, Kd.fresh' (Kd.R_lt att11_0_4) k_ hk, Kd.fresh' (Kd.R_lt att11_0_5) k_ hk, Kd.fresh' (Kd.R_lt att11_0_6) k_ hk, Kd.fresh' (Kd.R_lt att11_0_7) k_ hk, Kd.fresh' (Kd.R_lt att11_0_8) k_ hk, Kd.fresh' (Kd.R_lt att11_0_10) k_ hk⟩))
          (case aO => exact att11_0_29)
          (case aS => exact (below_size att11_0_0))
          (case aL => have := LMc33.out; omega)
          intro v497 w88 ho hb hg hat
          rw [← Ny496.out] at ho
          have n0_ := Aside0.mk (blk_grown (g := gb362) (o := .cells #[.int .i64 a0_0, .int .i64 a0_1, .int .i64 a0_2, .int .i64 a0_3, .int .i64 a0_4] 37 (0, 0)) att11_0_1 hg (Kd.R_ne HO482.out BK362.out (by decide)))
          have n1_ := Aside0.mk (Kd.R_after (ok := (fun k_ => some k_ ≠ (.slice Ao62 y428.length co62 : Value).ownBlock ∧ some k_ ≠ (.slice Ao68 y444.length co68 : Value).ownBlock ∧ some k_ ≠ (.slice Ao71 t450.length co71 : Value).ownBlock ∧ some k_ ≠ (.slice Ao79 y471.length co79 : Value).ownBlock ∧ some k_ ≠ (.slice Ao82 t477.length co82 : Value).ownBlock ∧ some k_ ≠ (.slice Ao89 y493.length co89 : Value).ownBlock)) att11_0_35 hg hat)
          have n2_ := Aside0.mk (Kd.R_after (ok := (fun k_ => some k_ ≠ (.slice Ao50 y382.length co50 : Value).ownBlock ∧ some k_ ≠ (.slice Ao68 y444.length co68 : Value).ownBlock ∧ some k_ ≠ (.slice Ao71 t450.length co71 : Value).ownBlock ∧ some k_ ≠ (.slice Ao79 y471.length co79 : Value).ownBlock ∧ some k_ ≠ (.slice Ao82 t477.length co82 : Value).ownBlock ∧ some k_ ≠ (.slice Ao89 y493.length co89 : Value).ownBlock)) att11_0_34 hg hat)
          have n3_ := Aside0.mk (Kd.R_after (ok := (fun k_ => some k_ ≠ (.slice Ao50 y382.length co50 : Value).ownBlock ∧ some k_ ≠ (.slice Ao62 y428.length co62 : Value).ownBlock ∧ some k_ ≠ (.slice Ao71 t450.length co71 : Value).ownBlock ∧ some k_ ≠ (.slice Ao79 y471.length co79 : Value).ownBlock ∧ some k_ ≠ (.slice Ao82 t477.length co82 : Value).ownBlock ∧ some k_ ≠ (.slice Ao89 y493.length co89 : Value).ownBlock)) att11_0_33 hg hat)
          have n4_ := Aside0.mk (Kd.R_after (ok := (fun k_ => some k_ ≠ (.slice Ao50 y382.length co50 : Value).ownBlock ∧ some k_ ≠ (.slice Ao62 y428.length co62 : Value).ownBlock ∧ some k_ ≠ (.slice Ao68 y444.length co68 : Value).ownBlock ∧ some k_ ≠ (.slice Ao79 y471.length co79 : Value).ownBlock ∧ some k_ ≠ (.slice Ao82 t477.length co82 : Value).ownBlock ∧ some k_ ≠ (.slice Ao89 y493.length co89 : Value).ownBlock)) att11_0_32 hg hat)
          have n5_ := Aside0.mk (Kd.R_after (ok := (fun k_ => some k_ ≠ (.slice Ao50 y382.length co50 : Value).ownBlock ∧ some k_ ≠ (.slice Ao62 y428.length co62 : Value).ownBlock ∧ some k_ ≠ (.slice Ao68 y444.length co68 : Value).ownBlock ∧ some k_ ≠ (.slice Ao71 t450.length co71 : Value).ownBlock ∧ some k_ ≠ (.slice Ao82 t477.length co82 : Value).ownBlock ∧ some k_ ≠ (.slice Ao89 y493.length co89 : Value).ownBlock)) att11_0_31 hg hat)
          have n6_ := Aside0.mk (Kd.R_after (ok := (fun k_ => some k_ ≠ (.slice Ao50 y382.length co50 : Value).ownBlock ∧ some k_ ≠ (.slice Ao62 y428.length co62 : Value).ownBlock ∧ some k_ ≠ (.slice Ao68 y444.length co68 : Value).ownBlock ∧ some k_ ≠ (.slice Ao71 t450.length co71 : Value).ownBlock ∧ some k_ ≠ (.slice Ao79 y471.length co79 : Value).ownBlock ∧ some k_ ≠ (.slice Ao89 y493.length co89 : Value).ownBlock)) att11_0_30 hg hat)
          have n7_ := Aside0.mk (Kd.R_after (ok := (fun k_ => some k_ ≠ (.slice Ao50 y382.length co50 : Value).ownBlock ∧ some k_ ≠ (.slice Ao62 y428.length co62 : Value).ownBlock ∧ some k_ ≠ (.slice Ao68 y444.length co68 : Value).ownBlock ∧ some k_ ≠ (.slice Ao71 t450.length co71 : Value).ownBlock ∧ some k_ ≠ (.slice Ao79 y471.length co79 : Value).ownBlock ∧ some k_ ≠ (.slice Ao82 t477.length co82 : Value).ownBlock)) att11_0_28 hg hat)
          have n8_ := Aside0.mk (hb)
          have n9_ := Aside0.mk (ho)
          clear BK362
          clear HO384
          clear HO430
          clear HO446
          clear HO452
          clear HO473
          clear HO479
          clear HO495
          clear HB
          clear HO482
          have BK362 := n0_
          have HO384 := n1_
          have HO430 := n2_
          have HO446 := n3_
          have HO452 := n4_
          have HO473 := n5_
          have HO479 := n6_
          have HO495 := n7_
          have HB := n8_
          have HO498 := n9_
          clear n0_ n1_ n2_ n3_ n4_ n5_ n6_ n7_ n8_ n9_
          clear ho hb hg hat
          refine hK.out _ _ ⟨(blk_cell BK362.out 0).trans rfl, (blk_cell BK362.out 1).trans rfl, (blk_cell BK362.out 2).trans rfl, (blk_cell BK362.out 3).trans rfl, (blk_cell BK362.out 4).trans rfl⟩ (fun hHeld => ?_)
          clear hK K
          refine normS_ (N := some 86) (h := ?_)
          refine pureQ_ (i := 9) (N := some 10) (tf_ 10 0) (h := ?_)
          refine done_ (done_of HT_.out (by kernel_rfl)) ?_
          obtain ⟨hcz90_0, hcz90_1, hcz90_2, hcz90_3, hcz90_4, hfz90_0, hfz90_1, hfz90_2, hfz90_3, hfz90_4⟩ := blkB5_ BK362
          try go_wp2_with (first | ((with_reducible refine gate_callee (f := 107) rfl ?_); refine goesL_ (some 93) rfl rfl Try.func107 (by kernel_rfl) rfl #[.int .i64 a0_3, .int .i64 0] rfl atgM_ ?_; (with_reducible refine (spec_l10Set.calls a0_3 0 t499 t500 t501 t502 t503 _ A35.out).mono ?_); rintro e w91 ⟨rfl, hb⟩; refine ⟨_, rfl, ?_⟩; have n0_ := Aside0.mk (Kd.R_below att11_0_2 hb); have n1_ := Aside0.mk (Kd.R_below att11_0_4 hb); have n2_ := Aside0.mk (Kd.R_below att11_0_5 hb); have n3_ := Aside0.mk (Kd.R_below att11_0_6 hb); have n4_ := Aside0.mk (Kd.R_below att11_0_7 hb); have n5_ := Aside0.mk (Kd.R_below att11_0_8 hb); have n6_ := Aside0.mk (Kd.R_below att11_0_10 hb); have n7_ := Aside0.mk (Kd.R_below att11_0_11 hb); have n8_ := Aside0.mk (blk_below (g := gb362) (o := .cells #[.int .i64 a0_0, .int .i64 a0_1, .int .i64 a0_2, .int .i64 a0_3, .int .i64 a0_4] 37 (0, 0)) att11_0_1 hb); have n9_ := Aside0.mk (below_step att11_0_0 hb); clear HO384; clear HO430; clear HO446; clear HO452; clear HO473; clear HO479; clear HO495; clear HO498; clear BK362; clear HB; have HO384 := n0_; have HO430 := n1_; have HO446 := n2_; have HO452 := n3_; have HO473 := n4_; have HO479 := n5_; have HO495 := n6_; have HO498 := n7_; have BK362 := n8_; have HB := n9_; clear n0_ n1_ n2_ n3_ n4_ n5_ n6_ n7_ n8_ n9_; (try clear hb); (try clear hb2); (try clear hk); (try clear hi)) | ((with_reducible refine gate_callee (f := 109) rfl ?_); refine goesL_ (some 95) rfl rfl Try.func109 (by kernel_rfl) rfl #[.int .i64 (wrap64 (a3 + t363))] rfl atgM_ ?_; (with_reducible refine (spec_l10Jump.calls (wrap64 (a3 + t363)) t504 t505 t506 t507 t508 _ A36.out).mono ?_); rintro e w92 ⟨rfl, hb⟩; refine ⟨_, rfl, ?_⟩; have n0_ := Aside0.mk (Kd.R_below att11_0_2 hb); have n1_ := Aside0.mk (Kd.R_below att11_0_4 hb); have n2_ := Aside0.mk (Kd.R_below att11_0_5 hb); have n3_ := Aside0.mk (Kd.R_below att11_0_6 hb); have n4_ := Aside0.mk (Kd.R_below att11_0_7 hb); have n5_ := Aside0.mk (Kd.R_below att11_0_8 hb); have n6_ := Aside0.mk (Kd.R_below att11_0_10 hb); have n7_ := Aside0.mk (Kd.R_below att11_0_11 hb); have n8_ := Aside0.mk (blk_below (g := gb362) (o := .cells #[.int .i64 a0_0, .int .i64 a0_1, .int .i64 a0_2, .int .i64 a0_3, .int .i64 a0_4] 37 (0, 0)) att11_0_1 hb); have n9_ := Aside0.mk (below_step att11_0_0 hb); clear HO384; clear HO430; clear HO446; clear HO452; clear HO473; clear HO479; clear HO495; clear HO498; clear BK362; clear HB; have HO384 := n0_; have HO430 := n1_; have HO446 := n2_; have HO452 := n3_; have HO473 := n4_; have HO479 := n5_; have HO495 := n6_; have HO498 := n7_; have BK362 := n8_; have HB := n9_; clear n0_ n1_ n2_ n3_ n4_ n5_ n6_ n7_ n8_ n9_; (try clear hb); (try clear hb2); (try clear hk); (try clear hi)) | ((with_reducible refine gate_callee (f := 109) rfl ?_); refine goesL_ (some 97) rfl rfl Try.func109 (by kernel_rfl) rfl #[.int .i64 a3] rfl atgM_ ?_; (with_reducible refine (spec_l10Jump.calls a3 t509 t510 t511 t512 t513 _ A37.out).mono ?_); rintro e w93 ⟨rfl, hb⟩; refine ⟨_, rfl, ?_⟩; have n0_ := Aside0.mk (Kd.R_below att11_0_2 hb); have n1_ := Aside0.mk (Kd.R_below att11_0_4 hb); have n2_ := Aside0.mk (Kd.R_below att11_0_5 hb); have n3_ := Aside0.mk (Kd.R_below att11_0_6 hb); have n4_ := Aside0.mk (Kd.R_below att11_0_7 hb); have n5_ := Aside0.mk (Kd.R_below att11_0_8 hb); have n6_ := Aside0.mk (Kd.R_below att11_0_10 hb); have n7_ := Aside0.mk (Kd.R_below att11_0_11 hb); have n8_ := Aside0.mk (blk_below (g := gb362) (o := .cells #[.int .i64 a0_0, .int .i64 a0_1, .int .i64 a0_2, .int .i64 a0_3, .int .i64 a0_4] 37 (0, 0)) att11_0_1 hb); have n9_ := Aside0.mk (below_step att11_0_0 hb); clear HO384; clear HO430; clear HO446; clear HO452; clear HO473; clear HO479; clear HO495; clear HO498; clear BK362; clear HB; have HO384 := n0_; have HO430 := n1_; have HO446 := n2_; have HO452 := n3_; have HO473 := n4_; have HO479 := n5_; have HO495 := n6_; have HO498 := n7_; have BK362 := n8_; have HB := n9_; clear n0_ n1_ n2_ n3_ n4_ n5_ n6_ n7_ n8_ n9_; (try clear hb); (try clear hb2); (try clear hk); (try clear hi)) | ((with_reducible refine gate_dst (N := 98) rfl ?_); refine Kd.R_lit k46 _ 46 ?hg (N := 98) ?hd (xs := ([(⟨t499, t500, t501, t502, t503⟩ : S46), (⟨t504, t505, t506, t507, t508⟩ : S46), (⟨t509, t510, t511, t512, t513⟩ : S46)] : List (S46))) (inner := [.int .i64 t499, .int .i64 t500, .int .i64 t501, .int .i64 t502, .int .i64 t503, .int .i64 t504, .int .i64 t505, .int .i64 t506, .int .i64 t507, .int .i64 t508, .int .i64 t509, .int .i64 t510, .int .i64 t511, .int .i64 t512, .int .i64 t513]) (ok := fun _ => True) (okp := fun _ => True) ?hr ?hp (fun _ hk => hk) trivial (Below.refl _ _) (Nat.le_refl _) (by simp) ?_; (case hd => rfl); (case hg => rfl); (case hr => first | (go_simp; done) | (go_simp; rfl)); (case hp => exact (Reps.c5 (show Kd.M k46 _ _ _ (⟨t499, t500, t501, t502, t503⟩ : S46) [.int .i64 t499, .int .i64 t500, .int .i64 t501, .int .i64 t502, .int .i64 t503] from (k46_mkM _ _ _ (⟨t499, t500, t501, t502, t503⟩ : S46) )) (Reps.c5 (show Kd.M k46 _ _ _ (⟨t504, t505, t506, t507, t508⟩ : S46) [.int .i64 t504, .int .i64 t505, .int .i64 t506, .int .i64 t507, .int .i64 t508] from (k46_mkM _ _ _ (⟨t504, t505, t506, t507, t508⟩ : S46) )) (Reps.c5 (show Kd.M k46 _ _ _ (⟨t509, t510, t511, t512, t513⟩ : S46) [.int .i64 t509, .int .i64 t510, .int .i64 t511, .int .i64 t512, .int .i64 t513] from (k46_mkM _ _ _ (⟨t509, t510, t511, t512, t513⟩ : S46) )) (Reps.none _ _))))); intro v515 w94 ho95 hb hg_ hnew_; clear hg_ hnew_; (first | rw [← Ny514.out] at ho95 | (simp only [Int.reduceToNat] at ho95; rw [← Ny514.out] at ho95)); have n0_ := Aside0.mk (Kd.R_elder' att11_0_2 (Kd.R_base ho95) hb); have n1_ := Aside0.mk (Kd.R_elder' att11_0_4 (Kd.R_base ho95) hb); have n2_ := Aside0.mk (Kd.R_elder' att11_0_5 (Kd.R_base ho95) hb); have n3_ := Aside0.mk (Kd.R_elder' att11_0_6 (Kd.R_base ho95) hb); have n4_ := Aside0.mk (Kd.R_elder' att11_0_7 (Kd.R_base ho95) hb); have n5_ := Aside0.mk (Kd.R_elder' att11_0_8 (Kd.R_base ho95) hb); have n6_ := Aside0.mk (Kd.R_elder' att11_0_10 (Kd.R_base ho95) hb); have n7_ := Aside0.mk (Kd.R_elder' att11_0_11 (Kd.R_base ho95) hb); have n8_ := Aside0.mk (Kd.R_lower (Kd.R_new' (Kd.R_new' (Kd.R_new' (Kd.R_new' (Kd.R_new' (Kd.R_new' (Kd.R_new' (Kd.R_new' ho95 (Kd.R_lt att11_0_2)) (Kd.R_lt att11_0_4)) (Kd.R_lt att11_0_5)) (Kd.R_lt att11_0_6)) (Kd.R_lt att11_0_7)) (Kd.R_lt att11_0_8)) (Kd.R_lt att11_0_10)) (Kd.R_lt att11_0_11)) (below_size att11_0_0)); have n9_ := Aside0.mk (blk_below (g := gb362) (o := .cells #[.int .i64 a0_0, .int .i64 a0_1, .int .i64 a0_2, .int .i64 a0_3, .int .i64 a0_4] 37 (0, 0)) att11_0_1 hb); have n10_ := Aside0.mk (below_step att11_0_0 hb); clear HO384; clear HO430; clear HO446; clear HO452; clear HO473; clear HO479; clear HO495; clear HO498; clear BK362; clear HB; have HO384 := n0_; have HO430 := n1_; have HO446 := n2_; have HO452 := n3_; have HO473 := n4_; have HO479 := n5_; have HO495 := n6_; have HO498 := n7_; have HO516 := n8_; have BK362 := n9_; have HB := n10_; clear n0_ n1_ n2_ n3_ n4_ n5_ n6_ n7_ n8_ n9_ n10_; clear hb ho95; obtain ⟨Ao97, co97, eo97⟩ := Kd.R_slice HO516.out; subst eo97) | ((with_reducible refine gate_builtin (b := .append) (xs := #[.tmp 90, .tmp 98]) rfl ?_); at_builtin; refine Kd.R_append_rows k46 (w0 := w) w.heap.size rfl (.tmp 90) (.tmp 98) 40 46 (.agg #[(.int .i64 0), (.int .i64 0), (.int .i64 0), (.int .i64 0), (.int .i64 0)]) 40 rfl Try.underlying40 info46 rfl (by decide) (by omega) v497 y496 y514 _ _ _ (fun k_ => some k_ ≠ (.slice Ao50 y382.length co50 : Value).ownBlock ∧ some k_ ≠ (.slice Ao62 y428.length co62 : Value).ownBlock ∧ some k_ ≠ (.slice Ao68 y444.length co68 : Value).ownBlock ∧ some k_ ≠ (.slice Ao71 t450.length co71 : Value).ownBlock ∧ some k_ ≠ (.slice Ao79 y471.length co79 : Value).ownBlock ∧ some k_ ≠ (.slice Ao82 t477.length co82 : Value).ownBlock ∧ some k_ ≠ (.slice Ao89 y493.length co89 : Value).ownBlock ∧ some k_ ≠ (.slice Ao97 y514.length co97 : Value).ownBlock) (fun _ => False) rfl rfl ?aO ?aR (fun _ _ h => h) (fun _ h => h.elim) ?aF ?aB ?aS ?aL ?_; (case aR => repeat (first | exact (Kd.R_reads' HO516.out).2.2 | (with_reducible refine Kd.C_alloc ?_ _) | (with_reducible refine Kd.C_drewN ?_ _) | (with_reducible refine Kd.C_drew ?_))); (case aB => exact att11_0_0); (case aF => exact (fun k_ hk => ⟨Kd.fresh' (Kd.R_lt att11_0_2) k_ hk, Kd.fresh' (Kd.R_lt att11_0_4) k_ hk, Kd.fresh' (Kd.R_lt att11_0_5) k_ hk, Kd.fresh' (Kd.R_lt att11_0_6) k_ hk, Kd.fresh' (Kd.R_lt att11_0_7) k_ hk, Kd.fresh' (Kd.R_lt att11_0_8) k_ hk, Kd.fresh' (Kd.R_lt att11_0_10) k_ hk, Kd.fresh' (Kd.R_lt (by exact toR_ (HO516.out))) k_ hk⟩)); (case aO => exact att11_0_20); (case aS => exact (below_size att11_0_0)); (case aL => have := LMc38.out; omega); intro v518 w96 ho hb hg hat; rw [← Ny517.out] at ho; have n0_ := Aside0.mk (blk_grown (g := gb362) (o := .cells #[.int .i64 a0_0, .int .i64 a0_1, .int .i64 a0_2, .int .i64 a0_3, .int .i64 a0_4] 37 (0, 0)) att11_0_1 hg (Kd.R_ne HO498.out BK362.out (by decide))); have n1_ := Aside0.mk (Kd.R_after (ok := (fun k_ => some k_ ≠ (.slice Ao62 y428.length co62 : Value).ownBlock ∧ some k_ ≠ (.slice Ao68 y444.length co68 : Value).ownBlock ∧ some k_ ≠ (.slice Ao71 t450.length co71 : Value).ownBlock ∧ some k_ ≠ (.slice Ao79 y471.length co79 : Value).ownBlock ∧ some k_ ≠ (.slice Ao82 t477.length co82 : Value).ownBlock ∧ some k_ ≠ (.slice Ao89 y493.length co89 : Value).ownBlock ∧ some k_ ≠ (.slice Ao97 y514.length co97 : Value).ownBlock)) att11_0_27 hg hat); have n2_ := Aside0.mk (Kd.R_after (ok := (fun k_ => some k_ ≠ (.slice Ao50 y382.length co50 : Value).ownBlock ∧ some k_ ≠ (.slice Ao68 y444.length co68 : Value).ownBlock ∧ some k_ ≠ (.slice Ao71 t450.length co71 : Value).ownBlock ∧ some k_ ≠ (.slice Ao79 y471.length co79 : Value).ownBlock ∧ some k_ ≠ (.slice Ao82 t477.length co82 : Value).ownBlock ∧ some k_ ≠ (.slice Ao89 y493.length co89 : Value).ownBlock ∧ some k_ ≠ (.slice Ao97 y514.length co97 : Value).ownBlock)) att11_0_26 hg hat); have n3_ := Aside0.mk (Kd.R_after (ok := (fun k_ => some k_ ≠ (.slice Ao50 y382.length co50 : Value).ownBlock ∧ some k_ ≠ (.slice Ao62 y428.length co62 : Value).ownBlock ∧ some k_ ≠ (.slice Ao71 t450.length co71 : Value).ownBlock ∧ some k_ ≠ (.slice Ao79 y471.length co79 : Value).ownBlock ∧ some k_ ≠ (.slice Ao82 t477.length co82 : Value).ownBlock ∧ some k_ ≠ (.slice Ao89 y493.length co89 : Value).ownBlock ∧ some k_ ≠ (.slice Ao97 y514.length co97 : Value).ownBlock)) att11_0_25 hg hat); have n4_ := Aside0.mk (Kd.R_after (ok := (fun k_ => some k_ ≠ (.slice Ao50 y382.length co50 : Value).ownBlock ∧ some k_ ≠ (.slice Ao62 y428.length co62 : Value).ownBlock ∧ some k_ ≠ (.slice Ao68 y444.length co68 : Value).ownBlock ∧ some k_ ≠ (.slice Ao79 y471.length co79 : Value).ownBlock ∧ some k_ ≠ (.slice Ao82 t477.length co82 : Value).ownBlock ∧ some k_ ≠ (.slice Ao89 y493.length co89 : Value).ownBlock ∧ some k_ ≠ (.slice Ao97 y514.length co97 : Value).ownBlock)) att11_0_24 hg hat); have n5_ := Aside0.mk (Kd.R_after (ok := (fun k_ => some k_ ≠ (.slice Ao50 y382.length co50 : Value).ownBlock ∧ some k_ ≠ (.slice Ao62 y428.length co62 : Value).ownBlock ∧ some k_ ≠ (.slice Ao68 y444.length co68 : Value).ownBlock ∧ some k_ ≠ (.slice Ao71 t450.length co71 : Value).ownBlock ∧ some k_ ≠ (.slice Ao82 t477.length co82 : Value).ownBlock ∧ some k_ ≠ (.slice Ao89 y493.length co89 : Value).ownBlock ∧ some k_ ≠ (.slice Ao97 y514.length co97 : Value).ownBlock)) att11_0_23 hg hat); have n6_ := Aside0.mk (Kd.R_after (ok := (fun k_ => some k_ ≠ (.slice Ao50 y382.length co50 : Value).ownBlock ∧ some k_ ≠ (.slice Ao62 y428.length co62 : Value).ownBlock ∧ some k_ ≠ (.slice Ao68 y444.length co68 : Value).ownBlock ∧ some k_ ≠ (.slice Ao71 t450.length co71 : Value).ownBlock ∧ some k_ ≠ (.slice Ao79 y471.length co79 : Value).ownBlock ∧ some k_ ≠ (.slice Ao89 y493.length co89 : Value).ownBlock ∧ some k_ ≠ (.slice Ao97 y514.length co97 : Value).ownBlock)) att11_0_22 hg hat); have n7_ := Aside0.mk (Kd.R_after (ok := (fun k_ => some k_ ≠ (.slice Ao50 y382.length co50 : Value).ownBlock ∧ some k_ ≠ (.slice Ao62 y428.length co62 : Value).ownBlock ∧ some k_ ≠ (.slice Ao68 y444.length co68 : Value).ownBlock ∧ some k_ ≠ (.slice Ao71 t450.length co71 : Value).ownBlock ∧ some k_ ≠ (.slice Ao79 y471.length co79 : Value).ownBlock ∧ some k_ ≠ (.slice Ao82 t477.length co82 : Value).ownBlock ∧ some k_ ≠ (.slice Ao97 y514.length co97 : Value).ownBlock)) att11_0_21 hg hat); have n8_ := Aside0.mk (Kd.R_after (ok := (fun k_ => some k_ ≠ (.slice Ao50 y382.length co50 : Value).ownBlock ∧ some k_ ≠ (.slice Ao62 y428.length co62 : Value).ownBlock ∧ some k_ ≠ (.slice Ao68 y444.length co68 : Value).ownBlock ∧ some k_ ≠ (.slice Ao71 t450.length co71 : Value).ownBlock ∧ some k_ ≠ (.slice Ao79 y471.length co79 : Value).ownBlock ∧ some k_ ≠ (.slice Ao82 t477.length co82 : Value).ownBlock ∧ some k_ ≠ (.slice Ao89 y493.length co89 : Value).ownBlock)) (by exact toR_ (Kd.R_mono HO516.out (fun _ hk => ⟨⟨hk.1.1.1.1.1.1.1.2, ⟨hk.1.1.1.1.1.1.2, ⟨hk.1.1.1.1.1.2, ⟨hk.1.1.1.1.2, ⟨hk.1.1.1.2, ⟨hk.1.1.2, hk.1.2⟩⟩⟩⟩⟩⟩, hk.2⟩))) hg hat); have n9_ := Aside0.mk (hb); have n10_ := Aside0.mk (ho); clear BK362; clear HO384; clear HO430; clear HO446; clear HO452; clear HO473; clear HO479; clear HO495; clear HO516; clear HB; clear HO498; have BK362 := n0_; have HO384 := n1_; have HO430 := n2_; have HO446 := n3_; have HO452 := n4_; have HO473 := n5_; have HO479 := n6_; have HO495 := n7_; have HO516 := n8_; have HB := n9_; have HO519 := n10_; clear n0_ n1_ n2_ n3_ n4_ n5_ n6_ n7_ n8_ n9_ n10_; clear ho hb hg hat))
          go_ret
          exact ⟨_, retT_, by exact toR_ (Kd.R_mono HO519.out (fun _ hk => trivial)), att11_0_0⟩
         ·rw [if_neg c38] at H
          exact absurd H (by simp)
        ·rw [if_neg c34] at H
         have c34b0 := beq_eq_false_iff_ne.mpr c34
         have c34b1 := bne_iff_ne.mpr c34
         replace H := Option.bind_eq_some_iff.mp H
         obtain ⟨⟨t520, t521, t522, t523, t524⟩, A980, H⟩ := H
         (try dsimp only at H)
         have A98 := Aside0.mk A980
         clear A980
         replace H := Option.bind_eq_some_iff.mp H
         obtain ⟨⟨t525, t526, t527, t528, t529⟩, A990, H⟩ := H
         (try dsimp only at H)
         have A99 := Aside0.mk A990
         clear A990
         replace H := Option.bind_eq_some_iff.mp H
         obtain ⟨⟨t530, t531, t532, t533, t534⟩, A1000, H⟩ := H
         (try dsimp only at H)
         have A100 := Aside0.mk A1000
         clear A1000
         replace H := Option.bind_eq_some_iff.mp H
         obtain ⟨⟨t535, t536, t537, t538, t539⟩, A1010, H⟩ := H
         (try dsimp only at H)
         have A101 := Aside0.mk A1010
         clear A1010
         replace H := Option.bind_eq_some_iff.mp H
         obtain ⟨⟨t540, t541, t542, t543, t544⟩, A1020, H⟩ := H
         (try dsimp only at H)
         have A102 := Aside0.mk A1020
         clear A1020
         obtain ⟨y545, hy545⟩ : ∃ y_ : List (S46), y_ = (([(⟨t520, t521, t522, t523, t524⟩ : S46), (⟨t525, t526, t527, t528, t529⟩ : S46), (⟨t530, t531, t532, t533, t534⟩ : S46), (⟨t535, t536, t537, t538, t539⟩ : S46), (⟨t540, t541, t542, t543, t544⟩ : S46)] : List (S46))) := ⟨_, rfl⟩
         replace H := yy_ H hy545
         have Ny545 := Aside0.mk hy545
         clear hy545
         by_cases c103 : y496.length + y545.length < 3518437208883
         ·rw [if_pos c103] at H
          have LMc103 := Aside0.mk c103
          clear c103
          obtain ⟨y548, hy548⟩ : ∃ y_ : List (S46), y_ = (y496 ++ y545) := ⟨_, rfl⟩
          replace H : (some y548) = some r := by rw [hy548]; exact H
          have Ny548 := Aside0.mk hy548
          clear hy548
          obtain rfl := Option.some.inj H
          go_enter Try.func113, Try.ntmps113
          try go_wp2_with (first | ((with_reducible refine gate_dst (N := 4) rfl ?_); refine box_event ?hg (N := 4) ?hd (cs := #[.int .i64 a0_0, .int .i64 a0_1, .int .i64 a0_2, .int .i64 a0_3, .int .i64 a0_4]) (t := 37) ?hr ?_; (case hd => rfl); (case hg => rfl); (case hr => first | (go_simp; done) | (go_simp; rfl)); intro gb362 hg w104 hbox hb; refine swap4_ (below_step atgB_ hb) (hbox) ((by rw [hg]; exact (below_size atgB_) : w.heap.size ≤ gb362)) ((by rw [hg]; exact (below_size atgB_) : w.heap.size ≤ gb362)) ?_; clear HB; intro HB BK362 GW362 GE362; clear hb hbox hg; obtain ⟨hcz105_0, hcz105_1, hcz105_2, hcz105_3, hcz105_4, hfz105_0, hfz105_1, hfz105_2, hfz105_3, hfz105_4⟩ := blkB5_ BK362) | ((with_reducible refine gate_callee (f := 27) rfl ?_); refine goesL_ (some 13) rfl rfl Try.func27 (by kernel_rfl) rfl #[.agg #[.int .i64 a0_0, .int .i64 a0_1, .int .i64 a0_2, .int .i64 a0_3, .int .i64 a0_4]] rfl atgM_ ?_; (with_reducible refine (spec_EmitSize.calls a0_0 a0_1 a0_2 a0_3 a0_4 t363 _ A5.out).mono ?_); rintro e w106 ⟨rfl, hb⟩; refine ⟨_, rfl, ?_⟩; refine swap2_ (blk_below (g := gb362) (o := .cells #[.int .i64 a0_0, .int .i64 a0_1, .int .i64 a0_2, .int .i64 a0_3, .int .i64 a0_4] 37 (0, 0)) att11_0_1 hb) (below_step att11_0_0 hb) ?_; clear BK362 HB; intro BK362 HB; (try clear hb); (try clear hb2); (try clear hk); (try clear hi)))
          have n0_ := Aside0.mk (blk_drew BK362.out)
          have n1_ := Aside0.mk (below_drew1 HB.out)
          clear BK362
          clear HB
          have BK362 := n0_
          have HB := n1_
          clear n0_ n1_
          refine start_ (n := 20) (S := fun w' => w'.cell? ⟨gb362, 0, none⟩ = some (.int .i64 a0_0) ∧ w'.cell? ⟨gb362, 1, none⟩ = some (.int .i64 a0_1) ∧ w'.cell? ⟨gb362, 2, none⟩ = some (.int .i64 a0_2) ∧ w'.cell? ⟨gb362, 3, none⟩ = some (.int .i64 a0_3) ∧ w'.cell? ⟨gb362, 4, none⟩ = some (.int .i64 a0_4)) (ds := []) (tf_ 0 20) (by kernel_rfl) rfl rfl ⟨(blk_cell BK362.out 0).trans rfl, (blk_cell BK362.out 1).trans rfl, (blk_cell BK362.out 2).trans rfl, (blk_cell BK362.out 3).trans rfl, (blk_cell BK362.out 4).trans rfl⟩ (fun hHeld => ?_); refine with_tabW spec_l10Take.tab2 spec_l10Take.bits2 (fun HT_ HW_ => ?_)
          generalize w106.drew = w107 at BK362 HB hHeld ⊢
          refine pureQ_ (i := 0) (N := some 15) (tf_ 1 19) (h := ?_)
          refine pureQ_ (i := 1) (N := some 16) (tf_ 2 18) (h := ?_)
          refine pureQ_ (i := 3) (N := some 18) #[true, true, false, true, false, false, false, false, false, false, false, false, false, false, false, false, false, false, false, false] (h := ?_)
          refine pureQ_ (i := 4) (N := some 19) #[true, true, false, true, true, false, false, false, false, false, false, false, false, false, false, false, false, false, false, false] (h := ?_)
          refine pureQ_ (i := 6) (N := some 21) #[true, true, false, true, true, false, true, false, false, false, false, false, false, false, false, false, false, false, false, false] (h := ?_)
          refine pureQ_ (i := 7) (N := some 22) #[true, true, false, true, true, false, true, true, false, false, false, false, false, false, false, false, false, false, false, false] (h := ?_)
          refine pureQ_ (i := 9) (N := some 24) #[true, true, false, true, true, false, true, true, false, true, false, false, false, false, false, false, false, false, false, false] (h := ?_)
          refine pureQ_ (i := 10) (N := some 25) #[true, true, false, true, true, false, true, true, false, true, true, false, false, false, false, false, false, false, false, false] (h := ?_)
          refine pureQ_ (i := 12) (N := some 27) #[true, true, false, true, true, false, true, true, false, true, true, false, true, false, false, false, false, false, false, false] (h := ?_)
          refine pureQ_ (i := 14) (N := some 29) #[true, true, false, true, true, false, true, true, false, true, true, false, true, false, true, false, false, false, false, false] (h := ?_)
          refine pureQ_ (i := 15) (N := some 30) #[true, true, false, true, true, false, true, true, false, true, true, false, true, false, true, true, false, false, false, false] (h := ?_)
          refine takeQ_ (i := 13) (N := some 28) #[true, true, false, true, true, false, true, true, false, true, true, false, true, true, true, true, false, false, false, false] hHeld (hy := Or.inl ⟨by rfl, att11_0_17⟩) (h := ?_)
          refine pureQ_ (i := 16) (N := some 31) #[true, true, false, true, true, false, true, true, false, true, true, false, true, true, true, true, true, false, false, false] (h := ?_)
          refine one_ (i := 2) (N := some 17) #[true, true, true, true, true, false, true, true, false, true, true, false, true, true, true, true, true, false, false, false] rfl rfl (one_of HT_.out (by kernel_rfl)) (by decide) (fun K hK => ?_)
          refine goes_ Try.func175 (by kernel_rfl) rfl #[.int .i64 a1, .int .i64 a3] (by rfl) rfl rfl atgM_ ?_
          with_reducible refine (spec_l10Lock.calls a1 a3 t364 _ A6.out).mono ?_
          rintro e w108 ⟨v365, rfl, ho0, hb⟩
          refine ⟨_, rfl, ?_⟩
          have n0_ := Aside0.mk (Kd.R_lower ho0 (below_size att11_0_0))
          have n1_ := Aside0.mk (blk_below (g := gb362) (o := .cells #[.int .i64 a0_0, .int .i64 a0_1, .int .i64 a0_2, .int .i64 a0_3, .int .i64 a0_4] 37 (0, 0)) att11_0_1 hb)
          have n2_ := Aside0.mk (below_step att11_0_0 hb)
          clear BK362
          clear HB
          have HO366 := n0_
          have BK362 := n1_
          have HB := n2_
          clear n0_ n1_ n2_
          (try clear hb)
          (try clear hb2)
          (try clear hk)
          (try clear hi)
          (try clear ho0)
          refine hK.out _ _ ⟨(blk_cell BK362.out 0).trans rfl, (blk_cell BK362.out 1).trans rfl, (blk_cell BK362.out 2).trans rfl, (blk_cell BK362.out 3).trans rfl, (blk_cell BK362.out 4).trans rfl⟩ (fun hHeld => ?_)
          clear hK K
          refine normS_ (N := some 17) (h := ?_)
          refine one_ (i := 5) (N := some 20) #[true, true, true, true, true, true, true, true, false, true, true, false, true, true, true, true, true, false, false, false] rfl rfl (one_of HT_.out (by kernel_rfl)) (by decide) (fun K hK => ?_)
          refine goes_ Try.func177 (by kernel_rfl) rfl #[.int .i64 5, .int .i64 (wrap64 (a1 + 2))] (by rfl) rfl rfl atgM_ ?_
          with_reducible refine (spec_l10Load.calls 5 (wrap64 (a1 + 2)) t367 t368 t369 t370 t371 _ A7.out).mono ?_
          rintro e w109 ⟨rfl, hb⟩
          refine ⟨_, rfl, ?_⟩
          have n0_ := Aside0.mk (Kd.R_below att11_0_13 hb)
          have n1_ := Aside0.mk (blk_below (g := gb362) (o := .cells #[.int .i64 a0_0, .int .i64 a0_1, .int .i64 a0_2, .int .i64 a0_3, .int .i64 a0_4] 37 (0, 0)) att11_0_1 hb)
          have n2_ := Aside0.mk (below_step att11_0_0 hb)
          clear HO366
          clear BK362
          clear HB
          have HO366 := n0_
          have BK362 := n1_
          have HB := n2_
          clear n0_ n1_ n2_
          (try clear hb)
          (try clear hb2)
          (try clear hk)
          (try clear hi)
          refine hK.out _ _ ⟨(blk_cell BK362.out 0).trans rfl, (blk_cell BK362.out 1).trans rfl, (blk_cell BK362.out 2).trans rfl, (blk_cell BK362.out 3).trans rfl, (blk_cell BK362.out 4).trans rfl⟩ (fun hHeld => ?_)
          clear hK K
          refine normS_ (N := some 20) (h := ?_)
          refine one_ (i := 8) (N := some 23) #[true, true, true, true, true, true, true, true, true, true, true, false, true, true, true, true, true, false, false, false] rfl rfl (one_of HT_.out (by kernel_rfl)) (by decide) (fun K hK => ?_)
          refine goes_ Try.func110 (by kernel_rfl) rfl #[.int .i64 5, .int .i64 (wrap64 (a3 + 22))] (by rfl) rfl rfl atgM_ ?_
          with_reducible refine (spec_l10Zero.calls 5 (wrap64 (a3 + 22)) t372 t373 t374 t375 t376 _ A8.out).mono ?_
          rintro e w110 ⟨rfl, hb⟩
          refine ⟨_, rfl, ?_⟩
          have n0_ := Aside0.mk (Kd.R_below att11_0_13 hb)
          have n1_ := Aside0.mk (blk_below (g := gb362) (o := .cells #[.int .i64 a0_0, .int .i64 a0_1, .int .i64 a0_2, .int .i64 a0_3, .int .i64 a0_4] 37 (0, 0)) att11_0_1 hb)
          have n2_ := Aside0.mk (below_step att11_0_0 hb)
          clear HO366
          clear BK362
          clear HB
          have HO366 := n0_
          have BK362 := n1_
          have HB := n2_
          clear n0_ n1_ n2_
          (try clear hb)
          (try clear hb2)
          (try clear hk)
          (try clear hi)
          refine hK.out _ _ ⟨(blk_cell BK362.out 0).trans rfl, (blk_cell BK362.out 1).trans rfl, (blk_cell BK362.out 2).trans rfl, (blk_cell BK362.out 3).trans rfl, (blk_cell BK362.out 4).trans rfl⟩ (fun hHeld => ?_)
          clear hK K
          refine normS_ (N := some 23) (h := ?_)
          refine one_ (i := 11) (N := some 26) (tf_ 17 3) rfl rfl (one_of HT_.out (by kernel_rfl)) (by decide) (fun K hK => ?_)
          refine goes_ Try.func177 (by kernel_rfl) rfl #[.int .i64 4, .int .i64 (wrap64 (a1 + 1))] (by rfl) rfl rfl atgM_ ?_
          with_reducible refine (spec_l10Load.calls 4 (wrap64 (a1 + 1)) t377 t378 t379 t380 t381 _ A9.out).mono ?_
          rintro e w111 ⟨rfl, hb⟩
          refine ⟨_, rfl, ?_⟩
          have n0_ := Aside0.mk (Kd.R_below att11_0_13 hb)
          have n1_ := Aside0.mk (blk_below (g := gb362) (o := .cells #[.int .i64 a0_0, .int .i64 a0_1, .int .i64 a0_2, .int .i64 a0_3, .int .i64 a0_4] 37 (0, 0)) att11_0_1 hb)
          have n2_ := Aside0.mk (below_step att11_0_0 hb)
          clear HO366
          clear BK362
          clear HB
          have HO366 := n0_
          have BK362 := n1_
          have HB := n2_
          clear n0_ n1_ n2_
          (try clear hb)
          (try clear hb2)
          (try clear hk)
          (try clear hi)
          refine hK.out _ _ ⟨(blk_cell BK362.out 0).trans rfl, (blk_cell BK362.out 1).trans rfl, (blk_cell BK362.out 2).trans rfl, (blk_cell BK362.out 3).trans rfl, (blk_cell BK362.out 4).trans rfl⟩ (fun hHeld => ?_)
          clear hK K
          refine normS_ (N := some 26) (h := ?_)
          refine one_ (i := 17) (N := some 32) (tf_ 18 2) rfl rfl (one_of HT_.out (by kernel_rfl)) (by decide) (fun K hK => ?_)
          refine Kd.R_lit_step k46 _ 46 ?hg (N := 32) ?hd (xs := ([(⟨t367, t368, t369, t370, t371⟩ : S46), (⟨t372, t373, t374, t375, t376⟩ : S46), (⟨t377, t378, t379, t380, t381⟩ : S46), (⟨5, a0_1, 4, 0, wrap64 (a1 + 4)⟩ : S46)] : List (S46))) (inner := [.int .i64 t367, .int .i64 t368, .int .i64 t369, .int .i64 t370, .int .i64 t371, .int .i64 t372, .int .i64 t373, .int .i64 t374, .int .i64 t375, .int .i64 t376, .int .i64 t377, .int .i64 t378, .int .i64 t379, .int .i64 t380, .int .i64 t381, .int .i64 5, .int .i64 a0_1, .int .i64 4, .int .i64 0, .int .i64 (wrap64 (a1 + 4))]) (ok := fun _ => True) (okp := fun _ => True) ?hr ?hp (fun _ hk => hk) trivial (Below.refl _ _) (Nat.le_refl _) (by simp) ?_; (case hd => rfl); (case hg => rfl); (case hr => first | (go_simp; done) | (go_simp; rfl)); (case hp => exact (Reps.c5 (show Kd.M k46 _ _ _ (⟨t367, t368, t369, t370, t371⟩ : S46) [.int .i64 t367, .int .i64 t368, .int .i64 t369, .int .i64 t370, .int .i64 t371] from (k46_mkM _ _ _ (⟨t367, t368, t369, t370, t371⟩ : S46) )) (Reps.c5 (show Kd.M k46 _ _ _ (⟨t372, t373, t374, t375, t376⟩ : S46) [.int .i64 t372, .int .i64 t373, .int .i64 t374, .int .i64 t375, .int .i64 t376] from (k46_mkM _ _ _ (⟨t372, t373, t374, t375, t376⟩ : S46) )) (Reps.c5 (show Kd.M k46 _ _ _ (⟨t377, t378, t379, t380, t381⟩ : S46) [.int .i64 t377, .int .i64 t378, .int .i64 t379, .int .i64 t380, .int .i64 t381] from (k46_mkM _ _ _ (⟨t377, t378, t379, t380, t381⟩ : S46) )) (Reps.c5 (show Kd.M k46 _ _ _ (⟨5, a0_1, 4, 0, wrap64 (a1 + 4)⟩ : S46) [.int .i64 5, .int .i64 a0_1, .int .i64 4, .int .i64 0, .int .i64 (wrap64 (a1 + 4))] from (k46_mkM _ _ _ (⟨5, a0_1, 4, 0, wrap64 (a1 + 4)⟩ : S46) )) (Reps.none _ _))))))
          intro v383 w112 ho113 hb hg_ hnew_
          clear hg_ hnew_
          (first | rw [← Ny382.out] at ho113 | (simp only [Int.reduceToNat] at ho113; rw [← Ny382.out] at ho113))
          have n0_ := Aside0.mk (Kd.R_elder' att11_0_13 (Kd.R_base ho113) hb)
          have n1_ := Aside0.mk (Kd.R_lower (Kd.R_new' ho113 (Kd.R_lt att11_0_13)) (below_size att11_0_0))
          have n2_ := Aside0.mk (blk_below (g := gb362) (o := .cells #[.int .i64 a0_0, .int .i64 a0_1, .int .i64 a0_2, .int .i64 a0_3, .int .i64 a0_4] 37 (0, 0)) att11_0_1 hb)
          have n3_ := Aside0.mk (below_step att11_0_0 hb)
          clear HO366
          clear BK362
          clear HB
          have HO366 := n0_
          have HO384 := n1_
          have BK362 := n2_
          have HB := n3_
          clear n0_ n1_ n2_ n3_
          clear hb ho113
          obtain ⟨Ao115, co115, eo115⟩ := Kd.R_slice HO384.out
          (first | subst eo115 | (injection eo115 with f1_ f2_ f3_; have f4_ := f1_.symm; have f5_ := f3_.symm; clear f1_ f2_ f3_; subst f4_; subst f5_))
          refine hK.out _ _ ⟨(blk_cell BK362.out 0).trans rfl, (blk_cell BK362.out 1).trans rfl, (blk_cell BK362.out 2).trans rfl, (blk_cell BK362.out 3).trans rfl, (blk_cell BK362.out 4).trans rfl⟩ (fun hHeld => ?_)
          clear hK K
          refine normS_ (N := some 32) (h := ?_)
          refine one_ (i := 18) (N := some 33) (tf_ 19 1) rfl rfl (one_of HT_.out (by kernel_rfl)) (by decide) (fun K hK => ?_)
          refine Kd.R_append_rows_step k46 (w0 := w) w.heap.size (by rfl) (.tmp 17) (.tmp 32) 40 46 (.agg #[(.int .i64 0), (.int .i64 0), (.int .i64 0), (.int .i64 0), (.int .i64 0)]) 40 rfl Try.underlying40 info46 rfl (by decide) (by omega) v365 t364 y382 _ _ _ (fun k_ => some k_ ≠ (.slice Ao115 y382.length co115 : Value).ownBlock) (fun _ => False) rfl rfl ?aO ?aR (fun _ _ h => h) (fun _ h => h.elim) ?aF ?aB ?aS ?aL ?_
          (case aR => repeat (first | exact (Kd.R_reads' HO384.out).2.2 | (with_reducible refine Kd.C_alloc ?_ _) | (with_reducible refine Kd.C_drewN ?_ _) | (with_reducible refine Kd.C_drew ?_)))
          (case aB => exact att11_0_0)
          (case aF => exact (fun k_ hk => Kd.fresh' (Kd.R_lt att11_0_2) k_ hk))
          (case aO => exact att11_0_60)
          (case aS => exact (below_size att11_0_0))
          (case aL => have := LMc10.out; omega)
          intro v386 w114 ho hb hg hat
          rw [← Ny385.out] at ho
          have n0_ := Aside0.mk (blk_grown (g := gb362) (o := .cells #[.int .i64 a0_0, .int .i64 a0_1, .int .i64 a0_2, .int .i64 a0_3, .int .i64 a0_4] 37 (0, 0)) att11_0_1 hg (Kd.R_ne HO366.out BK362.out (by decide)))
          have n1_ := Aside0.mk (Kd.R_after (ok := (fun _ => True)) att11_0_2 hg hat)
          have n2_ := Aside0.mk (hb)
          have n3_ := Aside0.mk (ho)
          clear BK362
          clear HO384
          clear HB
          clear HO366
          have BK362 := n0_
          have HO384 := n1_
          have HB := n2_
          have HO387 := n3_
          clear n0_ n1_ n2_ n3_
          clear ho hb hg hat
          refine hK.out _ _ ⟨(blk_cell BK362.out 0).trans rfl, (blk_cell BK362.out 1).trans rfl, (blk_cell BK362.out 2).trans rfl, (blk_cell BK362.out 3).trans rfl, (blk_cell BK362.out 4).trans rfl⟩ (fun hHeld => ?_)
          clear hK K
          refine normS_ (N := some 33) (h := ?_)
          refine pureQ_ (i := 19) (N := some 10) (tf_ 20 0) (h := ?_)
          refine done_ (done_of HT_.out (by kernel_rfl)) ?_
          try go_wp2_with (first | ((with_reducible refine gate_callee (f := 107) rfl ?_); refine goesL_ (some 35) rfl rfl Try.func107 (by kernel_rfl) rfl #[.int .i64 7, .int .i64 1] rfl atgM_ ?_; (with_reducible refine (spec_l10Set.calls 7 1 t388 t389 t390 t391 t392 _ A11.out).mono ?_); rintro e w116 ⟨rfl, hb⟩; refine ⟨_, rfl, ?_⟩; refine swap4_ (Kd.R_below att11_0_2 hb) (Kd.R_below att11_0_9 hb) (blk_below (g := gb362) (o := .cells #[.int .i64 a0_0, .int .i64 a0_1, .int .i64 a0_2, .int .i64 a0_3, .int .i64 a0_4] 37 (0, 0)) att11_0_1 hb) (below_step att11_0_0 hb) ?_; clear HO384 HO387 BK362 HB; intro HO384 HO387 BK362 HB; (try clear hb); (try clear hb2); (try clear hk); (try clear hi)) | ((with_reducible refine gate_callee (f := 108) rfl ?_); refine goesL_ (some 36) rfl rfl Try.func108 (by kernel_rfl) rfl #[.int .i64 2, .int .i64 4, .int .i64 4, .int .i64 7] rfl atgM_ ?_; (with_reducible refine (spec_l10Three.calls 2 4 4 7 t393 t394 t395 t396 t397 _ A12.out).mono ?_); rintro e w117 ⟨rfl, hb⟩; refine ⟨_, rfl, ?_⟩; refine swap4_ (Kd.R_below att11_0_2 hb) (Kd.R_below att11_0_9 hb) (blk_below (g := gb362) (o := .cells #[.int .i64 a0_0, .int .i64 a0_1, .int .i64 a0_2, .int .i64 a0_3, .int .i64 a0_4] 37 (0, 0)) att11_0_1 hb) (below_step att11_0_0 hb) ?_; clear HO384 HO387 BK362 HB; intro HO384 HO387 BK362 HB; (try clear hb); (try clear hb2); (try clear hk); (try clear hi)) | ((with_reducible refine gate_callee (f := 108) rfl ?_); refine goesL_ (some 37) rfl rfl Try.func108 (by kernel_rfl) rfl #[.int .i64 3, .int .i64 5, .int .i64 5, .int .i64 7] rfl atgM_ ?_; (with_reducible refine (spec_l10Three.calls 3 5 5 7 t398 t399 t400 t401 t402 _ A13.out).mono ?_); rintro e w118 ⟨rfl, hb⟩; refine ⟨_, rfl, ?_⟩; refine swap4_ (Kd.R_below att11_0_2 hb) (Kd.R_below att11_0_9 hb) (blk_below (g := gb362) (o := .cells #[.int .i64 a0_0, .int .i64 a0_1, .int .i64 a0_2, .int .i64 a0_3, .int .i64 a0_4] 37 (0, 0)) att11_0_1 hb) (below_step att11_0_0 hb) ?_; clear HO384 HO387 BK362 HB; intro HO384 HO387 BK362 HB; (try clear hb); (try clear hb2); (try clear hk); (try clear hi)) | ((with_reducible refine gate_callee (f := 107) rfl ?_); refine goesL_ (some 39) rfl rfl Try.func107 (by kernel_rfl) rfl #[.int .i64 7, .int .i64 a2] rfl atgM_ ?_; (with_reducible refine (spec_l10Set.calls 7 a2 t403 t404 t405 t406 t407 _ A14.out).mono ?_); rintro e w119 ⟨rfl, hb⟩; refine ⟨_, rfl, ?_⟩; refine swap4_ (Kd.R_below att11_0_2 hb) (Kd.R_below att11_0_9 hb) (blk_below (g := gb362) (o := .cells #[.int .i64 a0_0, .int .i64 a0_1, .int .i64 a0_2, .int .i64 a0_3, .int .i64 a0_4] 37 (0, 0)) att11_0_1 hb) (below_step att11_0_0 hb) ?_; clear HO384 HO387 BK362 HB; intro HO384 HO387 BK362 HB; (try clear hb); (try clear hb2); (try clear hk); (try clear hi)) | ((with_reducible refine gate_callee (f := 108) rfl ?_); refine goesL_ (some 40) rfl rfl Try.func108 (by kernel_rfl) rfl #[.int .i64 4, .int .i64 6, .int .i64 4, .int .i64 7] rfl atgM_ ?_; (with_reducible refine (spec_l10Three.calls 4 6 4 7 t408 t409 t410 t411 t412 _ A15.out).mono ?_); rintro e w120 ⟨rfl, hb⟩; refine ⟨_, rfl, ?_⟩; refine swap4_ (Kd.R_below att11_0_2 hb) (Kd.R_below att11_0_9 hb) (blk_below (g := gb362) (o := .cells #[.int .i64 a0_0, .int .i64 a0_1, .int .i64 a0_2, .int .i64 a0_3, .int .i64 a0_4] 37 (0, 0)) att11_0_1 hb) (below_step att11_0_0 hb) ?_; clear HO384 HO387 BK362 HB; intro HO384 HO387 BK362 HB; (try clear hb); (try clear hb2); (try clear hk); (try clear hi)) | ((with_reducible refine gate_callee (f := 110) rfl ?_); refine goesL_ (some 43) rfl rfl Try.func110 (by kernel_rfl) rfl #[.int .i64 6, .int .i64 (wrap64 (a3 + 15))] rfl atgM_ ?_; (with_reducible refine (spec_l10Zero.calls 6 (wrap64 (a3 + 15)) t413 t414 t415 t416 t417 _ A16.out).mono ?_); rintro e w121 ⟨rfl, hb⟩; refine ⟨_, rfl, ?_⟩; refine swap4_ (Kd.R_below att11_0_2 hb) (Kd.R_below att11_0_9 hb) (blk_below (g := gb362) (o := .cells #[.int .i64 a0_0, .int .i64 a0_1, .int .i64 a0_2, .int .i64 a0_3, .int .i64 a0_4] 37 (0, 0)) att11_0_1 hb) (below_step att11_0_0 hb) ?_; clear HO384 HO387 BK362 HB; intro HO384 HO387 BK362 HB; (try clear hb); (try clear hb2); (try clear hk); (try clear hi)) | ((with_reducible refine gate_callee (f := 109) rfl ?_); refine goesL_ (some 46) rfl rfl Try.func109 (by kernel_rfl) rfl #[.int .i64 (wrap64 (a3 + 16))] rfl atgM_ ?_; (with_reducible refine (spec_l10Jump.calls (wrap64 (a3 + 16)) t418 t419 t420 t421 t422 _ A17.out).mono ?_); rintro e w122 ⟨rfl, hb⟩; refine ⟨_, rfl, ?_⟩; refine swap4_ (Kd.R_below att11_0_2 hb) (Kd.R_below att11_0_9 hb) (blk_below (g := gb362) (o := .cells #[.int .i64 a0_0, .int .i64 a0_1, .int .i64 a0_2, .int .i64 a0_3, .int .i64 a0_4] 37 (0, 0)) att11_0_1 hb) (below_step att11_0_0 hb) ?_; clear HO384 HO387 BK362 HB; intro HO384 HO387 BK362 HB; (try clear hb); (try clear hb2); (try clear hk); (try clear hi)) | ((with_reducible refine gate_callee (f := 107) rfl ?_); refine goesL_ (some 47) rfl rfl Try.func107 (by kernel_rfl) rfl #[.int .i64 4, .int .i64 0] rfl atgM_ ?_; (with_reducible refine (spec_l10Set.calls 4 0 t423 t424 t425 t426 t427 _ A18.out).mono ?_); rintro e w123 ⟨rfl, hb⟩; refine ⟨_, rfl, ?_⟩; refine swap4_ (Kd.R_below att11_0_2 hb) (Kd.R_below att11_0_9 hb) (blk_below (g := gb362) (o := .cells #[.int .i64 a0_0, .int .i64 a0_1, .int .i64 a0_2, .int .i64 a0_3, .int .i64 a0_4] 37 (0, 0)) att11_0_1 hb) (below_step att11_0_0 hb) ?_; clear HO384 HO387 BK362 HB; intro HO384 HO387 BK362 HB; (try clear hb); (try clear hb2); (try clear hk); (try clear hi)) | ((with_reducible refine gate_dst (N := 48) rfl ?_); refine Kd.R_lit k46 _ 46 ?hg (N := 48) ?hd (xs := ([(⟨t388, t389, t390, t391, t392⟩ : S46), (⟨t393, t394, t395, t396, t397⟩ : S46), (⟨t398, t399, t400, t401, t402⟩ : S46), (⟨t403, t404, t405, t406, t407⟩ : S46), (⟨t408, t409, t410, t411, t412⟩ : S46), (⟨t413, t414, t415, t416, t417⟩ : S46), (⟨t418, t419, t420, t421, t422⟩ : S46), (⟨t423, t424, t425, t426, t427⟩ : S46)] : List (S46))) (inner := [.int .i64 t388, .int .i64 t389, .int .i64 t390, .int .i64 t391, .int .i64 t392, .int .i64 t393, .int .i64 t394, .int .i64 t395, .int .i64 t396, .int .i64 t397, .int .i64 t398, .int .i64 t399, .int .i64 t400, .int .i64 t401, .int .i64 t402, .int .i64 t403, .int .i64 t404, .int .i64 t405, .int .i64 t406, .int .i64 t407, .int .i64 t408, .int .i64 t409, .int .i64 t410, .int .i64 t411, .int .i64 t412, .int .i64 t413, .int .i64 t414, .int .i64 t415, .int .i64 t416, .int .i64 t417, .int .i64 t418, .int .i64 t419, .int .i64 t420, .int .i64 t421, .int .i64 t422, .int .i64 t423, .int .i64 t424, .int .i64 t425, .int .i64 t426, .int .i64 t427]) (ok := fun _ => True) (okp := fun _ => True) ?hr ?hp (fun _ hk => hk) trivial (Below.refl _ _) (Nat.le_refl _) (by simp) ?_; (case hd => rfl); (case hg => rfl); (case hr => first | (go_simp; done) | (go_simp; rfl)); (case hp => exact (Reps.c5 (show Kd.M k46 _ _ _ (⟨t388, t389, t390, t391, t392⟩ : S46) [.int .i64 t388, .int .i64 t389, .int .i64 t390, .int .i64 t391, .int .i64 t392] from (k46_mkM _ _ _ (⟨t388, t389, t390, t391, t392⟩ : S46) )) (Reps.c5 (show Kd.M k46 _ _ _ (⟨t393, t394, t395, t396, t397⟩ : S46) [.int .i64 t393, .int .i64 t394, .int .i64 t395, .int .i64 t396, .int .i64 t397] from (k46_mkM _ _ _ (⟨t393, t394, t395, t396, t397⟩ : S46) )) (Reps.c5 (show Kd.M k46 _ _ _ (⟨t398, t399, t400, t401, t402⟩ : S46) [.int .i64 t398, .int .i64 t399, .int .i64 t400, .int .i64 t401, .int .i64 t402] from (k46_mkM _ _ _ (⟨t398, t399, t400, t401, t402⟩ : S46) )) (Reps.c5 (show Kd.M k46 _ _ _ (⟨t403, t404, t405, t406, t407⟩ : S46) [.int .i64 t403, .int .i64 t404, .int .i64 t405, .int .i64 t406, .int .i64 t407] from (k46_mkM _ _ _ (⟨t403, t404, t405, t406, t407⟩ : S46) )) (Reps.c5 (show Kd.M k46 _ _ _ (⟨t408, t409, t410, t411, t412⟩ : S46) [.int .i64 t408, .int .i64 t409, .int .i64 t410, .int .i64 t411, .int .i64 t412] from (k46_mkM _ _ _ (⟨t408, t409, t410, t411, t412⟩ : S46) )) (Reps.c5 (show Kd.M k46 _ _ _ (⟨t413, t414, t415, t416, t417⟩ : S46) [.int .i64 t413, .int .i64 t414, .int .i64 t415, .int .i64 t416, .int .i64 t417] from (k46_mkM _ _ _ (⟨t413, t414, t415, t416, t417⟩ : S46) )) (Reps.c5 (show Kd.M k46 _ _ _ (⟨t418, t419, t420, t421, t422⟩ : S46) [.int .i64 t418, .int .i64 t419, .int .i64 t420, .int .i64 t421, .int .i64 t422] from (k46_mkM _ _ _ (⟨t418, t419, t420, t421, t422⟩ : S46) )) (Reps.c5 (show Kd.M k46 _ _ _ (⟨t423, t424, t425, t426, t427⟩ : S46) [.int .i64 t423, .int .i64 t424, .int .i64 t425, .int .i64 t426, .int .i64 t427] from (k46_mkM _ _ _ (⟨t423, t424, t425, t426, t427⟩ : S46) )) (Reps.none _ _)))))))))); intro v429 w124 ho125 hb hg_ hnew_; clear hg_ hnew_; (first | rw [← Ny428.out] at ho125 | (simp only [Int.reduceToNat] at ho125; rw [← Ny428.out] at ho125)); refine swap5_ (Kd.R_elder' att11_0_2 (Kd.R_base ho125) hb) (Kd.R_elder' att11_0_9 (Kd.R_base ho125) hb) (Kd.R_lower (Kd.R_new' (Kd.R_new' ho125 (Kd.R_lt att11_0_2)) (Kd.R_lt att11_0_9)) (below_size att11_0_0)) (blk_below (g := gb362) (o := .cells #[.int .i64 a0_0, .int .i64 a0_1, .int .i64 a0_2, .int .i64 a0_3, .int .i64 a0_4] 37 (0, 0)) att11_0_1 hb) (below_step att11_0_0 hb) ?_; clear HO384 HO387 BK362 HB; intro HO384 HO387 HO430 BK362 HB; clear hb ho125; obtain ⟨Ao127, co127, eo127⟩ := Kd.R_slice HO430.out; subst eo127) | ((with_reducible refine gate_builtin (b := .append) (xs := #[.tmp 34, .tmp 48]) rfl ?_); at_builtin; refine Kd.R_append_rows k46 (w0 := w) w.heap.size rfl (.tmp 34) (.tmp 48) 40 46 (.agg #[(.int .i64 0), (.int .i64 0), (.int .i64 0), (.int .i64 0), (.int .i64 0)]) 40 rfl Try.underlying40 info46 rfl (by decide) (by omega) v386 y385 y428 _ _ _ (fun k_ => some k_ ≠ (.slice Ao115 y382.length co115 : Value).ownBlock ∧ some k_ ≠ (.slice Ao127 y428.length co127 : Value).ownBlock) (fun _ => False) rfl rfl ?aO ?aR (fun _ _ h => h) (fun _ h => h.elim) ?aF ?aB ?aS ?aL ?_; (case aR => repeat (first | exact (Kd.R_reads' HO430.out).2.2 | (with_reducible refine Kd.C_alloc ?_ _) | (with_reducible refine Kd.C_drewN ?_ _) | (with_reducible refine Kd.C_drew ?_))); (case aB => exact att11_0_0); (case aF => exact (fun k_ hk => ⟨Kd.fresh' (Kd.R_lt att11_0_2) k_ hk, Kd.fresh' (Kd.R_lt att11_0_4) k_ hk⟩)); (case aO => exact att11_0_9); (case aS => exact (below_size att11_0_0)); (case aL => have := LMc19.out; omega); intro v432 w126 ho hb hg hat; rw [← Ny431.out] at ho; refine swap5_ (blk_grown (g := gb362) (o := .cells #[.int .i64 a0_0, .int .i64 a0_1, .int .i64 a0_2, .int .i64 a0_3, .int .i64 a0_4] 37 (0, 0)) att11_0_1 hg (Kd.R_ne HO387.out BK362.out (by decide))) (Kd.R_after (ok := (fun k_ => some k_ ≠ (.slice Ao127 y428.length co127 : Value).ownBlock)) att11_0_59 hg hat) (Kd.R_after (ok := (fun k_ => some k_ ≠ (.slice Ao115 y382.length co115 : Value).ownBlock)) att11_0_58 hg hat) (hb) (ho) ?_; clear BK362 HO384 HO430 HB HO387; intro BK362 HO384 HO430 HB HO433; clear ho hb hg hat) | ((with_reducible refine gate_callee (f := 178) rfl ?_); refine goesL_ (some 53) rfl rfl Try.func178 (by kernel_rfl) rfl #[.int .i64 (wrap64 (a1 + 1)), .int .i64 4] rfl atgM_ ?_; (with_reducible refine (spec_l10Store.calls (wrap64 (a1 + 1)) 4 t434 t435 t436 t437 t438 _ A20.out).mono ?_); rintro e w128 ⟨rfl, hb⟩; refine ⟨_, rfl, ?_⟩; refine swap5_ (Kd.R_below att11_0_2 hb) (Kd.R_below att11_0_4 hb) (Kd.R_below att11_0_15 hb) (blk_below (g := gb362) (o := .cells #[.int .i64 a0_0, .int .i64 a0_1, .int .i64 a0_2, .int .i64 a0_3, .int .i64 a0_4] 37 (0, 0)) att11_0_1 hb) (below_step att11_0_0 hb) ?_; clear HO384 HO430 HO433 BK362 HB; intro HO384 HO430 HO433 BK362 HB; (try clear hb); (try clear hb2); (try clear hk); (try clear hi)) | ((with_reducible refine gate_callee (f := 178) rfl ?_); refine goesL_ (some 56) rfl rfl Try.func178 (by kernel_rfl) rfl #[.int .i64 (wrap64 (a1 + 2)), .int .i64 5] rfl atgM_ ?_; (with_reducible refine (spec_l10Store.calls (wrap64 (a1 + 2)) 5 t439 t440 t441 t442 t443 _ A21.out).mono ?_); rintro e w129 ⟨rfl, hb⟩; refine ⟨_, rfl, ?_⟩; refine swap5_ (Kd.R_below att11_0_2 hb) (Kd.R_below att11_0_4 hb) (Kd.R_below att11_0_15 hb) (blk_below (g := gb362) (o := .cells #[.int .i64 a0_0, .int .i64 a0_1, .int .i64 a0_2, .int .i64 a0_3, .int .i64 a0_4] 37 (0, 0)) att11_0_1 hb) (below_step att11_0_0 hb) ?_; clear HO384 HO430 HO433 BK362 HB; intro HO384 HO430 HO433 BK362 HB; (try clear hb); (try clear hb2); (try clear hk); (try clear hi)) | ((with_reducible refine gate_dst (N := 57) rfl ?_); refine Kd.R_lit k46 _ 46 ?hg (N := 57) ?hd (xs := ([(⟨t434, t435, t436, t437, t438⟩ : S46), (⟨t439, t440, t441, t442, t443⟩ : S46)] : List (S46))) (inner := [.int .i64 t434, .int .i64 t435, .int .i64 t436, .int .i64 t437, .int .i64 t438, .int .i64 t439, .int .i64 t440, .int .i64 t441, .int .i64 t442, .int .i64 t443]) (ok := fun _ => True) (okp := fun _ => True) ?hr ?hp (fun _ hk => hk) trivial (Below.refl _ _) (Nat.le_refl _) (by simp) ?_; (case hd => rfl); (case hg => rfl); (case hr => first | (go_simp; done) | (go_simp; rfl)); (case hp => exact (Reps.c5 (show Kd.M k46 _ _ _ (⟨t434, t435, t436, t437, t438⟩ : S46) [.int .i64 t434, .int .i64 t435, .int .i64 t436, .int .i64 t437, .int .i64 t438] from (k46_mkM _ _ _ (⟨t434, t435, t436, t437, t438⟩ : S46) )) (Reps.c5 (show Kd.M k46 _ _ _ (⟨t439, t440, t441, t442, t443⟩ : S46) [.int .i64 t439, .int .i64 t440, .int .i64 t441, .int .i64 t442, .int .i64 t443] from (k46_mkM _ _ _ (⟨t439, t440, t441, t442, t443⟩ : S46) )) (Reps.none _ _)))); intro v445 w130 ho131 hb hg_ hnew_; clear hg_ hnew_; (first | rw [← Ny444.out] at ho131 | (simp only [Int.reduceToNat] at ho131; rw [← Ny444.out] at ho131)); refine swap6_ (Kd.R_elder' att11_0_2 (Kd.R_base ho131) hb) (Kd.R_elder' att11_0_4 (Kd.R_base ho131) hb) (Kd.R_elder' att11_0_15 (Kd.R_base ho131) hb) (Kd.R_lower (Kd.R_new' (Kd.R_new' (Kd.R_new' ho131 (Kd.R_lt att11_0_2)) (Kd.R_lt att11_0_4)) (Kd.R_lt att11_0_15)) (below_size att11_0_0)) (blk_below (g := gb362) (o := .cells #[.int .i64 a0_0, .int .i64 a0_1, .int .i64 a0_2, .int .i64 a0_3, .int .i64 a0_4] 37 (0, 0)) att11_0_1 hb) (below_step att11_0_0 hb) ?_; clear HO384 HO430 HO433 BK362 HB; intro HO384 HO430 HO433 HO446 BK362 HB; clear hb ho131; obtain ⟨Ao133, co133, eo133⟩ := Kd.R_slice HO446.out; subst eo133) | ((with_reducible refine gate_builtin (b := .append) (xs := #[.tmp 50, .tmp 57]) rfl ?_); at_builtin; refine Kd.R_append_rows k46 (w0 := w) w.heap.size rfl (.tmp 50) (.tmp 57) 40 46 (.agg #[(.int .i64 0), (.int .i64 0), (.int .i64 0), (.int .i64 0), (.int .i64 0)]) 40 rfl Try.underlying40 info46 rfl (by decide) (by omega) v432 y431 y444 _ _ _ (fun k_ => some k_ ≠ (.slice Ao115 y382.length co115 : Value).ownBlock ∧ some k_ ≠ (.slice Ao127 y428.length co127 : Value).ownBlock ∧ some k_ ≠ (.slice Ao133 y444.length co133 : Value).ownBlock) (fun _ => False) rfl rfl ?aO ?aR (fun _ _ h => h) (fun _ h => h.elim) ?aF ?aB ?aS ?aL ?_; (case aR => repeat (first | exact (Kd.R_reads' HO446.out).2.2 | (with_reducible refine Kd.C_alloc ?_ _) | (with_reducible refine Kd.C_drewN ?_ _) | (with_reducible refine Kd.C_drew ?_))); (case aB => exact att11_0_0); (case aF => exact (fun k_ hk => ⟨Kd.fresh' (Kd.R_lt att11_0_2) k_ hk, Kd.fresh' (Kd.R_lt att11_0_4) k_ hk, Kd.fresh' (Kd.R_lt att11_0_5) k_ hk⟩)); (case aO => exact att11_0_55); (case aS => exact (below_size att11_0_0)); (case aL => have := LMc22.out; omega); intro v448 w132 ho hb hg hat; rw [← Ny447.out] at ho; refine swap6_ (blk_grown (g := gb362) (o := .cells #[.int .i64 a0_0, .int .i64 a0_1, .int .i64 a0_2, .int .i64 a0_3, .int .i64 a0_4] 37 (0, 0)) att11_0_1 hg (Kd.R_ne HO433.out BK362.out (by decide))) (Kd.R_after (ok := (fun k_ => some k_ ≠ (.slice Ao127 y428.length co127 : Value).ownBlock ∧ some k_ ≠ (.slice Ao133 y444.length co133 : Value).ownBlock)) att11_0_57 hg hat) (Kd.R_after (ok := (fun k_ => some k_ ≠ (.slice Ao115 y382.length co115 : Value).ownBlock ∧ some k_ ≠ (.slice Ao133 y444.length co133 : Value).ownBlock)) att11_0_56 hg hat) (Kd.R_after (ok := (fun k_ => some k_ ≠ (.slice Ao115 y382.length co115 : Value).ownBlock ∧ some k_ ≠ (.slice Ao127 y428.length co127 : Value).ownBlock)) att11_0_54 hg hat) (hb) (ho) ?_; clear BK362 HO384 HO430 HO446 HB HO433; intro BK362 HO384 HO430 HO446 HB HO449; clear ho hb hg hat) | ((with_reducible refine gate_callee (f := 179) rfl ?_); refine goesL_ (some 61) rfl rfl Try.func179 (by kernel_rfl) rfl #[.int .i64 a1] rfl atgM_ ?_; (with_reducible refine (spec_l10Let.calls a1 t450 _ A23.out).mono ?_); rintro e w134 ⟨v451, rfl, ho0, hb⟩; refine ⟨_, rfl, ?_⟩; refine swap7_ (Kd.R_elder' att11_0_2 (Kd.R_base ho0) hb) (Kd.R_elder' att11_0_4 (Kd.R_base ho0) hb) (Kd.R_elder' att11_0_5 (Kd.R_base ho0) hb) (Kd.R_elder' att11_0_19 (Kd.R_base ho0) hb) (Kd.R_lower (Kd.R_new' (Kd.R_new' (Kd.R_new' (Kd.R_new' ho0 (Kd.R_lt att11_0_2)) (Kd.R_lt att11_0_4)) (Kd.R_lt att11_0_5)) (Kd.R_lt att11_0_19)) (below_size att11_0_0)) (blk_below (g := gb362) (o := .cells #[.int .i64 a0_0, .int .i64 a0_1, .int .i64 a0_2, .int .i64 a0_3, .int .i64 a0_4] 37 (0, 0)) att11_0_1 hb) (below_step att11_0_0 hb) ?_; clear HO384 HO430 HO446 HO449 BK362 HB; intro HO384 HO430 HO446 HO449 HO452 BK362 HB; (try clear hb); (try clear hb2); (try clear hk); (try clear hi); (try clear ho0); obtain ⟨Ao136, co136, eo136⟩ := Kd.R_slice HO452.out; subst eo136) | ((with_reducible refine gate_builtin (b := .append) (xs := #[.tmp 59, .tmp 61]) rfl ?_); at_builtin; refine Kd.R_append_rows k46 (w0 := w) w.heap.size rfl (.tmp 59) (.tmp 61) 40 46 (.agg #[(.int .i64 0), (.int .i64 0), (.int .i64 0), (.int .i64 0), (.int .i64 0)]) 40 rfl Try.underlying40 info46 rfl (by decide) (by omega) v448 y447 t450 _ _ _ (fun k_ => some k_ ≠ (.slice Ao115 y382.length co115 : Value).ownBlock ∧ some k_ ≠ (.slice Ao127 y428.length co127 : Value).ownBlock ∧ some k_ ≠ (.slice Ao133 y444.length co133 : Value).ownBlock ∧ some k_ ≠ (.slice Ao136 t450.length co136 : Value).ownBlock) (fun _ => False) rfl rfl ?aO ?aR (fun _ _ h => h) (fun _ h => h.elim) ?aF ?aB ?aS ?aL ?_; (case aR => repeat (first | exact (Kd.R_reads' HO452.out).2.2 | (with_reducible refine Kd.C_alloc ?_ _) | (with_reducible refine Kd.C_drewN ?_ _) | (with_reducible refine Kd.C_drew ?_))); (case aB => exact att11_0_0); (case aF => exact (fun k_ hk => ⟨Kd.fresh' (Kd.R_lt att11_0_2) k_ hk, Kd.fresh' (Kd.R_lt att11_0_4) k_ hk, Kd.fresh' (Kd.R_lt att11_0_5) k_ hk, Kd.fresh' (Kd.R_lt att11_0_6) k_ hk⟩)); (case aO => exact att11_0_50); (case aS => exact (below_size att11_0_0)); (case aL => have := LMc24.out; omega); intro v454 w135 ho hb hg hat; rw [← Ny453.out] at ho; refine swap7_ (blk_grown (g := gb362) (o := .cells #[.int .i64 a0_0, .int .i64 a0_1, .int .i64 a0_2, .int .i64 a0_3, .int .i64 a0_4] 37 (0, 0)) att11_0_1 hg (Kd.R_ne HO449.out BK362.out (by decide))) (Kd.R_after (ok := (fun k_ => some k_ ≠ (.slice Ao127 y428.length co127 : Value).ownBlock ∧ some k_ ≠ (.slice Ao133 y444.length co133 : Value).ownBlock ∧ some k_ ≠ (.slice Ao136 t450.length co136 : Value).ownBlock)) att11_0_53 hg hat) (Kd.R_after (ok := (fun k_ => some k_ ≠ (.slice Ao115 y382.length co115 : Value).ownBlock ∧ some k_ ≠ (.slice Ao133 y444.length co133 : Value).ownBlock ∧ some k_ ≠ (.slice Ao136 t450.length co136 : Value).ownBlock)) att11_0_52 hg hat) (Kd.R_after (ok := (fun k_ => some k_ ≠ (.slice Ao115 y382.length co115 : Value).ownBlock ∧ some k_ ≠ (.slice Ao127 y428.length co127 : Value).ownBlock ∧ some k_ ≠ (.slice Ao136 t450.length co136 : Value).ownBlock)) att11_0_51 hg hat) (Kd.R_after (ok := (fun k_ => some k_ ≠ (.slice Ao115 y382.length co115 : Value).ownBlock ∧ some k_ ≠ (.slice Ao127 y428.length co127 : Value).ownBlock ∧ some k_ ≠ (.slice Ao133 y444.length co133 : Value).ownBlock)) att11_0_49 hg hat) (hb) (ho) ?_; clear BK362 HO384 HO430 HO446 HO452 HB HO449; intro BK362 HO384 HO430 HO446 HO452 HB HO455; clear ho hb hg hat; obtain ⟨hcz137_0, hcz137_1, hcz137_2, hcz137_3, hcz137_4, hfz137_0, hfz137_1, hfz137_2, hfz137_3, hfz137_4⟩ := blkB5_ BK362) | ((with_reducible refine gate_callee (f := 107) rfl ?_); refine goesL_ (some 66) rfl rfl Try.func107 (by kernel_rfl) rfl #[.int .i64 a0_3, .int .i64 1] rfl atgM_ ?_; (with_reducible refine (spec_l10Set.calls a0_3 1 t456 t457 t458 t459 t460 _ A25.out).mono ?_); rintro e w138 ⟨rfl, hb⟩; refine ⟨_, rfl, ?_⟩; refine swap7_ (Kd.R_below att11_0_2 hb) (Kd.R_below att11_0_4 hb) (Kd.R_below att11_0_5 hb) (Kd.R_below att11_0_6 hb) (Kd.R_below att11_0_12 hb) (blk_below (g := gb362) (o := .cells #[.int .i64 a0_0, .int .i64 a0_1, .int .i64 a0_2, .int .i64 a0_3, .int .i64 a0_4] 37 (0, 0)) att11_0_1 hb) (below_step att11_0_0 hb) ?_; clear HO384 HO430 HO446 HO452 HO455 BK362 HB; intro HO384 HO430 HO446 HO452 HO455 BK362 HB; (try clear hb); (try clear hb2); (try clear hk); (try clear hi)) | ((with_reducible refine gate_callee (f := 109) rfl ?_); refine goesL_ (some 68) rfl rfl Try.func109 (by kernel_rfl) rfl #[.int .i64 (wrap64 (a3 + t363))] rfl atgM_ ?_; (with_reducible refine (spec_l10Jump.calls (wrap64 (a3 + t363)) t461 t462 t463 t464 t465 _ A26.out).mono ?_); rintro e w139 ⟨rfl, hb⟩; refine ⟨_, rfl, ?_⟩; refine swap7_ (Kd.R_below att11_0_2 hb) (Kd.R_below att11_0_4 hb) (Kd.R_below att11_0_5 hb) (Kd.R_below att11_0_6 hb) (Kd.R_below att11_0_12 hb) (blk_below (g := gb362) (o := .cells #[.int .i64 a0_0, .int .i64 a0_1, .int .i64 a0_2, .int .i64 a0_3, .int .i64 a0_4] 37 (0, 0)) att11_0_1 hb) (below_step att11_0_0 hb) ?_; clear HO384 HO430 HO446 HO452 HO455 BK362 HB; intro HO384 HO430 HO446 HO452 HO455 BK362 HB; (try clear hb); (try clear hb2); (try clear hk); (try clear hi)) | ((with_reducible refine gate_callee (f := 177) rfl ?_); refine goesL_ (some 71) rfl rfl Try.func177 (by kernel_rfl) rfl #[.int .i64 4, .int .i64 (wrap64 (a1 + 3))] rfl atgM_ ?_; (with_reducible refine (spec_l10Load.calls 4 (wrap64 (a1 + 3)) t466 t467 t468 t469 t470 _ A27.out).mono ?_); rintro e w140 ⟨rfl, hb⟩; refine ⟨_, rfl, ?_⟩; refine swap7_ (Kd.R_below att11_0_2 hb) (Kd.R_below att11_0_4 hb) (Kd.R_below att11_0_5 hb) (Kd.R_below att11_0_6 hb) (Kd.R_below att11_0_12 hb) (blk_below (g := gb362) (o := .cells #[.int .i64 a0_0, .int .i64 a0_1, .int .i64 a0_2, .int .i64 a0_3, .int .i64 a0_4] 37 (0, 0)) att11_0_1 hb) (below_step att11_0_0 hb) ?_; clear HO384 HO430 HO446 HO452 HO455 BK362 HB; intro HO384 HO430 HO446 HO452 HO455 BK362 HB; (try clear hb); (try clear hb2); (try clear hk); (try clear hi)) | ((with_reducible refine gate_dst (N := 72) rfl ?_); refine Kd.R_lit k46 _ 46 ?hg (N := 72) ?hd (xs := ([(⟨t456, t457, t458, t459, t460⟩ : S46), (⟨t461, t462, t463, t464, t465⟩ : S46), (⟨t466, t467, t468, t469, t470⟩ : S46)] : List (S46))) (inner := [.int .i64 t456, .int .i64 t457, .int .i64 t458, .int .i64 t459, .int .i64 t460, .int .i64 t461, .int .i64 t462, .int .i64 t463, .int .i64 t464, .int .i64 t465, .int .i64 t466, .int .i64 t467, .int .i64 t468, .int .i64 t469, .int .i64 t470]) (ok := fun _ => True) (okp := fun _ => True) ?hr ?hp (fun _ hk => hk) trivial (Below.refl _ _) (Nat.le_refl _) (by simp) ?_; (case hd => rfl); (case hg => rfl); (case hr => first | (go_simp; done) | (go_simp; rfl)); (case hp => exact (Reps.c5 (show Kd.M k46 _ _ _ (⟨t456, t457, t458, t459, t460⟩ : S46) [.int .i64 t456, .int .i64 t457, .int .i64 t458, .int .i64 t459, .int .i64 t460] from (k46_mkM _ _ _ (⟨t456, t457, t458, t459, t460⟩ : S46) )) (Reps.c5 (show Kd.M k46 _ _ _ (⟨t461, t462, t463, t464, t465⟩ : S46) [.int .i64 t461, .int .i64 t462, .int .i64 t463, .int .i64 t464, .int .i64 t465] from (k46_mkM _ _ _ (⟨t461, t462, t463, t464, t465⟩ : S46) )) (Reps.c5 (show Kd.M k46 _ _ _ (⟨t466, t467, t468, t469, t470⟩ : S46) [.int .i64 t466, .int .i64 t467, .int .i64 t468, .int .i64 t469, .int .i64 t470] from (k46_mkM _ _ _ (⟨t466, t467, t468, t469, t470⟩ : S46) )) (Reps.none _ _))))); intro v472 w141 ho142 hb hg_ hnew_; clear hg_ hnew_; (first | rw [← Ny471.out] at ho142 | (simp only [Int.reduceToNat] at ho142; rw [← Ny471.out] at ho142)); refine swap8_ (Kd.R_elder' att11_0_2 (Kd.R_base ho142) hb) (Kd.R_elder' att11_0_4 (Kd.R_base ho142) hb) (Kd.R_elder' att11_0_5 (Kd.R_base ho142) hb) (Kd.R_elder' att11_0_6 (Kd.R_base ho142) hb) (Kd.R_elder' att11_0_12 (Kd.R_base ho142) hb) (Kd.R_lower (Kd.R_new' (Kd.R_new' (Kd.R_new' (Kd.R_new' (Kd.R_new' ho142 (Kd.R_lt att11_0_2)) (Kd.R_lt att11_0_4)) (Kd.R_lt att11_0_5)) (Kd.R_lt att11_0_6)) (Kd.R_lt att11_0_12)) (below_size att11_0_0)) (blk_below (g := gb362) (o := .cells #[.int .i64 a0_0, .int .i64 a0_1, .int .i64 a0_2, .int .i64 a0_3, .int .i64 a0_4] 37 (0, 0)) att11_0_1 hb) (below_step att11_0_0 hb) ?_; clear HO384 HO430 HO446 HO452 HO455 BK362 HB; intro HO384 HO430 HO446 HO452 HO455 HO473 BK362 HB; clear hb ho142; obtain ⟨Ao144, co144, eo144⟩ := Kd.R_slice HO473.out; subst eo144) | ((with_reducible refine gate_builtin (b := .append) (xs := #[.tmp 63, .tmp 72]) rfl ?_); at_builtin; refine Kd.R_append_rows k46 (w0 := w) w.heap.size rfl (.tmp 63) (.tmp 72) 40 46 (.agg #[(.int .i64 0), (.int .i64 0), (.int .i64 0), (.int .i64 0), (.int .i64 0)]) 40 rfl Try.underlying40 info46 rfl (by decide) (by omega) v454 y453 y471 _ _ _ (fun k_ => some k_ ≠ (.slice Ao115 y382.length co115 : Value).ownBlock ∧ some k_ ≠ (.slice Ao127 y428.length co127 : Value).ownBlock ∧ some k_ ≠ (.slice Ao133 y444.length co133 : Value).ownBlock ∧ some k_ ≠ (.slice Ao136 t450.length co136 : Value).ownBlock ∧ some k_ ≠ (.slice Ao144 y471.length co144 : Value).ownBlock) (fun _ => False) rfl rfl ?aO ?aR (fun _ _ h => h) (fun _ h => h.elim) ?aF ?aB ?aS ?aL ?_; (case aR => repeat (first | exact (Kd.R_reads' HO473.out).2.2 | (with_reducible refine Kd.C_alloc ?_ _) | (with_reducible refine Kd.C_drewN ?_ _) | (with_reducible refine Kd.C_drew ?_))); (case aB => exact att11_0_0); (case aF => exact (fun k_ hk => ⟨Kd.fresh' (Kd.R_lt att11_0_2) k_ hk, Kd.fresh' (Kd.R_lt att11_0_4) k_ hk, Kd.fresh' (Kd.R_lt att11_0_5) k_ hk, Kd.fresh' (Kd.R_lt att11_0_6) k_ hk, Kd.fresh' (Kd.R_lt att11_0_7) k_ hk⟩)); (case aO => exact att11_0_44); (case aS => exact (below_size att11_0_0)); (case aL => have := LMc28.out; omega); intro v475 w143 ho hb hg hat; rw [← Ny474.out] at ho; refine swap8_ (blk_grown (g := gb362) (o := .cells #[.int .i64 a0_0, .int .i64 a0_1, .int .i64 a0_2, .int .i64 a0_3, .int .i64 a0_4] 37 (0, 0)) att11_0_1 hg (Kd.R_ne HO455.out BK362.out (by decide))) (Kd.R_after (ok := (fun k_ => some k_ ≠ (.slice Ao127 y428.length co127 : Value).ownBlock ∧ some k_ ≠ (.slice Ao133 y444.length co133 : Value).ownBlock ∧ some k_ ≠ (.slice Ao136 t450.length co136 : Value).ownBlock ∧ some k_ ≠ (.slice Ao144 y471.length co144 : Value).ownBlock)) att11_0_48 hg hat) (Kd.R_after (ok := (fun k_ => some k_ ≠ (.slice Ao115 y382.length co115 : Value).ownBlock ∧ some k_ ≠ (.slice Ao133 y444.length co133 : Value).ownBlock ∧ some k_ ≠ (.slice Ao136 t450.length co136 : Value).ownBlock ∧ some k_ ≠ (.slice Ao144 y471.length co144 : Value).ownBlock)) att11_0_47 hg hat) (Kd.R_after (ok := (fun k_ => some k_ ≠ (.slice Ao115 y382.length co115 : Value).ownBlock ∧ some k_ ≠ (.slice Ao127 y428.length co127 : Value).ownBlock ∧ some k_ ≠ (.slice Ao136 t450.length co136 : Value).ownBlock ∧ some k_ ≠ (.slice Ao144 y471.length co144 : Value).ownBlock)) att11_0_46 hg hat) (Kd.R_after (ok := (fun k_ => some k_ ≠ (.slice Ao115 y382.length co115 : Value).ownBlock ∧ some k_ ≠ (.slice Ao127 y428.length co127 : Value).ownBlock ∧ some k_ ≠ (.slice Ao133 y444.length co133 : Value).ownBlock ∧ some k_ ≠ (.slice Ao144 y471.length co144 : Value).ownBlock)) att11_0_45 hg hat) (Kd.R_after (ok := (fun k_ => some k_ ≠ (.slice Ao115 y382.length co115 : Value).ownBlock ∧ some k_ ≠ (.slice Ao127 y428.length co127 : Value).ownBlock ∧ some k_ ≠ (.slice Ao133 y444.length co133 : Value).ownBlock ∧ some k_ ≠ (.slice Ao136 t450.length co136 : Value).ownBlock)) att11_0_43 hg hat) (hb) (ho) ?_; clear BK362 HO384 HO430 HO446 HO452 HO473 HB HO455; intro BK362 HO384 HO430 HO446 HO452 HO473 HB HO476; clear ho hb hg hat) | ((with_reducible refine gate_callee (f := 179) rfl ?_); refine goesL_ (some 76) rfl rfl Try.func179 (by kernel_rfl) rfl #[.int .i64 a1] rfl atgM_ ?_; (with_reducible refine (spec_l10Let.calls a1 t477 _ A29.out).mono ?_); rintro e w145 ⟨v478, rfl, ho0, hb⟩; refine ⟨_, rfl, ?_⟩; have n0_ := Aside0.mk (Kd.R_elder' att11_0_2 (Kd.R_base ho0) hb); have n1_ := Aside0.mk (Kd.R_elder' att11_0_4 (Kd.R_base ho0) hb); have n2_ := Aside0.mk (Kd.R_elder' att11_0_5 (Kd.R_base ho0) hb); have n3_ := Aside0.mk (Kd.R_elder' att11_0_6 (Kd.R_base ho0) hb); have n4_ := Aside0.mk (Kd.R_elder' att11_0_7 (Kd.R_base ho0) hb); have n5_ := Aside0.mk (Kd.R_elder' att11_0_18 (Kd.R_base ho0) hb); have n6_ := Aside0.mk (Kd.R_lower (Kd.R_new' (Kd.R_new' (Kd.R_new' (Kd.R_new' (Kd.R_new' (Kd.R_new' ho0 (Kd.R_lt att11_0_2)) (Kd.R_lt att11_0_4)) (Kd.R_lt att11_0_5)) (Kd.R_lt att11_0_6)) (Kd.R_lt att11_0_7)) (Kd.R_lt att11_0_18)) (below_size att11_0_0)); have n7_ := Aside0.mk (blk_below (g := gb362) (o := .cells #[.int .i64 a0_0, .int .i64 a0_1, .int .i64 a0_2, .int .i64 a0_3, .int .i64 a0_4] 37 (0, 0)) att11_0_1 hb); have n8_ := Aside0.mk (below_step att11_0_0 hb); clear HO384; clear HO430; clear HO446; clear HO452; clear HO473; clear HO476; clear BK362; clear HB; have HO384 := n0_; have HO430 := n1_; have HO446 := n2_; have HO452 := n3_; have HO473 := n4_; have HO476 := n5_; have HO479 := n6_; have BK362 := n7_; have HB := n8_; clear n0_ n1_ n2_ n3_ n4_ n5_ n6_ n7_ n8_; (try clear hb); (try clear hb2); (try clear hk); (try clear hi); (try clear ho0); obtain ⟨Ao147, co147, eo147⟩ := Kd.R_slice HO479.out; subst eo147) | ((with_reducible refine gate_builtin (b := .append) (xs := #[.tmp 74, .tmp 76]) rfl ?_); at_builtin; refine Kd.R_append_rows k46 (w0 := w) w.heap.size rfl (.tmp 74) (.tmp 76) 40 46 (.agg #[(.int .i64 0), (.int .i64 0), (.int .i64 0), (.int .i64 0), (.int .i64 0)]) 40 rfl Try.underlying40 info46 rfl (by decide) (by omega) v475 y474 t477 _ _ _ (fun k_ => some k_ ≠ (.slice Ao115 y382.length co115 : Value).ownBlock ∧ some k_ ≠ (.slice Ao127 y428.length co127 : Value).ownBlock ∧ some k_ ≠ (.slice Ao133 y444.length co133 : Value).ownBlock ∧ some k_ ≠ (.slice Ao136 t450.length co136 : Value).ownBlock ∧ some k_ ≠ (.slice Ao144 y471.length co144 : Value).ownBlock ∧ some k_ ≠ (.slice Ao147 t477.length co147 : Value).ownBlock) (fun _ => False) rfl rfl ?aO ?aR (fun _ _ h => h) (fun _ h => h.elim) ?aF ?aB ?aS ?aL ?_; (case aR => repeat (first | exact (Kd.R_reads' HO479.out).2.2 | (with_reducible refine Kd.C_alloc ?_ _) | (with_reducible refine Kd.C_drewN ?_ _) | (with_reducible refine Kd.C_drew ?_))); (case aB => exact att11_0_0); (case aF => exact (fun k_ hk => ⟨Kd.fresh' (Kd.R_lt att11_0_2) k_ hk, Kd.fresh' (Kd.R_lt att11_0_4) k_ hk, Kd.fresh' (Kd.R_lt att11_0_5) k_ hk, Kd.fresh' (Kd.R_lt att11_0_6) k_ hk, Kd.fresh' (Kd.R_lt att11_0_7) k_ hk, Kd.fresh' (Kd.R_lt att11_0_8) k_ hk⟩)); (case aO => exact att11_0_37); (case aS => exact (below_size att11_0_0)); (case aL => have := LMc30.out; omega); intro v481 w146 ho hb hg hat; rw [← Ny480.out] at ho; have n0_ := Aside0.mk (blk_grown (g := gb362) (o := .cells #[.int .i64 a0_0, .int .i64 a0_1, .int .i64 a0_2, .int .i64 a0_3, .int .i64 a0_4] 37 (0, 0)) att11_0_1 hg (Kd.R_ne HO476.out BK362.out (by decide))); have n1_ := Aside0.mk (Kd.R_after (ok := (fun k_ => some k_ ≠ (.slice Ao127 y428.length co127 : Value).ownBlock ∧ some k_ ≠ (.slice Ao133 y444.length co133 : Value).ownBlock ∧ some k_ ≠ (.slice Ao136 t450.length co136 : Value).ownBlock ∧ some k_ ≠ (.slice Ao144 y471.length co144 : Value).ownBlock ∧ some k_ ≠ (.slice Ao147 t477.length co147 : Value).ownBlock)) att11_0_42 hg hat); have n2_ := Aside0.mk (Kd.R_after (ok := (fun k_ => some k_ ≠ (.slice Ao115 y382.length co115 : Value).ownBlock ∧ some k_ ≠ (.slice Ao133 y444.length co133 : Value).ownBlock ∧ some k_ ≠ (.slice Ao136 t450.length co136 : Value).ownBlock ∧ some k_ ≠ (.slice Ao144 y471.length co144 : Value).ownBlock ∧ some k_ ≠ (.slice Ao147 t477.length co147 : Value).ownBlock)) att11_0_41 hg hat); have n3_ := Aside0.mk (Kd.R_after (ok := (fun k_ => some k_ ≠ (.slice Ao115 y382.length co115 : Value).ownBlock ∧ some k_ ≠ (.slice Ao127 y428.length co127 : Value).ownBlock ∧ some k_ ≠ (.slice Ao136 t450.length co136 : Value).ownBlock ∧ some k_ ≠ (.slice Ao144 y471.length co144 : Value).ownBlock ∧ some k_ ≠ (.slice Ao147 t477.length co147 : Value).ownBlock)) att11_0_40 hg hat); have n4_ := Aside0.mk (Kd.R_after (ok := (fun k_ => some k_ ≠ (.slice Ao115 y382.length co115 : Value).ownBlock ∧ some k_ ≠ (.slice Ao127 y428.length co127 : Value).ownBlock ∧ some k_ ≠ (.slice Ao133 y444.length co133 : Value).ownBlock ∧ some k_ ≠ (.slice Ao144 y471.length co144 : Value).ownBlock ∧ some k_ ≠ (.slice Ao147 t477.length co147 : Value).ownBlock)) att11_0_39 hg hat); have n5_ := Aside0.mk (Kd.R_after (ok := (fun k_ => some k_ ≠ (.slice Ao115 y382.length co115 : Value).ownBlock ∧ some k_ ≠ (.slice Ao127 y428.length co127 : Value).ownBlock ∧ some k_ ≠ (.slice Ao133 y444.length co133 : Value).ownBlock ∧ some k_ ≠ (.slice Ao136 t450.length co136 : Value).ownBlock ∧ some k_ ≠ (.slice Ao147 t477.length co147 : Value).ownBlock)) att11_0_38 hg hat); have n6_ := Aside0.mk (Kd.R_after (ok := (fun k_ => some k_ ≠ (.slice Ao115 y382.length co115 : Value).ownBlock ∧ some k_ ≠ (.slice Ao127 y428.length co127 : Value).ownBlock ∧ some k_ ≠ (.slice Ao133 y444.length co133 : Value).ownBlock ∧ some k_ ≠ (.slice Ao136 t450.length co136 : Value).ownBlock ∧ some k_ ≠ (.slice Ao144 y471.length co144 : Value).ownBlock)) att11_0_36 hg hat); have n7_ := Aside0.mk (hb); have n8_ := Aside0.mk (ho); clear BK362; clear HO384; clear HO430; clear HO446; clear HO452; clear HO473; clear HO479; clear HB; clear HO476; have BK362 := n0_; have HO384 := n1_; have HO430 := n2_; have HO446 := n3_; have HO452 := n4_; have HO473 := n5_; have HO479 := n6_; have HB := n7_; have HO482 := n8_; clear n0_ n1_ n2_ n3_ n4_ n5_ n6_ n7_ n8_; clear ho hb hg hat))
          have n0_ := Aside0.mk (Kd.R_drew HO384.out)
          have n1_ := Aside0.mk (Kd.R_drew HO430.out)
          have n2_ := Aside0.mk (Kd.R_drew HO446.out)
          have n3_ := Aside0.mk (Kd.R_drew HO452.out)
          have n4_ := Aside0.mk (Kd.R_drew HO473.out)
          have n5_ := Aside0.mk (Kd.R_drew HO479.out)
          have n6_ := Aside0.mk (Kd.R_drew HO482.out)
          have n7_ := Aside0.mk (blk_drew BK362.out)
          have n8_ := Aside0.mk (below_drew1 HB.out)
          clear HO384
          clear HO430
          clear HO446
          clear HO452
          clear HO473
          clear HO479
          clear HO482
          clear BK362
          clear HB
          have HO384 := n0_
          have HO430 := n1_
          have HO446 := n2_
          have HO452 := n3_
          have HO473 := n4_
          have HO479 := n5_
          have HO482 := n6_
          have BK362 := n7_
          have HB := n8_
          clear n0_ n1_ n2_ n3_ n4_ n5_ n6_ n7_ n8_
          refine start_ (n := 10) (S := fun w' => w'.cell? ⟨gb362, 0, none⟩ = some (.int .i64 a0_0) ∧ w'.cell? ⟨gb362, 1, none⟩ = some (.int .i64 a0_1) ∧ w'.cell? ⟨gb362, 2, none⟩ = some (.int .i64 a0_2) ∧ w'.cell? ⟨gb362, 3, none⟩ = some (.int .i64 a0_3) ∧ w'.cell? ⟨gb362, 4, none⟩ = some (.int .i64 a0_4)) (ds := []) (tf_ 0 10) (by kernel_rfl) rfl rfl ⟨(blk_cell BK362.out 0).trans rfl, (blk_cell BK362.out 1).trans rfl, (blk_cell BK362.out 2).trans rfl, (blk_cell BK362.out 3).trans rfl, (blk_cell BK362.out 4).trans rfl⟩ (fun hHeld => ?_); refine with_tabW spec_l10Take.tab8 spec_l10Take.bits8 (fun HT_ HW_ => ?_)
          generalize w146.drew = w148 at HO384 HO430 HO446 HO452 HO473 HO479 HO482 BK362 HB hHeld ⊢
          refine pureQ_ (i := 0) (N := some 78) (tf_ 1 9) (h := ?_)
          refine pureQ_ (i := 1) (N := some 79) (tf_ 2 8) (h := ?_)
          refine pureQ_ (i := 2) (N := some 80) (tf_ 3 7) (h := ?_)
          refine pureQ_ (i := 4) (N := some 82) #[true, true, true, false, true, false, false, false, false, false] (h := ?_)
          refine takeQ_ (i := 5) (N := some 83) #[true, true, true, false, true, true, false, false, false, false] hHeld (hy := Or.inl ⟨by rfl, att11_0_17⟩) (h := ?_)
          refine one_ (i := 3) (N := some 81) (tf_ 6 4) rfl rfl (one_of HT_.out (by kernel_rfl)) (by decide) (fun K hK => ?_)
          refine goes_ Try.func110 (by kernel_rfl) rfl #[.int .i64 4, .int .i64 (wrap64 (a3 + 29))] (by rfl) rfl rfl atgM_ ?_
          with_reducible refine (spec_l10Zero.calls 4 (wrap64 (a3 + 29)) t483 t484 t485 t486 t487 _ A31.out).mono ?_
          rintro e w149 ⟨rfl, hb⟩
          refine ⟨_, rfl, ?_⟩
          have n0_ := Aside0.mk (Kd.R_below att11_0_2 hb)
          have n1_ := Aside0.mk (Kd.R_below att11_0_4 hb)
          have n2_ := Aside0.mk (Kd.R_below att11_0_5 hb)
          have n3_ := Aside0.mk (Kd.R_below att11_0_6 hb)
          have n4_ := Aside0.mk (Kd.R_below att11_0_7 hb)
          have n5_ := Aside0.mk (Kd.R_below att11_0_8 hb)
          have n6_ := Aside0.mk (Kd.R_below att11_0_14 hb)
          have n7_ := Aside0.mk (blk_below (g := gb362) (o := .cells #[.int .i64 a0_0, .int .i64 a0_1, .int .i64 a0_2, .int .i64 a0_3, .int .i64 a0_4] 37 (0, 0)) att11_0_1 hb)
          have n8_ := Aside0.mk (below_step att11_0_0 hb)
          clear HO384
          clear HO430
          clear HO446
          clear HO452
          clear HO473
          clear HO479
          clear HO482
          clear BK362
          clear HB
          have HO384 := n0_
          have HO430 := n1_
          have HO446 := n2_
          have HO452 := n3_
          have HO473 := n4_
          have HO479 := n5_
          have HO482 := n6_
          have BK362 := n7_
          have HB := n8_
          clear n0_ n1_ n2_ n3_ n4_ n5_ n6_ n7_ n8_
          (try clear hb)
          (try clear hb2)
          (try clear hk)
          (try clear hi)
          refine hK.out _ _ ⟨(blk_cell BK362.out 0).trans rfl, (blk_cell BK362.out 1).trans rfl, (blk_cell BK362.out 2).trans rfl, (blk_cell BK362.out 3).trans rfl, (blk_cell BK362.out 4).trans rfl⟩ (fun hHeld => ?_)
          clear hK K
          refine normS_ (N := some 81) (h := ?_)
          refine one_ (i := 6) (N := some 84) (tf_ 7 3) rfl rfl (one_of HT_.out (by kernel_rfl)) (by decide) (fun K hK => ?_)
          refine goes_ Try.func107 (by kernel_rfl) rfl #[.int .i64 a0_1, .int .i64 0] (by rfl) rfl rfl atgM_ ?_
          with_reducible refine (spec_l10Set.calls a0_1 0 t488 t489 t490 t491 t492 _ A32.out).mono ?_
          rintro e w150 ⟨rfl, hb⟩
          refine ⟨_, rfl, ?_⟩
          have n0_ := Aside0.mk (Kd.R_below att11_0_2 hb)
          have n1_ := Aside0.mk (Kd.R_below att11_0_4 hb)
          have n2_ := Aside0.mk (Kd.R_below att11_0_5 hb)
          have n3_ := Aside0.mk (Kd.R_below att11_0_6 hb)
          have n4_ := Aside0.mk (Kd.R_below att11_0_7 hb)
          have n5_ := Aside0.mk (Kd.R_below att11_0_8 hb)
          have n6_ := Aside0.mk (Kd.R_below att11_0_14 hb)
          have n7_ := Aside0.mk (blk_below (g := gb362) (o := .cells #[.int .i64 a0_0, .int .i64 a0_1, .int .i64 a0_2, .int .i64 a0_3, .int .i64 a0_4] 37 (0, 0)) att11_0_1 hb)
          have n8_ := Aside0.mk (below_step att11_0_0 hb)
          clear HO384
          clear HO430
          clear HO446
          clear HO452
          clear HO473
          clear HO479
          clear HO482
          clear BK362
          clear HB
          have HO384 := n0_
          have HO430 := n1_
          have HO446 := n2_
          have HO452 := n3_
          have HO473 := n4_
          have HO479 := n5_
          have HO482 := n6_
          have BK362 := n7_
          have HB := n8_
          clear n0_ n1_ n2_ n3_ n4_ n5_ n6_ n7_ n8_
          (try clear hb)
          (try clear hb2)
          (try clear hk)
          (try clear hi)
          refine hK.out _ _ ⟨(blk_cell BK362.out 0).trans rfl, (blk_cell BK362.out 1).trans rfl, (blk_cell BK362.out 2).trans rfl, (blk_cell BK362.out 3).trans rfl, (blk_cell BK362.out 4).trans rfl⟩ (fun hHeld => ?_)
          clear hK K
          refine normS_ (N := some 84) (h := ?_)
          refine one_ (i := 7) (N := some 85) (tf_ 8 2) rfl rfl (one_of HT_.out (by kernel_rfl)) (by decide) (fun K hK => ?_)
          refine Kd.R_lit_step k46 _ 46 ?hg (N := 85) ?hd (xs := ([(⟨t483, t484, t485, t486, t487⟩ : S46), (⟨t488, t489, t490, t491, t492⟩ : S46)] : List (S46))) (inner := [.int .i64 t483, .int .i64 t484, .int .i64 t485, .int .i64 t486, .int .i64 t487, .int .i64 t488, .int .i64 t489, .int .i64 t490, .int .i64 t491, .int .i64 t492]) (ok := fun _ => True) (okp := fun _ => True) ?hr ?hp (fun _ hk => hk) trivial (Below.refl _ _) (Nat.le_refl _) (by simp) ?_; (case hd => rfl); (case hg => rfl); (case hr => first | (go_simp; done) | (go_simp; rfl)); (case hp => exact (Reps.c5 (show Kd.M k46 _ _ _ (⟨t483, t484, t485, t486, t487⟩ : S46) [.int .i64 t483, .int .i64 t484, .int .i64 t485, .int .i64 t486, .int .i64 t487] from (k46_mkM _ _ _ (⟨t483, t484, t485, t486, t487⟩ : S46) )) (Reps.c5 (show Kd.M k46 _ _ _ (⟨t488, t489, t490, t491, t492⟩ : S46) [.int .i64 t488, .int .i64 t489, .int .i64 t490, .int .i64 t491, .int .i64 t492] from (k46_mkM _ _ _ (⟨t488, t489, t490, t491, t492⟩ : S46) )) (Reps.none _ _))))
          intro v494 w151 ho152 hb hg_ hnew_
          clear hg_ hnew_
          (first | rw [← Ny493.out] at ho152 | (simp only [Int.reduceToNat] at ho152; rw [← Ny493.out] at ho152))
          have n0_ := Aside0.mk (Kd.R_elder' att11_0_2 (Kd.R_base ho152) hb)
          have n1_ := Aside0.mk (Kd.R_elder' att11_0_4 (Kd.R_base ho152) hb)
          have n2_ := Aside0.mk (Kd.R_elder' att11_0_5 (Kd.R_base ho152) hb)
          have n3_ := Aside0.mk (Kd.R_elder' att11_0_6 (Kd.R_base ho152) hb)
          have n4_ := Aside0.mk (Kd.R_elder' att11_0_7 (Kd.R_base ho152) hb)
          have n5_ := Aside0.mk (Kd.R_elder' att11_0_8 (Kd.R_base ho152) hb)
          have n6_ := Aside0.mk (Kd.R_elder' att11_0_14 (Kd.R_base ho152) hb)
          have n7_ := Aside0.mk (Kd.R_lower (Kd.R_new' (Kd.R_new' (Kd.R_new' (Kd.R_new' (Kd.R_new' (Kd.R_new' (Kd.R_new' ho152 (Kd.R_lt att11_0_2)) (Kd.R_lt att11_0_4)) (Kd.R_lt att11_0_5)) (Kd.R_lt att11_0_6)) (Kd.R_lt att11_0_7)) (Kd.R_lt att11_0_8)) (Kd.R_lt att11_0_14)) (below_size att11_0_0))
          have n8_ := Aside0.mk (blk_below (g := gb362) (o := .cells #[.int .i64 a0_0, .int .i64 a0_1, .int .i64 a0_2, .int .i64 a0_3, .int .i64 a0_4] 37 (0, 0)) att11_0_1 hb)
          have n9_ := Aside0.mk (below_step att11_0_0 hb)
          clear HO384
          clear HO430
          clear HO446
          clear HO452
          clear HO473
          clear HO479
          clear HO482
          clear BK362
          clear HB
          have HO384 := n0_
          have HO430 := n1_
          have HO446 := n2_
          have HO452 := n3_
          have HO473 := n4_
          have HO479 := n5_
          have HO482 := n6_
          have HO495 := n7_
          have BK362 := n8_
          have HB := n9_
          clear n0_ n1_ n2_ n3_ n4_ n5_ n6_ n7_ n8_ n9_
          clear hb ho152
          obtain ⟨Ao154, co154, eo154⟩ := Kd.R_slice HO495.out
          (first | subst eo154 | (injection eo154 with f1_ f2_ f3_; have f4_ := f1_.symm; have f5_ := f3_.symm; clear f1_ f2_ f3_; subst f4_; subst f5_))
          refine hK.out _ _ ⟨(blk_cell BK362.out 0).trans rfl, (blk_cell BK362.out 1).trans rfl, (blk_cell BK362.out 2).trans rfl, (blk_cell BK362.out 3).trans rfl, (blk_cell BK362.out 4).trans rfl⟩ (fun hHeld => ?_)
          clear hK K
          refine normS_ (N := some 85) (h := ?_)
          refine one_ (i := 8) (N := some 86) (tf_ 9 1) rfl rfl (one_of HT_.out (by kernel_rfl)) (by decide) (fun K hK => ?_)
          refine Kd.R_append_rows_step k46 (w0 := w) w.heap.size (by rfl) (.tmp 78) (.tmp 85) 40 46 (.agg #[(.int .i64 0), (.int .i64 0), (.int .i64 0), (.int .i64 0), (.int .i64 0)]) 40 rfl Try.underlying40 info46 rfl (by decide) (by omega) v481 y480 y493 _ _ _ (fun k_ => some k_ ≠ (.slice Ao115 y382.length co115 : Value).ownBlock ∧ some k_ ≠ (.slice Ao127 y428.length co127 : Value).ownBlock ∧ some k_ ≠ (.slice Ao133 y444.length co133 : Value).ownBlock ∧ some k_ ≠ (.slice Ao136 t450.length co136 : Value).ownBlock ∧ some k_ ≠ (.slice Ao144 y471.length co144 : Value).ownBlock ∧ some k_ ≠ (.slice Ao147 t477.length co147 : Value).ownBlock ∧ some k_ ≠ (.slice Ao154 y493.length co154 : Value).ownBlock) (fun _ => False) rfl rfl ?aO ?aR (fun _ _ h => h) (fun _ h => h.elim) ?aF ?aB ?aS ?aL ?_
          (case aR => repeat (first | exact (Kd.R_reads' HO495.out).2.2 | (with_reducible refine Kd.C_alloc ?_ _) | (with_reducible refine Kd.C_drewN ?_ _) | (with_reducible refine Kd.C_drew ?_)))
          (case aB => exact att11_0_0)
          (case aF => exact (fun k_ hk => ⟨Kd.fresh' (Kd.R_lt att11_0_2) k_ hk, Kd.fresh' (Kd.R_lt att11_0_4) k_ hk, Kd.fresh' (Kd.R_lt att11_0_5) k_ hk, Kd.fresh' (Kd.R_lt att11_0_6) k_ hk, Kd.fresh' (Kd.R_lt att11_0_7) k_ hk, Kd.fresh' (Kd.R_lt att11_0_8) k_ hk, Kd.fresh' (Kd.R_lt att11_0_10) k_ hk⟩))
          (case aO => exact att11_0_29)
          (case aS => exact (below_size att11_0_0))
          (case aL => have := LMc33.out; omega)
          intro v497 w153 ho hb hg hat
          rw [← Ny496.out] at ho
          have n0_ := Aside0.mk (blk_grown (g := gb362) (o := .cells #[.int .i64 a0_0, .int .i64 a0_1, .int .i64 a0_2, .int .i64 a0_3, .int .i64 a0_4] 37 (0, 0)) att11_0_1 hg (Kd.R_ne HO482.out BK362.out (by decide)))
          have n1_ := Aside0.mk (Kd.R_after (ok := (fun k_ => some k_ ≠ (.slice Ao127 y428.length co127 : Value).ownBlock ∧ some k_ ≠ (.slice Ao133 y444.length co133 : Value).ownBlock ∧ some k_ ≠ (.slice Ao136 t450.length co136 : Value).ownBlock ∧ some k_ ≠ (.slice Ao144 y471.length co144 : Value).ownBlock ∧ some k_ ≠ (.slice Ao147 t477.length co147 : Value).ownBlock ∧ some k_ ≠ (.slice Ao154 y493.length co154 : Value).ownBlock)) att11_0_35 hg hat)
          have n2_ := Aside0.mk (Kd.R_after (ok := (fun k_ => some k_ ≠ (.slice Ao115 y382.length co115 : Value).ownBlock ∧ some k_ ≠ (.slice Ao133 y444.length co133 : Value).ownBlock ∧ some k_ ≠ (.slice Ao136 t450.length co136 : Value).ownBlock ∧ some k_ ≠ (.slice Ao144 y471.length co144 : Value).ownBlock ∧ some k_ ≠ (.slice Ao147 t477.length co147 : Value).ownBlock ∧ some k_ ≠ (.slice Ao154 y493.length co154 : Value).ownBlock)) att11_0_34 hg hat)
          have n3_ := Aside0.mk (Kd.R_after (ok := (fun k_ => some k_ ≠ (.slice Ao115 y382.length co115 : Value).ownBlock ∧ some k_ ≠ (.slice Ao127 y428.length co127 : Value).ownBlock ∧ some k_ ≠ (.slice Ao136 t450.length co136 : Value).ownBlock ∧ some k_ ≠ (.slice Ao144 y471.length co144 : Value).ownBlock ∧ some k_ ≠ (.slice Ao147 t477.length co147 : Value).ownBlock ∧ some k_ ≠ (.slice Ao154 y493.length co154 : Value).ownBlock)) att11_0_33 hg hat)
          have n4_ := Aside0.mk (Kd.R_after (ok := (fun k_ => some k_ ≠ (.slice Ao115 y382.length co115 : Value).ownBlock ∧ some k_ ≠ (.slice Ao127 y428.length co127 : Value).ownBlock ∧ some k_ ≠ (.slice Ao133 y444.length co133 : Value).ownBlock ∧ some k_ ≠ (.slice Ao144 y471.length co144 : Value).ownBlock ∧ some k_ ≠ (.slice Ao147 t477.length co147 : Value).ownBlock ∧ some k_ ≠ (.slice Ao154 y493.length co154 : Value).ownBlock)) att11_0_32 hg hat)
          have n5_ := Aside0.mk (Kd.R_after (ok := (fun k_ => some k_ ≠ (.slice Ao115 y382.length co115 : Value).ownBlock ∧ some k_ ≠ (.slice Ao127 y428.length co127 : Value).ownBlock ∧ some k_ ≠ (.slice Ao133 y444.length co133 : Value).ownBlock ∧ some k_ ≠ (.slice Ao136 t450.length co136 : Value).ownBlock ∧ some k_ ≠ (.slice Ao147 t477.length co147 : Value).ownBlock ∧ some k_ ≠ (.slice Ao154 y493.length co154 : Value).ownBlock)) att11_0_31 hg hat)
          have n6_ := Aside0.mk (Kd.R_after (ok := (fun k_ => some k_ ≠ (.slice Ao115 y382.length co115 : Value).ownBlock ∧ some k_ ≠ (.slice Ao127 y428.length co127 : Value).ownBlock ∧ some k_ ≠ (.slice Ao133 y444.length co133 : Value).ownBlock ∧ some k_ ≠ (.slice Ao136 t450.length co136 : Value).ownBlock ∧ some k_ ≠ (.slice Ao144 y471.length co144 : Value).ownBlock ∧ some k_ ≠ (.slice Ao154 y493.length co154 : Value).ownBlock)) att11_0_30 hg hat)
          have n7_ := Aside0.mk (Kd.R_after (ok := (fun k_ => some k_ ≠ (.slice Ao115 y382.length co115 : Value).ownBlock ∧ some k_ ≠ (.slice Ao127 y428.length co127 : Value).ownBlock ∧ some k_ ≠ (.slice Ao133 y444.length co133 : Value).ownBlock ∧ some k_ ≠ (.slice Ao136 t450.length co136 : Value).ownBlock ∧ some k_ ≠ (.slice Ao144 y471.length co144 : Value).ownBlock ∧ some k_ ≠ (.slice Ao147 t477.length co147 : Value).ownBlock)) att11_0_28 hg hat)
          have n8_ := Aside0.mk (hb)
          have n9_ := Aside0.mk (ho)
          clear BK362
          clear HO384
          clear HO430
          clear HO446
          clear HO452
          clear HO473
          clear HO479
          clear HO495
          clear HB
          clear HO482
          have BK362 := n0_
          have HO384 := n1_
          have HO430 := n2_
          have HO446 := n3_
          have HO452 := n4_
          have HO473 := n5_
          have HO479 := n6_
          have HO495 := n7_
          have HB := n8_
          have HO498 := n9_
          clear n0_ n1_ n2_ n3_ n4_ n5_ n6_ n7_ n8_ n9_
          clear ho hb hg hat
          refine hK.out _ _ ⟨(blk_cell BK362.out 0).trans rfl, (blk_cell BK362.out 1).trans rfl, (blk_cell BK362.out 2).trans rfl, (blk_cell BK362.out 3).trans rfl, (blk_cell BK362.out 4).trans rfl⟩ (fun hHeld => ?_)
          clear hK K
          refine normS_ (N := some 86) (h := ?_)
          refine pureQ_ (i := 9) (N := some 10) (tf_ 10 0) (h := ?_)
          refine done_ (done_of HT_.out (by kernel_rfl)) ?_
          obtain ⟨hcz155_0, hcz155_1, hcz155_2, hcz155_3, hcz155_4, hfz155_0, hfz155_1, hfz155_2, hfz155_3, hfz155_4⟩ := blkB5_ BK362
          try go_wp2
          have n0_ := Aside0.mk (Kd.R_drew HO384.out)
          have n1_ := Aside0.mk (Kd.R_drew HO430.out)
          have n2_ := Aside0.mk (Kd.R_drew HO446.out)
          have n3_ := Aside0.mk (Kd.R_drew HO452.out)
          have n4_ := Aside0.mk (Kd.R_drew HO473.out)
          have n5_ := Aside0.mk (Kd.R_drew HO479.out)
          have n6_ := Aside0.mk (Kd.R_drew HO495.out)
          have n7_ := Aside0.mk (Kd.R_drew HO498.out)
          have n8_ := Aside0.mk (blk_drew BK362.out)
          have n9_ := Aside0.mk (below_drew1 HB.out)
          clear HO384
          clear HO430
          clear HO446
          clear HO452
          clear HO473
          clear HO479
          clear HO495
          clear HO498
          clear BK362
          clear HB
          have HO384 := n0_
          have HO430 := n1_
          have HO446 := n2_
          have HO452 := n3_
          have HO473 := n4_
          have HO479 := n5_
          have HO495 := n6_
          have HO498 := n7_
          have BK362 := n8_
          have HB := n9_
          clear n0_ n1_ n2_ n3_ n4_ n5_ n6_ n7_ n8_ n9_
          refine start_ (n := 17) (S := fun w' => w'.cell? ⟨gb362, 0, none⟩ = some (.int .i64 a0_0) ∧ w'.cell? ⟨gb362, 1, none⟩ = some (.int .i64 a0_1) ∧ w'.cell? ⟨gb362, 2, none⟩ = some (.int .i64 a0_2) ∧ w'.cell? ⟨gb362, 3, none⟩ = some (.int .i64 a0_3) ∧ w'.cell? ⟨gb362, 4, none⟩ = some (.int .i64 a0_4)) (ds := []) (tf_ 0 17) (by kernel_rfl) rfl rfl ⟨(blk_cell BK362.out 0).trans rfl, (blk_cell BK362.out 1).trans rfl, (blk_cell BK362.out 2).trans rfl, (blk_cell BK362.out 3).trans rfl, (blk_cell BK362.out 4).trans rfl⟩ (fun hHeld => ?_); refine with_tabW spec_l10Take.tab11 spec_l10Take.bits11 (fun HT_ HW_ => ?_)
          generalize w153.drew = w156 at HO384 HO430 HO446 HO452 HO473 HO479 HO495 HO498 BK362 HB hHeld ⊢
          refine pureQ_ (i := 0) (N := some 100) (tf_ 1 16) (h := ?_)
          refine pureQ_ (i := 1) (N := some 101) (tf_ 2 15) (h := ?_)
          refine pureQ_ (i := 4) (N := some 104) #[true, true, false, false, true, false, false, false, false, false, false, false, false, false, false, false, false] (h := ?_)
          refine pureQ_ (i := 6) (N := some 106) #[true, true, false, false, true, false, true, false, false, false, false, false, false, false, false, false, false] (h := ?_)
          refine pureQ_ (i := 9) (N := some 109) #[true, true, false, false, true, false, true, false, false, true, false, false, false, false, false, false, false] (h := ?_)
          refine pureQ_ (i := 12) (N := some 112) #[true, true, false, false, true, false, true, false, false, true, false, false, true, false, false, false, false] (h := ?_)
          refine takeQ_ (i := 2) (N := some 102) #[true, true, true, false, true, false, true, false, false, true, false, false, true, false, false, false, false] hHeld (hy := Or.inl ⟨by rfl, att11_0_17⟩) (h := ?_)
          refine takeQ_ (i := 7) (N := some 107) #[true, true, true, false, true, false, true, true, false, true, false, false, true, false, false, false, false] hHeld (hy := Or.inl ⟨by rfl, att11_0_17⟩) (h := ?_)
          refine takeQ_ (i := 10) (N := some 110) #[true, true, true, false, true, false, true, true, false, true, true, false, true, false, false, false, false] hHeld (hy := Or.inl ⟨by rfl, att11_0_17⟩) (h := ?_)
          refine one_ (i := 3) (N := some 103) #[true, true, true, true, true, false, true, true, false, true, true, false, true, false, false, false, false] rfl rfl (one_of HT_.out (by kernel_rfl)) (by decide) (fun K hK => ?_)
          refine goes_ Try.func107 (by kernel_rfl) rfl #[.int .i64 a0_3, .int .i64 2] (by rfl) rfl rfl atgM_ ?_
          with_reducible refine (spec_l10Set.calls a0_3 2 t520 t521 t522 t523 t524 _ A98.out).mono ?_
          rintro e w157 ⟨rfl, hb⟩
          refine ⟨_, rfl, ?_⟩
          have n0_ := Aside0.mk (Kd.R_below att11_0_2 hb)
          have n1_ := Aside0.mk (Kd.R_below att11_0_4 hb)
          have n2_ := Aside0.mk (Kd.R_below att11_0_5 hb)
          have n3_ := Aside0.mk (Kd.R_below att11_0_6 hb)
          have n4_ := Aside0.mk (Kd.R_below att11_0_7 hb)
          have n5_ := Aside0.mk (Kd.R_below att11_0_8 hb)
          have n6_ := Aside0.mk (Kd.R_below att11_0_10 hb)
          have n7_ := Aside0.mk (Kd.R_below att11_0_11 hb)
          have n8_ := Aside0.mk (blk_below (g := gb362) (o := .cells #[.int .i64 a0_0, .int .i64 a0_1, .int .i64 a0_2, .int .i64 a0_3, .int .i64 a0_4] 37 (0, 0)) att11_0_1 hb)
          have n9_ := Aside0.mk (below_step att11_0_0 hb)
          clear HO384
          clear HO430
          clear HO446
          clear HO452
          clear HO473
          clear HO479
          clear HO495
          clear HO498
          clear BK362
          clear HB
          have HO384 := n0_
          have HO430 := n1_
          have HO446 := n2_
          have HO452 := n3_
          have HO473 := n4_
          have HO479 := n5_
          have HO495 := n6_
          have HO498 := n7_
          have BK362 := n8_
          have HB := n9_
          clear n0_ n1_ n2_ n3_ n4_ n5_ n6_ n7_ n8_ n9_
          (try clear hb)
          (try clear hb2)
          (try clear hk)
          (try clear hi)
          refine hK.out _ _ ⟨(blk_cell BK362.out 0).trans rfl, (blk_cell BK362.out 1).trans rfl, (blk_cell BK362.out 2).trans rfl, (blk_cell BK362.out 3).trans rfl, (blk_cell BK362.out 4).trans rfl⟩ (fun hHeld => ?_)
          clear hK K
          refine normS_ (N := some 103) (h := ?_)
          refine one_ (i := 5) (N := some 105) #[true, true, true, true, true, true, true, true, false, true, true, false, true, false, false, false, false] rfl rfl (one_of HT_.out (by kernel_rfl)) (by decide) (fun K hK => ?_)
          refine goes_ Try.func109 (by kernel_rfl) rfl #[.int .i64 (wrap64 (a3 + t363))] (by rfl) rfl rfl atgM_ ?_
          with_reducible refine (spec_l10Jump.calls (wrap64 (a3 + t363)) t525 t526 t527 t528 t529 _ A99.out).mono ?_
          rintro e w158 ⟨rfl, hb⟩
          refine ⟨_, rfl, ?_⟩
          have n0_ := Aside0.mk (Kd.R_below att11_0_2 hb)
          have n1_ := Aside0.mk (Kd.R_below att11_0_4 hb)
          have n2_ := Aside0.mk (Kd.R_below att11_0_5 hb)
          have n3_ := Aside0.mk (Kd.R_below att11_0_6 hb)
          have n4_ := Aside0.mk (Kd.R_below att11_0_7 hb)
          have n5_ := Aside0.mk (Kd.R_below att11_0_8 hb)
          have n6_ := Aside0.mk (Kd.R_below att11_0_10 hb)
          have n7_ := Aside0.mk (Kd.R_below att11_0_11 hb)
          have n8_ := Aside0.mk (blk_below (g := gb362) (o := .cells #[.int .i64 a0_0, .int .i64 a0_1, .int .i64 a0_2, .int .i64 a0_3, .int .i64 a0_4] 37 (0, 0)) att11_0_1 hb)
          have n9_ := Aside0.mk (below_step att11_0_0 hb)
          clear HO384
          clear HO430
          clear HO446
          clear HO452
          clear HO473
          clear HO479
          clear HO495
          clear HO498
          clear BK362
          clear HB
          have HO384 := n0_
          have HO430 := n1_
          have HO446 := n2_
          have HO452 := n3_
          have HO473 := n4_
          have HO479 := n5_
          have HO495 := n6_
          have HO498 := n7_
          have BK362 := n8_
          have HB := n9_
          clear n0_ n1_ n2_ n3_ n4_ n5_ n6_ n7_ n8_ n9_
          (try clear hb)
          (try clear hb2)
          (try clear hk)
          (try clear hi)
          refine hK.out _ _ ⟨(blk_cell BK362.out 0).trans rfl, (blk_cell BK362.out 1).trans rfl, (blk_cell BK362.out 2).trans rfl, (blk_cell BK362.out 3).trans rfl, (blk_cell BK362.out 4).trans rfl⟩ (fun hHeld => ?_)
          clear hK K
          refine normS_ (N := some 105) (h := ?_)
          refine one_ (i := 8) (N := some 108) #[true, true, true, true, true, true, true, true, true, true, true, false, true, false, false, false, false] rfl rfl (one_of HT_.out (by kernel_rfl)) (by decide) (fun K hK => ?_)
          refine goes_ Try.func107 (by kernel_rfl) rfl #[.int .i64 a0_1, .int .i64 0] (by rfl) rfl rfl atgM_ ?_
          with_reducible refine (spec_l10Set.calls a0_1 0 t530 t531 t532 t533 t534 _ A100.out).mono ?_
          rintro e w159 ⟨rfl, hb⟩
          refine ⟨_, rfl, ?_⟩
          have n0_ := Aside0.mk (Kd.R_below att11_0_2 hb)
          have n1_ := Aside0.mk (Kd.R_below att11_0_4 hb)
          have n2_ := Aside0.mk (Kd.R_below att11_0_5 hb)
          have n3_ := Aside0.mk (Kd.R_below att11_0_6 hb)
          have n4_ := Aside0.mk (Kd.R_below att11_0_7 hb)
          have n5_ := Aside0.mk (Kd.R_below att11_0_8 hb)
          have n6_ := Aside0.mk (Kd.R_below att11_0_10 hb)
          have n7_ := Aside0.mk (Kd.R_below att11_0_11 hb)
          have n8_ := Aside0.mk (blk_below (g := gb362) (o := .cells #[.int .i64 a0_0, .int .i64 a0_1, .int .i64 a0_2, .int .i64 a0_3, .int .i64 a0_4] 37 (0, 0)) att11_0_1 hb)
          have n9_ := Aside0.mk (below_step att11_0_0 hb)
          clear HO384
          clear HO430
          clear HO446
          clear HO452
          clear HO473
          clear HO479
          clear HO495
          clear HO498
          clear BK362
          clear HB
          have HO384 := n0_
          have HO430 := n1_
          have HO446 := n2_
          have HO452 := n3_
          have HO473 := n4_
          have HO479 := n5_
          have HO495 := n6_
          have HO498 := n7_
          have BK362 := n8_
          have HB := n9_
          clear n0_ n1_ n2_ n3_ n4_ n5_ n6_ n7_ n8_ n9_
          (try clear hb)
          (try clear hb2)
          (try clear hk)
          (try clear hi)
          refine hK.out _ _ ⟨(blk_cell BK362.out 0).trans rfl, (blk_cell BK362.out 1).trans rfl, (blk_cell BK362.out 2).trans rfl, (blk_cell BK362.out 3).trans rfl, (blk_cell BK362.out 4).trans rfl⟩ (fun hHeld => ?_)
          clear hK K
          refine normS_ (N := some 108) (h := ?_)
          refine one_ (i := 11) (N := some 111) (tf_ 13 4) rfl rfl (one_of HT_.out (by kernel_rfl)) (by decide) (fun K hK => ?_)
          refine goes_ Try.func107 (by kernel_rfl) rfl #[.int .i64 a0_3, .int .i64 0] (by rfl) rfl rfl atgM_ ?_
          with_reducible refine (spec_l10Set.calls a0_3 0 t535 t536 t537 t538 t539 _ A101.out).mono ?_
          rintro e w160 ⟨rfl, hb⟩
          refine ⟨_, rfl, ?_⟩
          have n0_ := Aside0.mk (Kd.R_below att11_0_2 hb)
          have n1_ := Aside0.mk (Kd.R_below att11_0_4 hb)
          have n2_ := Aside0.mk (Kd.R_below att11_0_5 hb)
          have n3_ := Aside0.mk (Kd.R_below att11_0_6 hb)
          have n4_ := Aside0.mk (Kd.R_below att11_0_7 hb)
          have n5_ := Aside0.mk (Kd.R_below att11_0_8 hb)
          have n6_ := Aside0.mk (Kd.R_below att11_0_10 hb)
          have n7_ := Aside0.mk (Kd.R_below att11_0_11 hb)
          have n8_ := Aside0.mk (blk_below (g := gb362) (o := .cells #[.int .i64 a0_0, .int .i64 a0_1, .int .i64 a0_2, .int .i64 a0_3, .int .i64 a0_4] 37 (0, 0)) att11_0_1 hb)
          have n9_ := Aside0.mk (below_step att11_0_0 hb)
          clear HO384
          clear HO430
          clear HO446
          clear HO452
          clear HO473
          clear HO479
          clear HO495
          clear HO498
          clear BK362
          clear HB
          have HO384 := n0_
          have HO430 := n1_
          have HO446 := n2_
          have HO452 := n3_
          have HO473 := n4_
          have HO479 := n5_
          have HO495 := n6_
          have HO498 := n7_
          have BK362 := n8_
          have HB := n9_
          clear n0_ n1_ n2_ n3_ n4_ n5_ n6_ n7_ n8_ n9_
          (try clear hb)
          (try clear hb2)
          (try clear hk)
          (try clear hi)
          refine hK.out _ _ ⟨(blk_cell BK362.out 0).trans rfl, (blk_cell BK362.out 1).trans rfl, (blk_cell BK362.out 2).trans rfl, (blk_cell BK362.out 3).trans rfl, (blk_cell BK362.out 4).trans rfl⟩ (fun hHeld => ?_)
          clear hK K
          refine normS_ (N := some 111) (h := ?_)
          refine one_ (i := 13) (N := some 113) (tf_ 14 3) rfl rfl (one_of HT_.out (by kernel_rfl)) (by decide) (fun K hK => ?_)
          refine goes_ Try.func109 (by kernel_rfl) rfl #[.int .i64 (wrap64 (a3 + t363))] (by rfl) rfl rfl atgM_ ?_
          with_reducible refine (spec_l10Jump.calls (wrap64 (a3 + t363)) t540 t541 t542 t543 t544 _ A102.out).mono ?_
          rintro e w161 ⟨rfl, hb⟩
          refine ⟨_, rfl, ?_⟩
          have n0_ := Aside0.mk (Kd.R_below att11_0_2 hb)
          have n1_ := Aside0.mk (Kd.R_below att11_0_4 hb)
          have n2_ := Aside0.mk (Kd.R_below att11_0_5 hb)
          have n3_ := Aside0.mk (Kd.R_below att11_0_6 hb)
          have n4_ := Aside0.mk (Kd.R_below att11_0_7 hb)
          have n5_ := Aside0.mk (Kd.R_below att11_0_8 hb)
          have n6_ := Aside0.mk (Kd.R_below att11_0_10 hb)
          have n7_ := Aside0.mk (Kd.R_below att11_0_11 hb)
          have n8_ := Aside0.mk (blk_below (g := gb362) (o := .cells #[.int .i64 a0_0, .int .i64 a0_1, .int .i64 a0_2, .int .i64 a0_3, .int .i64 a0_4] 37 (0, 0)) att11_0_1 hb)
          have n9_ := Aside0.mk (below_step att11_0_0 hb)
          clear HO384
          clear HO430
          clear HO446
          clear HO452
          clear HO473
          clear HO479
          clear HO495
          clear HO498
          clear BK362
          clear HB
          have HO384 := n0_
          have HO430 := n1_
          have HO446 := n2_
          have HO452 := n3_
          have HO473 := n4_
          have HO479 := n5_
          have HO495 := n6_
          have HO498 := n7_
          have BK362 := n8_
          have HB := n9_
          clear n0_ n1_ n2_ n3_ n4_ n5_ n6_ n7_ n8_ n9_
          (try clear hb)
          (try clear hb2)
          (try clear hk)
          (try clear hi)
          refine hK.out _ _ ⟨(blk_cell BK362.out 0).trans rfl, (blk_cell BK362.out 1).trans rfl, (blk_cell BK362.out 2).trans rfl, (blk_cell BK362.out 3).trans rfl, (blk_cell BK362.out 4).trans rfl⟩ (fun hHeld => ?_)
          clear hK K
          refine normS_ (N := some 113) (h := ?_)
          refine one_ (i := 14) (N := some 114) (tf_ 15 2) rfl rfl (one_of HT_.out (by kernel_rfl)) (by decide) (fun K hK => ?_)
          refine Kd.R_lit_step k46 _ 46 ?hg (N := 114) ?hd (xs := ([(⟨t520, t521, t522, t523, t524⟩ : S46), (⟨t525, t526, t527, t528, t529⟩ : S46), (⟨t530, t531, t532, t533, t534⟩ : S46), (⟨t535, t536, t537, t538, t539⟩ : S46), (⟨t540, t541, t542, t543, t544⟩ : S46)] : List (S46))) (inner := [.int .i64 t520, .int .i64 t521, .int .i64 t522, .int .i64 t523, .int .i64 t524, .int .i64 t525, .int .i64 t526, .int .i64 t527, .int .i64 t528, .int .i64 t529, .int .i64 t530, .int .i64 t531, .int .i64 t532, .int .i64 t533, .int .i64 t534, .int .i64 t535, .int .i64 t536, .int .i64 t537, .int .i64 t538, .int .i64 t539, .int .i64 t540, .int .i64 t541, .int .i64 t542, .int .i64 t543, .int .i64 t544]) (ok := fun _ => True) (okp := fun _ => True) ?hr ?hp (fun _ hk => hk) trivial (Below.refl _ _) (Nat.le_refl _) (by simp) ?_; (case hd => rfl); (case hg => rfl); (case hr => first | (go_simp; done) | (go_simp; rfl)); (case hp => exact (Reps.c5 (show Kd.M k46 _ _ _ (⟨t520, t521, t522, t523, t524⟩ : S46) [.int .i64 t520, .int .i64 t521, .int .i64 t522, .int .i64 t523, .int .i64 t524] from (k46_mkM _ _ _ (⟨t520, t521, t522, t523, t524⟩ : S46) )) (Reps.c5 (show Kd.M k46 _ _ _ (⟨t525, t526, t527, t528, t529⟩ : S46) [.int .i64 t525, .int .i64 t526, .int .i64 t527, .int .i64 t528, .int .i64 t529] from (k46_mkM _ _ _ (⟨t525, t526, t527, t528, t529⟩ : S46) )) (Reps.c5 (show Kd.M k46 _ _ _ (⟨t530, t531, t532, t533, t534⟩ : S46) [.int .i64 t530, .int .i64 t531, .int .i64 t532, .int .i64 t533, .int .i64 t534] from (k46_mkM _ _ _ (⟨t530, t531, t532, t533, t534⟩ : S46) )) (Reps.c5 (show Kd.M k46 _ _ _ (⟨t535, t536, t537, t538, t539⟩ : S46) [.int .i64 t535, .int .i64 t536, .int .i64 t537, .int .i64 t538, .int .i64 t539] from (k46_mkM _ _ _ (⟨t535, t536, t537, t538, t539⟩ : S46) )) (Reps.c5 (show Kd.M k46 _ _ _ (⟨t540, t541, t542, t543, t544⟩ : S46) [.int .i64 t540, .int .i64 t541, .int .i64 t542, .int .i64 t543, .int .i64 t544] from (k46_mkM _ _ _ (⟨t540, t541, t542, t543, t544⟩ : S46) )) (Reps.none _ _)))))))
          intro v546 w162 ho163 hb hg_ hnew_
          clear hg_ hnew_
          (first | rw [← Ny545.out] at ho163 | (simp only [Int.reduceToNat] at ho163; rw [← Ny545.out] at ho163))
          have n0_ := Aside0.mk (Kd.R_elder' att11_0_2 (Kd.R_base ho163) hb)
          have n1_ := Aside0.mk (Kd.R_elder' att11_0_4 (Kd.R_base ho163) hb)
          have n2_ := Aside0.mk (Kd.R_elder' att11_0_5 (Kd.R_base ho163) hb)
          have n3_ := Aside0.mk (Kd.R_elder' att11_0_6 (Kd.R_base ho163) hb)
          have n4_ := Aside0.mk (Kd.R_elder' att11_0_7 (Kd.R_base ho163) hb)
          have n5_ := Aside0.mk (Kd.R_elder' att11_0_8 (Kd.R_base ho163) hb)
          have n6_ := Aside0.mk (Kd.R_elder' att11_0_10 (Kd.R_base ho163) hb)
          have n7_ := Aside0.mk (Kd.R_elder' att11_0_11 (Kd.R_base ho163) hb)
          have n8_ := Aside0.mk (Kd.R_lower (Kd.R_new' (Kd.R_new' (Kd.R_new' (Kd.R_new' (Kd.R_new' (Kd.R_new' (Kd.R_new' (Kd.R_new' ho163 (Kd.R_lt att11_0_2)) (Kd.R_lt att11_0_4)) (Kd.R_lt att11_0_5)) (Kd.R_lt att11_0_6)) (Kd.R_lt att11_0_7)) (Kd.R_lt att11_0_8)) (Kd.R_lt att11_0_10)) (Kd.R_lt att11_0_11)) (below_size att11_0_0))
          have n9_ := Aside0.mk (blk_below (g := gb362) (o := .cells #[.int .i64 a0_0, .int .i64 a0_1, .int .i64 a0_2, .int .i64 a0_3, .int .i64 a0_4] 37 (0, 0)) att11_0_1 hb)
          have n10_ := Aside0.mk (below_step att11_0_0 hb)
          clear HO384
          clear HO430
          clear HO446
          clear HO452
          clear HO473
          clear HO479
          clear HO495
          clear HO498
          clear BK362
          clear HB
          have HO384 := n0_
          have HO430 := n1_
          have HO446 := n2_
          have HO452 := n3_
          have HO473 := n4_
          have HO479 := n5_
          have HO495 := n6_
          have HO498 := n7_
          have HO547 := n8_
          have BK362 := n9_
          have HB := n10_
          clear n0_ n1_ n2_ n3_ n4_ n5_ n6_ n7_ n8_ n9_ n10_
          clear hb ho163
          obtain ⟨Ao165, co165, eo165⟩ := Kd.R_slice HO547.out
          (first | subst eo165 | (injection eo165 with f1_ f2_ f3_; have f4_ := f1_.symm; have f5_ := f3_.symm; clear f1_ f2_ f3_; subst f4_; subst f5_))
          refine hK.out _ _ ⟨(blk_cell BK362.out 0).trans rfl, (blk_cell BK362.out 1).trans rfl, (blk_cell BK362.out 2).trans rfl, (blk_cell BK362.out 3).trans rfl, (blk_cell BK362.out 4).trans rfl⟩ (fun hHeld => ?_)
          clear hK K
          refine normS_ (N := some 114) (h := ?_)
          refine one_ (i := 15) (N := some 115) (tf_ 16 1) rfl rfl (one_of HT_.out (by kernel_rfl)) (by decide) (fun K hK => ?_)
          refine Kd.R_append_rows_step k46 (w0 := w) w.heap.size (by rfl) (.tmp 100) (.tmp 114) 40 46 (.agg #[(.int .i64 0), (.int .i64 0), (.int .i64 0), (.int .i64 0), (.int .i64 0)]) 40 rfl Try.underlying40 info46 rfl (by decide) (by omega) v497 y496 y545 _ _ _ (fun k_ => some k_ ≠ (.slice Ao115 y382.length co115 : Value).ownBlock ∧ some k_ ≠ (.slice Ao127 y428.length co127 : Value).ownBlock ∧ some k_ ≠ (.slice Ao133 y444.length co133 : Value).ownBlock ∧ some k_ ≠ (.slice Ao136 t450.length co136 : Value).ownBlock ∧ some k_ ≠ (.slice Ao144 y471.length co144 : Value).ownBlock ∧ some k_ ≠ (.slice Ao147 t477.length co147 : Value).ownBlock ∧ some k_ ≠ (.slice Ao154 y493.length co154 : Value).ownBlock ∧ some k_ ≠ (.slice Ao165 y545.length co165 : Value).ownBlock) (fun _ => False) rfl rfl ?aO ?aR (fun _ _ h => h) (fun _ h => h.elim) ?aF ?aB ?aS ?aL ?_
          (case aR => repeat (first | exact (Kd.R_reads' HO547.out).2.2 | (with_reducible refine Kd.C_alloc ?_ _) | (with_reducible refine Kd.C_drewN ?_ _) | (with_reducible refine Kd.C_drew ?_)))
          (case aB => exact att11_0_0)
          (case aF => exact (fun k_ hk => ⟨Kd.fresh' (Kd.R_lt att11_0_2) k_ hk, Kd.fresh' (Kd.R_lt att11_0_4) k_ hk, Kd.fresh' (Kd.R_lt att11_0_5) k_ hk, Kd.fresh' (Kd.R_lt att11_0_6) k_ hk, Kd.fresh' (Kd.R_lt att11_0_7) k_ hk, Kd.fresh' (Kd.R_lt att11_0_8) k_ hk, Kd.fresh' (Kd.R_lt att11_0_10) k_ hk, Kd.fresh' (Kd.R_lt (by exact toR_ (HO547.out))) k_ hk⟩))
          (case aO => exact att11_0_20)
          (case aS => exact (below_size att11_0_0))
          (case aL => have := LMc103.out; omega)
          intro v549 w164 ho hb hg hat
          rw [← Ny548.out] at ho
          have n0_ := Aside0.mk (blk_grown (g := gb362) (o := .cells #[.int .i64 a0_0, .int .i64 a0_1, .int .i64 a0_2, .int .i64 a0_3, .int .i64 a0_4] 37 (0, 0)) att11_0_1 hg (Kd.R_ne HO498.out BK362.out (by decide)))
          have n1_ := Aside0.mk (Kd.R_after (ok := (fun k_ => some k_ ≠ (.slice Ao127 y428.length co127 : Value).ownBlock ∧ some k_ ≠ (.slice Ao133 y444.length co133 : Value).ownBlock ∧ some k_ ≠ (.slice Ao136 t450.length co136 : Value).ownBlock ∧ some k_ ≠ (.slice Ao144 y471.length co144 : Value).ownBlock ∧ some k_ ≠ (.slice Ao147 t477.length co147 : Value).ownBlock ∧ some k_ ≠ (.slice Ao154 y493.length co154 : Value).ownBlock ∧ some k_ ≠ (.slice Ao165 y545.length co165 : Value).ownBlock)) att11_0_27 hg hat)
          have n2_ := Aside0.mk (Kd.R_after (ok := (fun k_ => some k_ ≠ (.slice Ao115 y382.length co115 : Value).ownBlock ∧ some k_ ≠ (.slice Ao133 y444.length co133 : Value).ownBlock ∧ some k_ ≠ (.slice Ao136 t450.length co136 : Value).ownBlock ∧ some k_ ≠ (.slice Ao144 y471.length co144 : Value).ownBlock ∧ some k_ ≠ (.slice Ao147 t477.length co147 : Value).ownBlock ∧ some k_ ≠ (.slice Ao154 y493.length co154 : Value).ownBlock ∧ some k_ ≠ (.slice Ao165 y545.length co165 : Value).ownBlock)) att11_0_26 hg hat)
          have n3_ := Aside0.mk (Kd.R_after (ok := (fun k_ => some k_ ≠ (.slice Ao115 y382.length co115 : Value).ownBlock ∧ some k_ ≠ (.slice Ao127 y428.length co127 : Value).ownBlock ∧ some k_ ≠ (.slice Ao136 t450.length co136 : Value).ownBlock ∧ some k_ ≠ (.slice Ao144 y471.length co144 : Value).ownBlock ∧ some k_ ≠ (.slice Ao147 t477.length co147 : Value).ownBlock ∧ some k_ ≠ (.slice Ao154 y493.length co154 : Value).ownBlock ∧ some k_ ≠ (.slice Ao165 y545.length co165 : Value).ownBlock)) att11_0_25 hg hat)
          have n4_ := Aside0.mk (Kd.R_after (ok := (fun k_ => some k_ ≠ (.slice Ao115 y382.length co115 : Value).ownBlock ∧ some k_ ≠ (.slice Ao127 y428.length co127 : Value).ownBlock ∧ some k_ ≠ (.slice Ao133 y444.length co133 : Value).ownBlock ∧ some k_ ≠ (.slice Ao144 y471.length co144 : Value).ownBlock ∧ some k_ ≠ (.slice Ao147 t477.length co147 : Value).ownBlock ∧ some k_ ≠ (.slice Ao154 y493.length co154 : Value).ownBlock ∧ some k_ ≠ (.slice Ao165 y545.length co165 : Value).ownBlock)) att11_0_24 hg hat)
          have n5_ := Aside0.mk (Kd.R_after (ok := (fun k_ => some k_ ≠ (.slice Ao115 y382.length co115 : Value).ownBlock ∧ some k_ ≠ (.slice Ao127 y428.length co127 : Value).ownBlock ∧ some k_ ≠ (.slice Ao133 y444.length co133 : Value).ownBlock ∧ some k_ ≠ (.slice Ao136 t450.length co136 : Value).ownBlock ∧ some k_ ≠ (.slice Ao147 t477.length co147 : Value).ownBlock ∧ some k_ ≠ (.slice Ao154 y493.length co154 : Value).ownBlock ∧ some k_ ≠ (.slice Ao165 y545.length co165 : Value).ownBlock)) att11_0_23 hg hat)
          have n6_ := Aside0.mk (Kd.R_after (ok := (fun k_ => some k_ ≠ (.slice Ao115 y382.length co115 : Value).ownBlock ∧ some k_ ≠ (.slice Ao127 y428.length co127 : Value).ownBlock ∧ some k_ ≠ (.slice Ao133 y444.length co133 : Value).ownBlock ∧ some k_ ≠ (.slice Ao136 t450.length co136 : Value).ownBlock ∧ some k_ ≠ (.slice Ao144 y471.length co144 : Value).ownBlock ∧ some k_ ≠ (.slice Ao154 y493.length co154 : Value).ownBlock ∧ some k_ ≠ (.slice Ao165 y545.length co165 : Value).ownBlock)) att11_0_22 hg hat)
          have n7_ := Aside0.mk (Kd.R_after (ok := (fun k_ => some k_ ≠ (.slice Ao115 y382.length co115 : Value).ownBlock ∧ some k_ ≠ (.slice Ao127 y428.length co127 : Value).ownBlock ∧ some k_ ≠ (.slice Ao133 y444.length co133 : Value).ownBlock ∧ some k_ ≠ (.slice Ao136 t450.length co136 : Value).ownBlock ∧ some k_ ≠ (.slice Ao144 y471.length co144 : Value).ownBlock ∧ some k_ ≠ (.slice Ao147 t477.length co147 : Value).ownBlock ∧ some k_ ≠ (.slice Ao165 y545.length co165 : Value).ownBlock)) att11_0_21 hg hat)
          have n8_ := Aside0.mk (Kd.R_after (ok := (fun k_ => some k_ ≠ (.slice Ao115 y382.length co115 : Value).ownBlock ∧ some k_ ≠ (.slice Ao127 y428.length co127 : Value).ownBlock ∧ some k_ ≠ (.slice Ao133 y444.length co133 : Value).ownBlock ∧ some k_ ≠ (.slice Ao136 t450.length co136 : Value).ownBlock ∧ some k_ ≠ (.slice Ao144 y471.length co144 : Value).ownBlock ∧ some k_ ≠ (.slice Ao147 t477.length co147 : Value).ownBlock ∧ some k_ ≠ (.slice Ao154 y493.length co154 : Value).ownBlock)) (by exact toR_ (Kd.R_mono HO547.out (fun _ hk => ⟨⟨hk.1.1.1.1.1.1.1.2, ⟨hk.1.1.1.1.1.1.2, ⟨hk.1.1.1.1.1.2, ⟨hk.1.1.1.1.2, ⟨hk.1.1.1.2, ⟨hk.1.1.2, hk.1.2⟩⟩⟩⟩⟩⟩, hk.2⟩))) hg hat)
          have n9_ := Aside0.mk (hb)
          have n10_ := Aside0.mk (ho)
          clear BK362
          clear HO384
          clear HO430
          clear HO446
          clear HO452
          clear HO473
          clear HO479
          clear HO495
          clear HO547
          clear HB
          clear HO498
          have BK362 := n0_
          have HO384 := n1_
          have HO430 := n2_
          have HO446 := n3_
          have HO452 := n4_
          have HO473 := n5_
          have HO479 := n6_
          have HO495 := n7_
          have HO547 := n8_
          have HB := n9_
          have HO550 := n10_
          clear n0_ n1_ n2_ n3_ n4_ n5_ n6_ n7_ n8_ n9_ n10_
          clear ho hb hg hat
          refine hK.out _ _ ⟨(blk_cell BK362.out 0).trans rfl, (blk_cell BK362.out 1).trans rfl, (blk_cell BK362.out 2).trans rfl, (blk_cell BK362.out 3).trans rfl, (blk_cell BK362.out 4).trans rfl⟩ (fun hHeld => ?_)
          clear hK K
          refine normS_ (N := some 115) (h := ?_)
          refine pureQ_ (i := 16) (N := some 8) (tf_ 17 0) (h := ?_)
          refine done_ (done_of HT_.out (by kernel_rfl)) ?_
          try go_wp2
          go_ret
          exact ⟨_, retT_, by exact toR_ (Kd.R_mono HO550.out (fun _ hk => trivial)), att11_0_0⟩
         ·rw [if_neg c103] at H
          exact absurd H (by simp)
       ·rw [if_neg c33] at H
        exact absurd H (by simp)
      ·rw [if_neg c30] at H
       exact absurd H (by simp)
     ·rw [if_neg c28] at H
      exact absurd H (by simp)
    ·rw [if_neg c24] at H
     exact absurd H (by simp)
   ·rw [if_neg c22] at H
    exact absurd H (by simp)
  ·rw [if_neg c19] at H
   exact absurd H (by simp)
 ·rw [if_neg c10] at H
  exact absurd H (by simp)

end Go.Proofs.Ytonlhgkpmjefkaa.XFnExactEmit
