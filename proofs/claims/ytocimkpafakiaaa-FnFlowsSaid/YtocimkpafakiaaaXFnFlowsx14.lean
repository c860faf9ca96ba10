/- Each Go function that the law reaches as a Lean function, and that Go comes to just its answer; written by this session's xprint.py over the kit's printer. -/
import Derived.Test.YtocimkpafakiaaaXFnFlowsx0
import Derived.Test.YtocimkpafakiaaaXFnFlowsx2
import Derived.Test.YtocimkpafakiaaaXFnFlowsx5
import Derived.Test.YtocimkpafakiaaaXFnFlowsx9
import Derived.Test.YtocimkpafakiaaaXFnFlowsx12
import Derived.Test.YtocimkpafakiaaaXFnFlowsx13
namespace Go.Proofs.Ytocimkpafakiaaa.XFnFlows
open Go.RowKit Go.Proofs.YtocimkpafakiaaaW.PrintWords Go.Proofs.YtocimkpafakiaaaW.PrintLast Go.Proofs.YtocimkpafakiaaaW.PrintMore
attribute [local go_sem] max2_int min2_int max_two min_two max_three min_three max_four min_four   -- for this text's walks alone
set_option linter.unusedVariables false
set_option linter.unusedSimpArgs false

theorem att15_0_0 {p : Prop} (h : p := by repeat (first | (with_reducible first | exact HB.out | apply below_alloc | apply pw_below_drewN | apply below_drew1) | exact HB.out)) : p := h
theorem att15_0_1 {p : Prop} (h : p := by (try simp only [List.map_toArray, List.map_cons, List.map_nil]); first | done | rfl | (simp only [List.length_drop, List.length_take]; rfl)) : p := h
theorem att15_0_2 {p : Prop} (h : p := by (with_reducible repeat (first | apply Kd.R_alloc | apply Kd.R_drewN | apply Kd.R_drew)); exact HO500.out) : p := h
theorem att15_0_3 {p : Prop} (h : p := by (with_reducible repeat (first | apply Kd.R_alloc | apply Kd.R_drewN | apply Kd.R_drew)); exact HO514.out) : p := h
theorem att15_0_4 {p : Prop} (h : p := by (with_reducible repeat (first | apply Kd.R_alloc | apply Kd.R_drewN | apply Kd.R_drew)); exact HO497.out) : p := h
theorem att15_0_5 {p : Prop} (h : p := by (with_reducible repeat (first | apply Kd.R_alloc | apply Kd.R_drewN | apply Kd.R_drew)); exact HO504.out) : p := h
theorem att15_0_6 {p : Prop} (h : p := by (with_reducible repeat (first | apply Kd.R_alloc | apply Kd.R_drewN | apply Kd.R_drew)); exact HO517.out) : p := h
theorem att15_0_7 {p : Prop} (h : p := by (with_reducible repeat (first | apply Kd.R_alloc | apply Kd.R_drewN | apply Kd.R_drew)); exact HO508.out) : p := h
theorem att15_0_8 {p : Prop} (h : p := by (with_reducible repeat (first | apply Kd.R_alloc | apply Kd.R_drewN | apply Kd.R_drew)); exact HO_11.out) : p := h
theorem att15_0_9 {p : Prop} (h : p := by (with_reducible repeat (first | apply Kd.R_alloc | apply Kd.R_drewN | apply Kd.R_drew)); exact HO511.out) : p := h
theorem att15_0_10 {p : Prop} (h : p := by (with_reducible repeat (first | apply Kd.R_alloc | apply Kd.R_drewN | apply Kd.R_drew)); exact HO_5.out) : p := h
theorem att15_0_11 {p : Prop} (h : p := by (with_reducible repeat (first | apply Kd.R_alloc | apply Kd.R_drewN | apply Kd.R_drew)); exact HO_10.out) : p := h
theorem att15_0_12 {p : Prop} (h : p := by (with_reducible repeat (first | apply Kd.R_alloc | apply Kd.R_drewN | apply Kd.R_drew)); exact HO_3.out) : p := h
theorem att15_0_13 {p : Prop} (h : p := by (with_reducible repeat (first | apply Kd.R_alloc | apply Kd.R_drewN | apply Kd.R_drew)); exact HO521.out) : p := h
theorem att15_0_14 {p : Prop} (h : p := by (with_reducible repeat (first | apply Kd.R_alloc | apply Kd.R_drewN | apply Kd.R_drew)); exact HO524.out) : p := h
theorem att15_0_15 {p : Prop} (h : p := by (with_reducible repeat (first | apply Kd.R_alloc | apply Kd.R_drewN | apply Kd.R_drew)); exact Kd.R_mono HO511.out (fun _ hk => hk.1.1.2)) : p := h
theorem att15_0_16 {p : Prop} (h : p := by (with_reducible repeat (first | apply Kd.R_alloc | apply Kd.R_drewN | apply Kd.R_drew)); exact Kd.R_mono HO497.out (fun _ hk => hk.2)) : p := h
theorem att15_0_17 {p : Prop} (h : p := by first | rfl | (simp; done) | (simp [*]; done)) : p := h
theorem att15_0_18 {p : Prop} (h : p := by first | (with_reducible assumption) | assumption) : p := h
theorem att15_0_19 {p : Prop} (h : p := by (with_reducible repeat (first | apply Kd.R_alloc | apply Kd.R_drewN | apply Kd.R_drew)); exact Kd.R_mono HO514.out (fun _ hk => hk.1.1.1.2)) : p := h
theorem att15_0_20 {p : Prop} (h : p := by (with_reducible repeat (first | apply Kd.R_alloc | apply Kd.R_drewN | apply Kd.R_drew)); exact Kd.R_mono HO500.out (fun _ hk => hk.1.1.1.2)) : p := h
theorem att15_0_21 {p : Prop} (h : p := by first | omega | exact Nat.le_refl _) : p := h
/-! ### laws_FnFlows: function 4 -/
mutual
def laws_FnFlows.j0 : Nat → List (S63) → Int → List Int → List (S63) → List Int → Bool → Option (Bool)
 | 0, _, _, _, _, _, _ => none
 | k + 1, x3, x4, x5, x10, x11, x70 => if x70 = true then (some false) else (laws_FnFlows.l0 k x3 x4 x5 x10 x11 0)
def laws_FnFlows.l0 : Nat → List (S63) → Int → List Int → List (S63) → List Int → Int → Option (Bool)
 | 0, _, _, _, _, _, _ => none
 | k + 1, x3, x4, x5, x10, x11, x12 => if x12 < (x5.length : Int) then (if 0 ≤ x12 then ((impl_NextOf.f k x3 (rd x5 x12)).bind fun t533 => (laws_FnFlows.l1 k x3 x4 x5 x10 x11 x12 t533 0)) else (none)) else ((impl_BodyOk.f k x10 3).bind fun t538 => (if t538 = true then ((impl_ReachOf.f k x10 0).bind fun t539 => (if (wrap64 ((x11.length : Int) + (t539.length : Int))) = (x10.length : Int) then (if (x5.length : Int) = 0 then (some true) else ((laws_within.f k x5 x4).bind fun t542 => (some t542))) else (some false))) else (if (x5.length : Int) = 0 then (some true) else ((laws_within.f k x5 x4).bind fun t543 => (some t543)))))
def laws_FnFlows.l1 : Nat → List (S63) → Int → List Int → List (S63) → List Int → Int → List Int → Int → Option (Bool)
 | 0, _, _, _, _, _, _, _, _ => none
 | k + 1, x3, x4, x5, x10, x11, x12, x13, x14 => if x14 < (x13.length : Int) then (if 0 ≤ x14 then ((laws_within.f k x5 (rd x13 x14)).bind fun t537 => (if t537 = true then (laws_FnFlows.l1 k x3 x4 x5 x10 x11 x12 x13 (wrap64 (x14 + 1))) else (some false))) else (none)) else (laws_FnFlows.l0 k x3 x4 x5 x10 x11 (wrap64 (x12 + 1)))
end
def laws_FnFlows.f (k : Nat) (l0 : List Int) : Option (Bool) := (laws_big.f l0).bind fun t493 => (if t493 = true then (some true) else ((spec_DrawReachOf.f k l0).bind fun bt494 => ((impl_ReachOf.f k bt494.1 bt494.2).bind fun t498 => ((spec_DrawNextOf.f k l0).bind fun bt501 => ((spec_DrawLoopsAt.f k l0).bind fun bt505 => ((spec_DrawUnreached.f k l0).bind fun t509 => ((impl_Unreached.f k t509).bind fun t512 => ((spec_ReachOf.f k bt494.1 bt494.2).bind fun t515 => ((laws_sameInts.f k t498 t515).bind fun t518 => (if t518 = true then ((impl_NextOf.f k bt501.1 bt501.2).bind fun t519 => ((spec_NextOf.f k bt501.1 bt501.2).bind fun t522 => ((laws_sameInts.f k t519 t522).bind fun t525 => (if t525 = true then ((impl_LoopsAt.f k bt505.1 bt505.2).bind fun t526 => ((spec_LoopsAt.f k bt505.1 bt505.2).bind fun t527 => (if (t526 != t527) = true then (laws_FnFlows.j0 k bt494.1 bt494.2 t498 t509 t512 true) else ((spec_Unreached.f k t509).bind fun t528 => ((laws_sameInts.f k t512 t528).bind fun t531 => (laws_FnFlows.j0 k bt494.1 bt494.2 t498 t509 t512 (!t531))))))) else (laws_FnFlows.j0 k bt494.1 bt494.2 t498 t509 t512 true))))) else (laws_FnFlows.j0 k bt494.1 bt494.2 t498 t509 t512 true)))))))))))
theorem laws_FnFlows.mono_l : ∀ k, (∀ y0 y1 y2 y3 y4 y5, LeO (laws_FnFlows.j0 k y0 y1 y2 y3 y4 y5) (laws_FnFlows.j0 (k + 1) y0 y1 y2 y3 y4 y5)) ∧ (∀ y0 y1 y2 y3 y4 y5, LeO (laws_FnFlows.l0 k y0 y1 y2 y3 y4 y5) (laws_FnFlows.l0 (k + 1) y0 y1 y2 y3 y4 y5)) ∧ (∀ y0 y1 y2 y3 y4 y5 y6 y7, LeO (laws_FnFlows.l1 k y0 y1 y2 y3 y4 y5 y6 y7) (laws_FnFlows.l1 (k + 1) y0 y1 y2 y3 y4 y5 y6 y7))
 | 0 => ⟨fun _ _ _ _ _ _ r h => by simp [laws_FnFlows.j0] at h, fun _ _ _ _ _ _ r h => by simp [laws_FnFlows.l0] at h, fun _ _ _ _ _ _ _ _ r h => by simp [laws_FnFlows.l1] at h⟩
 | k + 1 => by
  obtain ⟨ih0, ih1, ih2⟩ := laws_FnFlows.mono_l k
  refine ⟨?_, ?_, ?_⟩
  ·intro y0 y1 y2 y3 y4 y5
   unfold laws_FnFlows.j0
   repeat' first
   | (with_reducible exact ih0 _ _ _ _ _ _)
   | (with_reducible exact ih1 _ _ _ _ _ _)
   | (with_reducible exact ih2 _ _ _ _ _ _ _ _)
   | (with_reducible exact impl_BodyOk.mono _ _ _)
   | (with_reducible exact impl_LoopsAt.mono _ _ _)
   | (with_reducible exact impl_NextOf.mono _ _ _)
   | (with_reducible exact impl_ReachOf.mono _ _ _)
   | (with_reducible exact impl_Unreached.mono _ _)
   | (with_reducible exact laws_sameInts.mono _ _ _)
   | (with_reducible exact laws_within.mono _ _ _)
   | (with_reducible exact spec_DrawLoopsAt.mono _ _)
   | (with_reducible exact spec_DrawNextOf.mono _ _)
   | (with_reducible exact spec_DrawReachOf.mono _ _)
   | (with_reducible exact spec_DrawUnreached.mono _ _)
   | (with_reducible exact spec_LoopsAt.mono _ _ _)
   | (with_reducible exact spec_NextOf.mono _ _ _)
   | (with_reducible exact spec_ReachOf.mono _ _ _)
   | (with_reducible exact spec_Unreached.mono _ _)
   | (with_reducible exact LeO.refl _)
   | (with_reducible exact LeO.none _)
   | (with_reducible refine LeO.ite ?_ ?_)
   | (with_reducible refine LeO.bind ?_ (fun _ => ?_))
   | exact ih0 _ _ _ _ _ _
   | exact ih1 _ _ _ _ _ _
   | exact ih2 _ _ _ _ _ _ _ _
   | exact impl_BodyOk.mono _ _ _
   | exact impl_LoopsAt.mono _ _ _
   | exact impl_NextOf.mono _ _ _
   | exact impl_ReachOf.mono _ _ _
   | exact impl_Unreached.mono _ _
   | exact laws_sameInts.mono _ _ _
   | exact laws_within.mono _ _ _
   | exact spec_DrawLoopsAt.mono _ _
   | exact spec_DrawNextOf.mono _ _
   | exact spec_DrawReachOf.mono _ _
   | exact spec_DrawUnreached.mono _ _
   | exact spec_LoopsAt.mono _ _ _
   | exact spec_NextOf.mono _ _ _
   | exact spec_ReachOf.mono _ _ _
   | exact spec_Unreached.mono _ _
   | exact LeO.none _
   | refine LeO.ite ?_ ?_
   | refine LeO.bind ?_ (fun _ => ?_)
  ·intro y0 y1 y2 y3 y4 y5
   unfold laws_FnFlows.l0
   repeat' first
   | (with_reducible exact ih0 _ _ _ _ _ _)
   | (with_reducible exact ih1 _ _ _ _ _ _)
   | (with_reducible exact ih2 _ _ _ _ _ _ _ _)
   | (with_reducible exact impl_BodyOk.mono _ _ _)
   | (with_reducible exact impl_LoopsAt.mono _ _ _)
   | (with_reducible exact impl_NextOf.mono _ _ _)
   | (with_reducible exact impl_ReachOf.mono _ _ _)
   | (with_reducible exact impl_Unreached.mono _ _)
   | (with_reducible exact laws_sameInts.mono _ _ _)
   | (with_reducible exact laws_within.mono _ _ _)
   | (with_reducible exact spec_DrawLoopsAt.mono _ _)
   | (with_reducible exact spec_DrawNextOf.mono _ _)
   | (with_reducible exact spec_DrawReachOf.mono _ _)
   | (with_reducible exact spec_DrawUnreached.mono _ _)
   | (with_reducible exact spec_LoopsAt.mono _ _ _)
   | (with_reducible exact spec_NextOf.mono _ _ _)
   | (with_reducible exact spec_ReachOf.mono _ _ _)
   | (with_reducible exact spec_Unreached.mono _ _)
   | (with_reducible exact LeO.refl _)
   | (with_reducible exact LeO.none _)
   | (with_reducible refine LeO.ite ?_ ?_)
   | (with_reducible refine LeO.bind ?_ (fun _ => ?_))
   | exact ih0 _ _ _ _ _ _
   | exact ih1 _ _ _ _ _ _
   | exact ih2 _ _ _ _ _ _ _ _
   | exact impl_BodyOk.mono _ _ _
   | exact impl_LoopsAt.mono _ _ _
   | exact impl_NextOf.mono _ _ _
   | exact impl_ReachOf.mono _ _ _
   | exact impl_Unreached.mono _ _
   | exact laws_sameInts.mono _ _ _
   | exact laws_within.mono _ _ _
   | exact spec_DrawLoopsAt.mono _ _
   | exact spec_DrawNextOf.mono _ _
   | exact spec_DrawReachOf.mono _ _
   | exact spec_DrawUnreached.mono _ _
   | exact spec_LoopsAt.mono _ _ _
   | exact spec_NextOf.mono _ _ _
   | exact spec_ReachOf.mono _ _ _
   | exact spec_Unreached.mono _ _
   | exact LeO.none _
   | refine LeO.ite ?_ ?_
   | refine LeO.bind ?_ (fun _ => ?_)
  ·intro y0 y1 y2 y3 y4 y5 y6 y7
   unfold laws_FnFlows.l1
   repeat' first
   | (with_reducible exact ih0 _ _ _ _ _ _)
   | (with_reducible exact ih1 _ _ _ _ _ _)
   | (with_reducible exact ih2 _ _ _ _ _ _ _ _)
   | (with_reducible exact impl_BodyOk.mono _ _ _)
   | (with_reducible exact impl_LoopsAt.mono _ _ _)
   | (with_reducible exact impl_NextOf.mono _ _ _)
   | (with_reducible exact impl_ReachOf.mono _ _ _)
   | (with_reducible exact impl_Unreached.mono _ _)
   | (with_reducible exact laws_sameInts.mono _ _ _)
   | (with_reducible exact laws_within.mono _ _ _)
   | (with_reducible exact spec_DrawLoopsAt.mono _ _)
   | (with_reducible exact spec_DrawNextOf.mono _ _)
   | (with_reducible exact spec_DrawReachOf.mono _ _)
   | (with_reducible exact spec_DrawUnreached.mono _ _)
   | (with_reducible exact spec_LoopsAt.mono _ _ _)
   | (with_reducible exact spec_NextOf.mono _ _ _)
   | (with_reducible exact spec_ReachOf.mono _ _ _)
   | (with_reducible exact spec_Unreached.mono _ _)
   | (with_reducible exact LeO.refl _)
   | (with_reducible exact LeO.none _)
   | (with_reducible refine LeO.ite ?_ ?_)
   | (with_reducible refine LeO.bind ?_ (fun _ => ?_))
   | exact ih0 _ _ _ _ _ _
   | exact ih1 _ _ _ _ _ _
   | exact ih2 _ _ _ _ _ _ _ _
   | exact impl_BodyOk.mono _ _ _
   | exact impl_LoopsAt.mono _ _ _
   | exact impl_NextOf.mono _ _ _
   | exact impl_ReachOf.mono _ _ _
   | exact impl_Unreached.mono _ _
   | exact laws_sameInts.mono _ _ _
   | exact laws_within.mono _ _ _
   | exact spec_DrawLoopsAt.mono _ _
   | exact spec_DrawNextOf.mono _ _
   | exact spec_DrawReachOf.mono _ _
   | exact spec_DrawUnreached.mono _ _
   | exact spec_LoopsAt.mono _ _ _
   | exact spec_NextOf.mono _ _ _
   | exact spec_ReachOf.mono _ _ _
   | exact spec_Unreached.mono _ _
   | exact LeO.none _
   | refine LeO.ite ?_ ?_
   | refine LeO.bind ?_ (fun _ => ?_)
theorem laws_FnFlows.mono : ∀ a0 k, LeO (laws_FnFlows.f k a0) (laws_FnFlows.f (k + 1) a0) := by
 intro a0 k
 obtain ⟨ih0, ih1, ih2⟩ := laws_FnFlows.mono_l k
 unfold laws_FnFlows.f
 repeat' first
   | (with_reducible exact ih0 _ _ _ _ _ _)
   | (with_reducible exact ih1 _ _ _ _ _ _)
   | (with_reducible exact ih2 _ _ _ _ _ _ _ _)
   | (with_reducible exact impl_BodyOk.mono _ _ _)
   | (with_reducible exact impl_LoopsAt.mono _ _ _)
   | (with_reducible exact impl_NextOf.mono _ _ _)
   | (with_reducible exact impl_ReachOf.mono _ _ _)
   | (with_reducible exact impl_Unreached.mono _ _)
   | (with_reducible exact laws_sameInts.mono _ _ _)
   | (with_reducible exact laws_within.mono _ _ _)
   | (with_reducible exact spec_DrawLoopsAt.mono _ _)
   | (with_reducible exact spec_DrawNextOf.mono _ _)
   | (with_reducible exact spec_DrawReachOf.mono _ _)
   | (with_reducible exact spec_DrawUnreached.mono _ _)
   | (with_reducible exact spec_LoopsAt.mono _ _ _)
   | (with_reducible exact spec_NextOf.mono _ _ _)
   | (with_reducible exact spec_ReachOf.mono _ _ _)
   | (with_reducible exact spec_Unreached.mono _ _)
   | (with_reducible exact LeO.refl _)
   | (with_reducible exact LeO.none _)
   | (with_reducible refine LeO.ite ?_ ?_)
   | (with_reducible refine LeO.bind ?_ (fun _ => ?_))
   | exact ih0 _ _ _ _ _ _
   | exact ih1 _ _ _ _ _ _
   | exact ih2 _ _ _ _ _ _ _ _
   | exact impl_BodyOk.mono _ _ _
   | exact impl_LoopsAt.mono _ _ _
   | exact impl_NextOf.mono _ _ _
   | exact impl_ReachOf.mono _ _ _
   | exact impl_Unreached.mono _ _
   | exact laws_sameInts.mono _ _ _
   | exact laws_within.mono _ _ _
   | exact spec_DrawLoopsAt.mono _ _
   | exact spec_DrawNextOf.mono _ _
   | exact spec_DrawReachOf.mono _ _
   | exact spec_DrawUnreached.mono _ _
   | exact spec_LoopsAt.mono _ _ _
   | exact spec_NextOf.mono _ _ _
   | exact spec_ReachOf.mono _ _ _
   | exact spec_Unreached.mono _ _
   | exact LeO.none _
   | refine LeO.ite ?_ ?_
   | refine LeO.bind ?_ (fun _ => ?_)
set_option maxHeartbeats 80000000 in
set_option maxRecDepth 100000 in
theorem laws_FnFlows.calls (k : Nat) (A0 : Option Addr) (c0 : Nat) (l0 : List Int) (r : Bool) (w : World) (hr0 : Kd.C (Kd.int .u8) w A0 l0.length l0) (hc0 : l0.length ≤ c0) (h : laws_FnFlows.f k l0 = some r) :
  Calls Try.prog 4 #[.slice A0 l0.length c0] w fun e w' => e = .returned (.bool r) ∧ Below w.heap.size w w' := by
 have HR0 := Aside0.mk hr0
 have HC0 := Aside0.mk hc0
 clear hr0 hc0
 have HB := Aside0.mk (Below.refl w.heap.size w)
 have H : ((laws_big.f l0).bind fun t493 => (if t493 = true then (some true) else ((spec_DrawReachOf.f k l0).bind fun bt494 => ((impl_ReachOf.f k bt494.1 bt494.2).bind fun t498 => ((spec_DrawNextOf.f k l0).bind fun bt501 => ((spec_DrawLoopsAt.f k l0).bind fun bt505 => ((spec_DrawUnreached.f k l0).bind fun t509 => ((impl_Unreached.f k t509).bind fun t512 => ((spec_ReachOf.f k bt494.1 bt494.2).bind fun t515 => ((laws_sameInts.f k t498 t515).bind fun t518 => (if t518 = true then ((impl_NextOf.f k bt501.1 bt501.2).bind fun t519 => ((spec_NextOf.f k bt501.1 bt501.2).bind fun t522 => ((laws_sameInts.f k t519 t522).bind fun t525 => (if t525 = true then ((impl_LoopsAt.f k bt505.1 bt505.2).bind fun t526 => ((spec_LoopsAt.f k bt505.1 bt505.2).bind fun t527 => (if (t526 != t527) = true then (laws_FnFlows.j0 k bt494.1 bt494.2 t498 t509 t512 true) else ((spec_Unreached.f k t509).bind fun t528 => ((laws_sameInts.f k t512 t528).bind fun t531 => (laws_FnFlows.j0 k bt494.1 bt494.2 t498 t509 t512 (!t531))))))) else (laws_FnFlows.j0 k bt494.1 bt494.2 t498 t509 t512 true))))) else (laws_FnFlows.j0 k bt494.1 bt494.2 t498 t509 t512 true)))))))))))) = some r := h
 clear h
 replace H := Option.bind_eq_some_iff.mp H
 obtain ⟨t493, A20, H⟩ := H
 replace H : (if t493 = true then (some true) else ((spec_DrawReachOf.f k l0).bind fun bt494 => ((impl_ReachOf.f k bt494.1 bt494.2).bind fun t498 => ((spec_DrawNextOf.f k l0).bind fun bt501 => ((spec_DrawLoopsAt.f k l0).bind fun bt505 => ((spec_DrawUnreached.f k l0).bind fun t509 => ((impl_Unreached.f k t509).bind fun t512 => ((spec_ReachOf.f k bt494.1 bt494.2).bind fun t515 => ((laws_sameInts.f k t498 t515).bind fun t518 => (if t518 = true then ((impl_NextOf.f k bt501.1 bt501.2).bind fun t519 => ((spec_NextOf.f k bt501.1 bt501.2).bind fun t522 => ((laws_sameInts.f k t519 t522).bind fun t525 => (if t525 = true then ((impl_LoopsAt.f k bt505.1 bt505.2).bind fun t526 => ((spec_LoopsAt.f k bt505.1 bt505.2).bind fun t527 => (if (t526 != t527) = true then (laws_FnFlows.j0 k bt494.1 bt494.2 t498 t509 t512 true) else ((spec_Unreached.f k t509).bind fun t528 => ((laws_sameInts.f k t512 t528).bind fun t531 => (laws_FnFlows.j0 k bt494.1 bt494.2 t498 t509 t512 (!t531))))))) else (laws_FnFlows.j0 k bt494.1 bt494.2 t498 t509 t512 true))))) else (laws_FnFlows.j0 k bt494.1 bt494.2 t498 t509 t512 true))))))))))) = some r := H
 have A2 := Aside0.mk A20
 clear A20
 by_cases c3 : t493 = true
 ·subst c3
  have H1 : (some true) = some r := by rw [if_pos rfl] at H; exact H
  clear H
  have H := H1
  clear H1
  obtain rfl := Option.some.inj H
  go_enter Try.func4, Try.ntmps4
  go_wp2_with (first | ((with_reducible refine gate_callee (f := 19) rfl ?_); refine goesL_ (some 16) rfl rfl Try.func19 (by kernel_rfl) rfl #[.slice A0 l0.length c0] rfl att15_0_1 ?_; (with_reducible refine (laws_big.calls _ _ l0 true _ ?side1 ?side2 A2.out).mono ?_); (case side1 => repeat (first | exact HR0.out | (with_reducible refine Kd.C_alloc ?_ _) | (with_reducible refine Kd.C_drewN ?_ _) | (with_reducible refine Kd.C_drew ?_))); (case side2 => exact HC0.out); rintro e w' ⟨rfl, ⟨nd, rfl⟩⟩; refine ⟨_, rfl, ?_⟩))
  go_ret
  exact ⟨by first | rfl | (simp [errW_none, errW_some] <;> rfl) | (simp [*, errW_none, errW_some] <;> rfl), att15_0_0⟩
 ·replace c3 := Bool.eq_false_iff.mpr c3
  subst c3
  have H1 : ((spec_DrawReachOf.f k l0).bind fun bt494 => ((impl_ReachOf.f k bt494.1 bt494.2).bind fun t498 => ((spec_DrawNextOf.f k l0).bind fun bt501 => ((spec_DrawLoopsAt.f k l0).bind fun bt505 => ((spec_DrawUnreached.f k l0).bind fun t509 => ((impl_Unreached.f k t509).bind fun t512 => ((spec_ReachOf.f k bt494.1 bt494.2).bind fun t515 => ((laws_sameInts.f k t498 t515).bind fun t518 => (if t518 = true then ((impl_NextOf.f k bt501.1 bt501.2).bind fun t519 => ((spec_NextOf.f k bt501.1 bt501.2).bind fun t522 => ((laws_sameInts.f k t519 t522).bind fun t525 => (if t525 = true then ((impl_LoopsAt.f k bt505.1 bt505.2).bind fun t526 => ((spec_LoopsAt.f k bt505.1 bt505.2).bind fun t527 => (if (t526 != t527) = true then (laws_FnFlows.j0 k bt494.1 bt494.2 t498 t509 t512 true) else ((spec_Unreached.f k t509).bind fun t528 => ((laws_sameInts.f k t512 t528).bind fun t531 => (laws_FnFlows.j0 k bt494.1 bt494.2 t498 t509 t512 (!t531))))))) else (laws_FnFlows.j0 k bt494.1 bt494.2 t498 t509 t512 true))))) else (laws_FnFlows.j0 k bt494.1 bt494.2 t498 t509 t512 true)))))))))) = some r := by rw [if_neg (show ¬ (false = true) by decide)] at H; exact H
  clear H
  have H := H1
  clear H1
  replace H := Option.bind_eq_some_iff.mp H
  obtain ⟨⟨t494, t495⟩, A40, H⟩ := H
  replace H : ((impl_ReachOf.f k t494 t495).bind fun t498 => ((spec_DrawNextOf.f k l0).bind fun bt501 => ((spec_DrawLoopsAt.f k l0).bind fun bt505 => ((spec_DrawUnreached.f k l0).bind fun t509 => ((impl_Unreached.f k t509).bind fun t512 => ((spec_ReachOf.f k t494 t495).bind fun t515 => ((laws_sameInts.f k t498 t515).bind fun t518 => (if t518 = true then ((impl_NextOf.f k bt501.1 bt501.2).bind fun t519 => ((spec_NextOf.f k bt501.1 bt501.2).bind fun t522 => ((laws_sameInts.f k t519 t522).bind fun t525 => (if t525 = true then ((impl_LoopsAt.f k bt505.1 bt505.2).bind fun t526 => ((spec_LoopsAt.f k bt505.1 bt505.2).bind fun t527 => (if (t526 != t527) = true then (laws_FnFlows.j0 k t494 t495 t498 t509 t512 true) else ((spec_Unreached.f k t509).bind fun t528 => ((laws_sameInts.f k t512 t528).bind fun t531 => (laws_FnFlows.j0 k t494 t495 t498 t509 t512 (!t531))))))) else (laws_FnFlows.j0 k t494 t495 t498 t509 t512 true))))) else (laws_FnFlows.j0 k t494 t495 t498 t509 t512 true))))))))) = some r := H
  have A4 := Aside0.mk A40
  clear A40
  replace H := Option.bind_eq_some_iff.mp H
  obtain ⟨t498, A50, H⟩ := H
  replace H : ((spec_DrawNextOf.f k l0).bind fun bt501 => ((spec_DrawLoopsAt.f k l0).bind fun bt505 => ((spec_DrawUnreached.f k l0).bind fun t509 => ((impl_Unreached.f k t509).bind fun t512 => ((spec_ReachOf.f k t494 t495).bind fun t515 => ((laws_sameInts.f k t498 t515).bind fun t518 => (if t518 = true then ((impl_NextOf.f k bt501.1 bt501.2).bind fun t519 => ((spec_NextOf.f k bt501.1 bt501.2).bind fun t522 => ((laws_sameInts.f k t519 t522).bind fun t525 => (if t525 = true then ((impl_LoopsAt.f k bt505.1 bt505.2).bind fun t526 => ((spec_LoopsAt.f k bt505.1 bt505.2).bind fun t527 => (if (t526 != t527) = true then (laws_FnFlows.j0 k t494 t495 t498 t509 t512 true) else ((spec_Unreached.f k t509).bind fun t528 => ((laws_sameInts.f k t512 t528).bind fun t531 => (laws_FnFlows.j0 k t494 t495 t498 t509 t512 (!t531))))))) else (laws_FnFlows.j0 k t494 t495 t498 t509 t512 true))))) else (laws_FnFlows.j0 k t494 t495 t498 t509 t512 true)))))))) = some r := H
  have A5 := Aside0.mk A50
  clear A50
  replace H := Option.bind_eq_some_iff.mp H
  obtain ⟨⟨t501, t502⟩, A60, H⟩ := H
  replace H : ((spec_DrawLoopsAt.f k l0).bind fun bt505 => ((spec_DrawUnreached.f k l0).bind fun t509 => ((impl_Unreached.f k t509).bind fun t512 => ((spec_ReachOf.f k t494 t495).bind fun t515 => ((laws_sameInts.f k t498 t515).bind fun t518 => (if t518 = true then ((impl_NextOf.f k t501 t502).bind fun t519 => ((spec_NextOf.f k t501 t502).bind fun t522 => ((laws_sameInts.f k t519 t522).bind fun t525 => (if t525 = true then ((impl_LoopsAt.f k bt505.1 bt505.2).bind fun t526 => ((spec_LoopsAt.f k bt505.1 bt505.2).bind fun t527 => (if (t526 != t527) = true then (laws_FnFlows.j0 k t494 t495 t498 t509 t512 true) else ((spec_Unreached.f k t509).bind fun t528 => ((laws_sameInts.f k t512 t528).bind fun t531 => (laws_FnFlows.j0 k t494 t495 t498 t509 t512 (!t531))))))) else (laws_FnFlows.j0 k t494 t495 t498 t509 t512 true))))) else (laws_FnFlows.j0 k t494 t495 t498 t509 t512 true))))))) = some r := H
  have A6 := Aside0.mk A60
  clear A60
  replace H := Option.bind_eq_some_iff.mp H
  obtain ⟨⟨t505, t506⟩, A70, H⟩ := H
  replace H : ((spec_DrawUnreached.f k l0).bind fun t509 => ((impl_Unreached.f k t509).bind fun t512 => ((spec_ReachOf.f k t494 t495).bind fun t515 => ((laws_sameInts.f k t498 t515).bind fun t518 => (if t518 = true then ((impl_NextOf.f k t501 t502).bind fun t519 => ((spec_NextOf.f k t501 t502).bind fun t522 => ((laws_sameInts.f k t519 t522).bind fun t525 => (if t525 = true then ((impl_LoopsAt.f k t505 t506).bind fun t526 => ((spec_LoopsAt.f k t505 t506).bind fun t527 => (if (t526 != t527) = true then (laws_FnFlows.j0 k t494 t495 t498 t509 t512 true) else ((spec_Unreached.f k t509).bind fun t528 => ((laws_sameInts.f k t512 t528).bind fun t531 => (laws_FnFlows.j0 k t494 t495 t498 t509 t512 (!t531))))))) else (laws_FnFlows.j0 k t494 t495 t498 t509 t512 true))))) else (laws_FnFlows.j0 k t494 t495 t498 t509 t512 true)))))) = some r := H
  have A7 := Aside0.mk A70
  clear A70
  replace H := Option.bind_eq_some_iff.mp H
  obtain ⟨t509, A80, H⟩ := H
  replace H : ((impl_Unreached.f k t509).bind fun t512 => ((spec_ReachOf.f k t494 t495).bind fun t515 => ((laws_sameInts.f k t498 t515).bind fun t518 => (if t518 = true then ((impl_NextOf.f k t501 t502).bind fun t519 => ((spec_NextOf.f k t501 t502).bind fun t522 => ((laws_sameInts.f k t519 t522).bind fun t525 => (if t525 = true then ((impl_LoopsAt.f k t505 t506).bind fun t526 => ((spec_LoopsAt.f k t505 t506).bind fun t527 => (if (t526 != t527) = true then (laws_FnFlows.j0 k t494 t495 t498 t509 t512 true) else ((spec_Unreached.f k t509).bind fun t528 => ((laws_sameInts.f k t512 t528).bind fun t531 => (laws_FnFlows.j0 k t494 t495 t498 t509 t512 (!t531))))))) else (laws_FnFlows.j0 k t494 t495 t498 t509 t512 true))))) else (laws_FnFlows.j0 k t494 t495 t498 t509 t512 true))))) = some r := H
  have A8 := Aside0.mk A80
  clear A80
  replace H := Option.bind_eq_some_iff.mp H
  obtain ⟨t512, A90, H⟩ := H
  replace H : ((spec_ReachOf.f k t494 t495).bind fun t515 => ((laws_sameInts.f k t498 t515).bind fun t518 => (if t518 = true then ((impl_NextOf.f k t501 t502).bind fun t519 => ((spec_NextOf.f k t501 t502).bind fun t522 => ((laws_sameInts.f k t519 t522).bind fun t525 => (if t525 = true then ((impl_LoopsAt.f k t505 t506).bind fun t526 => ((spec_LoopsAt.f k t505 t506).bind fun t527 => (if (t526 != t527) = true then (laws_FnFlows.j0 k t494 t495 t498 t509 t512 true) else ((spec_Unreached.f k t509).bind fun t528 => ((laws_sameInts.f k t512 t528).bind fun t531 => (laws_FnFlows.j0 k t494 t495 t498 t509 t512 (!t531))))))) else (laws_FnFlows.j0 k t494 t495 t498 t509 t512 true))))) else (laws_FnFlows.j0 k t494 t495 t498 t509 t512 true)))) = some r := H
  have A9 := Aside0.mk A90
  clear A90
  have HC10 := Aside0.mk H
  clear H
  go_enter Try.func4, Try.ntmps4
  go_upto_region 9 with (first | ((with_reducible refine gate_callee (f := 19) rfl ?_); refine goesL_ (some 16) rfl rfl Try.func19 (by kernel_rfl) rfl #[.slice A0 l0.length c0] rfl att15_0_1 ?_; (with_reducible refine (laws_big.calls _ _ l0 false _ ?side1 ?side2 A2.out).mono ?_); (case side1 => repeat (first | exact HR0.out | (with_reducible refine Kd.C_alloc ?_ _) | (with_reducible refine Kd.C_drewN ?_ _) | (with_reducible refine Kd.C_drew ?_))); (case side2 => exact HC0.out); rintro e w' ⟨rfl, ⟨nd, rfl⟩⟩; refine ⟨_, rfl, ?_⟩) | ((with_reducible refine gate_callee (f := 20) rfl ?_); refine goesL_ (some 19) rfl rfl Try.func20 (by kernel_rfl) rfl #[.slice A0 l0.length c0] rfl att15_0_1 ?_; (with_reducible refine (spec_DrawReachOf.calls k _ _ l0 t494 t495 _ ?side1 ?side2 A4.out).mono ?_); (case side1 => repeat (first | exact HR0.out | (with_reducible refine Kd.C_alloc ?_ _) | (with_reducible refine Kd.C_drewN ?_ _) | (with_reducible refine Kd.C_drew ?_))); (case side2 => exact HC0.out); rintro e w11 ⟨v496, rfl, ho0, hb⟩; refine ⟨_, rfl, ?_⟩; have n0_ := Aside0.mk (Kd.R_lower ho0 (below_size att15_0_0)); have n1_ := Aside0.mk (below_step att15_0_0 hb); clear HB; have HO497 := n0_; have HB := n1_; clear n0_ n1_; (try clear hb); (try clear hb2); (try clear hk); (try clear hi); (try clear ho0); obtain ⟨Ao12, co12, eo12⟩ := Kd.R_slice HO497.out; subst eo12) | ((with_reducible refine gate_callee (f := 21) rfl ?_); refine goesL_ (some 24) rfl rfl Try.func21 (by kernel_rfl) rfl #[.slice Ao12 t494.length co12, .int .i64 t495] rfl att15_0_1 ?_; (with_reducible refine (impl_ReachOf.calls k _ _ t494 t495 t498 _ ?side1 ?side2 A5.out).mono ?_); (case side1 => repeat (first | exact (Kd.R_reads' HO497.out).2.2 | (with_reducible refine Kd.C_alloc ?_ _) | (with_reducible refine Kd.C_drewN ?_ _) | (with_reducible refine Kd.C_drew ?_))); (case side2 => exact (Kd.R_reads' HO497.out).2.1); rintro e w13 ⟨v499, rfl, ho0, hb⟩; refine ⟨_, rfl, ?_⟩; have n0_ := Aside0.mk (Kd.R_below att15_0_4 hb); have n1_ := Aside0.mk (Kd.R_lower ho0 (below_size att15_0_0)); have n2_ := Aside0.mk (below_step att15_0_0 hb); clear HO497; clear HB; have HO497 := n0_; have HO500 := n1_; have HB := n2_; clear n0_ n1_ n2_; (try clear hb); (try clear hb2); (try clear hk); (try clear hi); (try clear ho0)) | ((with_reducible refine gate_callee (f := 22) rfl ?_); refine goesL_ (some 27) rfl rfl Try.func22 (by kernel_rfl) rfl #[.slice A0 l0.length c0] rfl att15_0_1 ?_; (with_reducible refine (spec_DrawNextOf.calls k _ _ l0 t501 t502 _ ?side1 ?side2 A6.out).mono ?_); (case side1 => repeat (first | exact (Kd.C_below HR0.out HB.out) | (with_reducible refine Kd.C_alloc ?_ _) | (with_reducible refine Kd.C_drewN ?_ _) | (with_reducible refine Kd.C_drew ?_))); (case side2 => exact HC0.out); rintro e w14 ⟨v503, rfl, ho0, hb⟩; refine ⟨_, rfl, ?_⟩; have n0_ := Aside0.mk (Kd.R_elder' att15_0_4 (Kd.R_base ho0) hb); have n1_ := Aside0.mk (Kd.R_below att15_0_2 hb); have n2_ := Aside0.mk (Kd.R_lower (Kd.R_new' ho0 (Kd.R_lt att15_0_4)) (below_size att15_0_0)); have n3_ := Aside0.mk (below_step att15_0_0 hb); clear HO497; clear HO500; clear HB; have HO497 := n0_; have HO500 := n1_; have HO504 := n2_; have HB := n3_; clear n0_ n1_ n2_ n3_; (try clear hb); (try clear hb2); (try clear hk); (try clear hi); (try clear ho0)) | ((with_reducible refine gate_callee (f := 23) rfl ?_); refine goesL_ (some 32) rfl rfl Try.func23 (by kernel_rfl) rfl #[.slice A0 l0.length c0] rfl att15_0_1 ?_; (with_reducible refine (spec_DrawLoopsAt.calls k _ _ l0 t505 t506 _ ?side1 ?side2 A7.out).mono ?_); (case side1 => repeat (first | exact (Kd.C_below HR0.out HB.out) | (with_reducible refine Kd.C_alloc ?_ _) | (with_reducible refine Kd.C_drewN ?_ _) | (with_reducible refine Kd.C_drew ?_))); (case side2 => exact HC0.out); rintro e w15 ⟨v507, rfl, ho0, hb⟩; refine ⟨_, rfl, ?_⟩; have n0_ := Aside0.mk (Kd.R_elder' att15_0_4 (Kd.R_base ho0) hb); have n1_ := Aside0.mk (Kd.R_below att15_0_2 hb); have n2_ := Aside0.mk (Kd.R_elder' att15_0_5 (Kd.R_base ho0) hb); have n3_ := Aside0.mk (Kd.R_lower (Kd.R_new' (Kd.R_new' ho0 (Kd.R_lt att15_0_4)) (Kd.R_lt att15_0_5)) (below_size att15_0_0)); have n4_ := Aside0.mk (below_step att15_0_0 hb); clear HO497; clear HO500; clear HO504; clear HB; have HO497 := n0_; have HO500 := n1_; have HO504 := n2_; have HO508 := n3_; have HB := n4_; clear n0_ n1_ n2_ n3_ n4_; (try clear hb); (try clear hb2); (try clear hk); (try clear hi); (try clear ho0)) | ((with_reducible refine gate_callee (f := 24) rfl ?_); refine goesL_ (some 36) rfl rfl Try.func24 (by kernel_rfl) rfl #[.slice A0 l0.length c0] rfl att15_0_1 ?_; (with_reducible refine (spec_DrawUnreached.calls k _ _ l0 t509 _ ?side1 ?side2 A8.out).mono ?_); (case side1 => repeat (first | exact (Kd.C_below HR0.out HB.out) | (with_reducible refine Kd.C_alloc ?_ _) | (with_reducible refine Kd.C_drewN ?_ _) | (with_reducible refine Kd.C_drew ?_))); (case side2 => exact HC0.out); rintro e w16 ⟨v510, rfl, ho0, hb⟩; refine ⟨_, rfl, ?_⟩; have n0_ := Aside0.mk (Kd.R_elder' att15_0_4 (Kd.R_base ho0) hb); have n1_ := Aside0.mk (Kd.R_below att15_0_2 hb); have n2_ := Aside0.mk (Kd.R_elder' att15_0_5 (Kd.R_base ho0) hb); have n3_ := Aside0.mk (Kd.R_elder' att15_0_7 (Kd.R_base ho0) hb); have n4_ := Aside0.mk (Kd.R_lower (Kd.R_new' (Kd.R_new' (Kd.R_new' ho0 (Kd.R_lt att15_0_4)) (Kd.R_lt att15_0_5)) (Kd.R_lt att15_0_7)) (below_size att15_0_0)); have n5_ := Aside0.mk (below_step att15_0_0 hb); clear HO497; clear HO500; clear HO504; clear HO508; clear HB; have HO497 := n0_; have HO500 := n1_; have HO504 := n2_; have HO508 := n3_; have HO511 := n4_; have HB := n5_; clear n0_ n1_ n2_ n3_ n4_ n5_; (try clear hb); (try clear hb2); (try clear hk); (try clear hi); (try clear ho0); obtain ⟨Ao17, co17, eo17⟩ := Kd.R_slice HO511.out; subst eo17) | ((with_reducible refine gate_callee (f := 25) rfl ?_); refine goesL_ (some 38) rfl rfl Try.func25 (by kernel_rfl) rfl #[.slice Ao17 t509.length co17] rfl att15_0_1 ?_; (with_reducible refine (impl_Unreached.calls k _ _ t509 t512 _ ?side1 ?side2 A9.out).mono ?_); (case side1 => repeat (first | exact (Kd.R_reads' HO511.out).2.2 | (with_reducible refine Kd.C_alloc ?_ _) | (with_reducible refine Kd.C_drewN ?_ _) | (with_reducible refine Kd.C_drew ?_))); (case side2 => exact (Kd.R_reads' HO511.out).2.1); rintro e w18 ⟨v513, rfl, ho0, hb⟩; refine ⟨_, rfl, ?_⟩; have n0_ := Aside0.mk (Kd.R_below att15_0_4 hb); have n1_ := Aside0.mk (Kd.R_elder' att15_0_2 (Kd.R_base ho0) hb); have n2_ := Aside0.mk (Kd.R_below att15_0_5 hb); have n3_ := Aside0.mk (Kd.R_below att15_0_7 hb); have n4_ := Aside0.mk (Kd.R_below att15_0_9 hb); have n5_ := Aside0.mk (Kd.R_lower (Kd.R_new' ho0 (Kd.R_lt att15_0_2)) (below_size att15_0_0)); have n6_ := Aside0.mk (below_step att15_0_0 hb); clear HO497; clear HO500; clear HO504; clear HO508; clear HO511; clear HB; have HO497 := n0_; have HO500 := n1_; have HO504 := n2_; have HO508 := n3_; have HO511 := n4_; have HO514 := n5_; have HB := n6_; clear n0_ n1_ n2_ n3_ n4_ n5_ n6_; (try clear hb); (try clear hb2); (try clear hk); (try clear hi); (try clear ho0)))
  (try simp only [Act.put, List.setIfInBounds_toArray, List.set_cons_zero, List.set_cons_succ])
  go_cut [70] (fun v70 wc => ∃ (kq : Nat) (x70_9 : Bool), v70 = .bool x70_9 ∧ Aside0 (laws_FnFlows.j0 kq t494 t495 t498 t509 t512 x70_9 = some r) ∧ Aside0 (kq ≤ k) ∧ Aside0 (Kd.R k63 63 wc w.heap.size (fun k_ => some k_ ≠ ((.slice Ao17 t509.length co17) : Value).ownBlock) (.slice Ao12 t494.length co12) t494) ∧ Aside0 (Kd.R (Kd.int .i64) 3 wc w.heap.size (fun k_ => some k_ ≠ (v513 : Value).ownBlock) v499 t498) ∧ Aside0 (Kd.R k63 63 wc w.heap.size (fun k_ => some k_ ≠ ((.slice Ao12 t494.length co12) : Value).ownBlock) (.slice Ao17 t509.length co17) t509) ∧ Aside0 (Kd.R (Kd.int .i64) 3 wc w.heap.size (fun k_ => some k_ ≠ (v499 : Value).ownBlock) v513 t512) ∧ Aside0 (Below w.heap.size w wc))
  case first =>
   have H := HC10.out
   clear HC10
   replace H := Option.bind_eq_some_iff.mp H
   obtain ⟨t515, A190, H⟩ := H
   replace H : ((laws_sameInts.f k t498 t515).bind fun t518 => (if t518 = true then ((impl_NextOf.f k t501 t502).bind fun t519 => ((spec_NextOf.f k t501 t502).bind fun t522 => ((laws_sameInts.f k t519 t522).bind fun t525 => (if t525 = true then ((impl_LoopsAt.f k t505 t506).bind fun t526 => ((spec_LoopsAt.f k t505 t506).bind fun t527 => (if (t526 != t527) = true then (laws_FnFlows.j0 k t494 t495 t498 t509 t512 true) else ((spec_Unreached.f k t509).bind fun t528 => ((laws_sameInts.f k t512 t528).bind fun t531 => (laws_FnFlows.j0 k t494 t495 t498 t509 t512 (!t531))))))) else (laws_FnFlows.j0 k t494 t495 t498 t509 t512 true))))) else (laws_FnFlows.j0 k t494 t495 t498 t509 t512 true))) = some r := H
   have A19 := Aside0.mk A190
   clear A190
   replace H := Option.bind_eq_some_iff.mp H
   obtain ⟨t518, A200, H⟩ := H
   replace H : (if t518 = true then ((impl_NextOf.f k t501 t502).bind fun t519 => ((spec_NextOf.f k t501 t502).bind fun t522 => ((laws_sameInts.f k t519 t522).bind fun t525 => (if t525 = true then ((impl_LoopsAt.f k t505 t506).bind fun t526 => ((spec_LoopsAt.f k t505 t506).bind fun t527 => (if (t526 != t527) = true then (laws_FnFlows.j0 k t494 t495 t498 t509 t512 true) else ((spec_Unreached.f k t509).bind fun t528 => ((laws_sameInts.f k t512 t528).bind fun t531 => (laws_FnFlows.j0 k t494 t495 t498 t509 t512 (!t531))))))) else (laws_FnFlows.j0 k t494 t495 t498 t509 t512 true))))) else (laws_FnFlows.j0 k t494 t495 t498 t509 t512 true)) = some r := H
   have A20 := Aside0.mk A200
   clear A200
   by_cases c21 : t518 = true
   ·subst c21
    have H1 : ((impl_NextOf.f k t501 t502).bind fun t519 => ((spec_NextOf.f k t501 t502).bind fun t522 => ((laws_sameInts.f k t519 t522).bind fun t525 => (if t525 = true then ((impl_LoopsAt.f k t505 t506).bind fun t526 => ((spec_LoopsAt.f k t505 t506).bind fun t527 => (if (t526 != t527) = true then (laws_FnFlows.j0 k t494 t495 t498 t509 t512 true) else ((spec_Unreached.f k t509).bind fun t528 => ((laws_sameInts.f k t512 t528).bind fun t531 => (laws_FnFlows.j0 k t494 t495 t498 t509 t512 (!t531))))))) else (laws_FnFlows.j0 k t494 t495 t498 t509 t512 true))))) = some r := by rw [if_pos rfl] at H; exact H
    clear H
    have H := H1
    clear H1
    replace H := Option.bind_eq_some_iff.mp H
    obtain ⟨t519, A220, H⟩ := H
    replace H : ((spec_NextOf.f k t501 t502).bind fun t522 => ((laws_sameInts.f k t519 t522).bind fun t525 => (if t525 = true then ((impl_LoopsAt.f k t505 t506).bind fun t526 => ((spec_LoopsAt.f k t505 t506).bind fun t527 => (if (t526 != t527) = true then (laws_FnFlows.j0 k t494 t495 t498 t509 t512 true) else ((spec_Unreached.f k t509).bind fun t528 => ((laws_sameInts.f k t512 t528).bind fun t531 => (laws_FnFlows.j0 k t494 t495 t498 t509 t512 (!t531))))))) else (laws_FnFlows.j0 k t494 t495 t498 t509 t512 true)))) = some r := H
    have A22 := Aside0.mk A220
    clear A220
    replace H := Option.bind_eq_some_iff.mp H
    obtain ⟨t522, A230, H⟩ := H
    replace H : ((laws_sameInts.f k t519 t522).bind fun t525 => (if t525 = true then ((impl_LoopsAt.f k t505 t506).bind fun t526 => ((spec_LoopsAt.f k t505 t506).bind fun t527 => (if (t526 != t527) = true then (laws_FnFlows.j0 k t494 t495 t498 t509 t512 true) else ((spec_Unreached.f k t509).bind fun t528 => ((laws_sameInts.f k t512 t528).bind fun t531 => (laws_FnFlows.j0 k t494 t495 t498 t509 t512 (!t531))))))) else (laws_FnFlows.j0 k t494 t495 t498 t509 t512 true))) = some r := H
    have A23 := Aside0.mk A230
    clear A230
    replace H := Option.bind_eq_some_iff.mp H
    obtain ⟨t525, A240, H⟩ := H
    replace H : (if t525 = true then ((impl_LoopsAt.f k t505 t506).bind fun t526 => ((spec_LoopsAt.f k t505 t506).bind fun t527 => (if (t526 != t527) = true then (laws_FnFlows.j0 k t494 t495 t498 t509 t512 true) else ((spec_Unreached.f k t509).bind fun t528 => ((laws_sameInts.f k t512 t528).bind fun t531 => (laws_FnFlows.j0 k t494 t495 t498 t509 t512 (!t531))))))) else (laws_FnFlows.j0 k t494 t495 t498 t509 t512 true)) = some r := H
    have A24 := Aside0.mk A240
    clear A240
    by_cases c25 : t525 = true
    ·subst c25
     have H1 : ((impl_LoopsAt.f k t505 t506).bind fun t526 => ((spec_LoopsAt.f k t505 t506).bind fun t527 => (if (t526 != t527) = true then (laws_FnFlows.j0 k t494 t495 t498 t509 t512 true) else ((spec_Unreached.f k t509).bind fun t528 => ((laws_sameInts.f k t512 t528).bind fun t531 => (laws_FnFlows.j0 k t494 t495 t498 t509 t512 (!t531))))))) = some r := by rw [if_pos rfl] at H; exact H
     clear H
     have H := H1
     clear H1
     replace H := Option.bind_eq_some_iff.mp H
     obtain ⟨t526, A260, H⟩ := H
     replace H : ((spec_LoopsAt.f k t505 t506).bind fun t527 => (if (t526 != t527) = true then (laws_FnFlows.j0 k t494 t495 t498 t509 t512 true) else ((spec_Unreached.f k t509).bind fun t528 => ((laws_sameInts.f k t512 t528).bind fun t531 => (laws_FnFlows.j0 k t494 t495 t498 t509 t512 (!t531)))))) = some r := H
     have A26 := Aside0.mk A260
     clear A260
     replace H := Option.bind_eq_some_iff.mp H
     obtain ⟨t527, A270, H⟩ := H
     replace H : (if (t526 != t527) = true then (laws_FnFlows.j0 k t494 t495 t498 t509 t512 true) else ((spec_Unreached.f k t509).bind fun t528 => ((laws_sameInts.f k t512 t528).bind fun t531 => (laws_FnFlows.j0 k t494 t495 t498 t509 t512 (!t531))))) = some r := H
     have A27 := Aside0.mk A270
     clear A270
     by_cases c28 : (t526 != t527) = true
     ·rw [if_pos c28] at H
      have c28b0 : (t526 != t527) = true := c28
      (try (have c28b1 : decide (t526 = t527) = false := by simpa using c28))
      (try (have c28b2 : (t526 == t527) = false := by simpa using c28))
      (try (have c28b3 : ¬ (t526 = t527) := by simpa using c28))
      clear c28
      (first | rw [c28b0] | (simp only [i64_w, i32_w]; rw [c28b0]) | skip)
      have H' := Aside0.mk H
      clear H
      go_wp2_with (first | ((with_reducible refine gate_callee (f := 27) rfl ?_); refine goesL_ (some 42) rfl rfl Try.func27 (by kernel_rfl) rfl #[.slice Ao12 t494.length co12, .int .i64 t495] rfl att15_0_1 ?_; (with_reducible refine (spec_ReachOf.calls k _ _ t494 t495 t515 _ ?side1 ?side2 A19.out).mono ?_); (case side1 => repeat (first | exact (Kd.R_reads' HO497.out).2.2 | (with_reducible refine Kd.C_alloc ?_ _) | (with_reducible refine Kd.C_drewN ?_ _) | (with_reducible refine Kd.C_drew ?_))); (case side2 => exact (Kd.R_reads' HO497.out).2.1); rintro e w29 ⟨v516, rfl, ho0, hb⟩; refine ⟨_, rfl, ?_⟩; have n0_ := Aside0.mk (Kd.R_below att15_0_4 hb); have n1_ := Aside0.mk (Kd.R_elder' att15_0_2 (Kd.R_base ho0) hb); have n2_ := Aside0.mk (Kd.R_below att15_0_5 hb); have n3_ := Aside0.mk (Kd.R_below att15_0_7 hb); have n4_ := Aside0.mk (Kd.R_below att15_0_9 hb); have n5_ := Aside0.mk (Kd.R_elder' att15_0_3 (Kd.R_base ho0) hb); have n6_ := Aside0.mk (Kd.R_lower (Kd.R_new' (Kd.R_new' ho0 (Kd.R_lt att15_0_2)) (Kd.R_lt att15_0_3)) (below_size att15_0_0)); have n7_ := Aside0.mk (below_step att15_0_0 hb); clear HO497; clear HO500; clear HO504; clear HO508; clear HO511; clear HO514; clear HB; have HO497 := n0_; have HO500 := n1_; have HO504 := n2_; have HO508 := n3_; have HO511 := n4_; have HO514 := n5_; have HO517 := n6_; have HB := n7_; clear n0_ n1_ n2_ n3_ n4_ n5_ n6_ n7_; (try clear hb); (try clear hb2); (try clear hk); (try clear hi); (try clear ho0); obtain ⟨Ao30, co30, eo30⟩ := Kd.R_slice HO500.out; subst eo30; obtain ⟨Ao31, co31, eo31⟩ := Kd.R_slice HO517.out; subst eo31) | ((with_reducible refine gate_callee (f := 26) rfl ?_); refine goesL_ (some 43) rfl rfl Try.func26 (by kernel_rfl) rfl #[.slice Ao30 t498.length co30, .slice Ao31 t515.length co31] rfl att15_0_1 ?_; (with_reducible refine (laws_sameInts.calls k _ _ t498 _ _ t515 true _ ?side1 ?side2 ?side3 ?side4 A20.out).mono ?_); (case side1 => repeat (first | exact (Kd.R_reads' HO500.out).2.2 | (with_reducible refine Kd.C_alloc ?_ _) | (with_reducible refine Kd.C_drewN ?_ _) | (with_reducible refine Kd.C_drew ?_))); (case side2 => exact (Kd.R_reads' HO500.out).2.1); (case side3 => repeat (first | exact (Kd.R_reads' HO517.out).2.2 | (with_reducible refine Kd.C_alloc ?_ _) | (with_reducible refine Kd.C_drewN ?_ _) | (with_reducible refine Kd.C_drew ?_))); (case side4 => exact (Kd.R_reads' HO517.out).2.1); rintro e w' ⟨rfl, ⟨nd, rfl⟩⟩; refine ⟨_, rfl, ?_⟩; obtain ⟨Ao32, co32, eo32⟩ := Kd.R_slice HO504.out; subst eo32) | (go_at_call 28; (with_reducible refine (impl_NextOf.calls k _ _ t501 t502 t519 _ ?side1 ?side2 A22.out).mono ?_); (case side1 => repeat (first | exact (Kd.R_reads' HO504.out).2.2 | (with_reducible refine Kd.C_alloc ?_ _) | (with_reducible refine Kd.C_drewN ?_ _) | (with_reducible refine Kd.C_drew ?_))); (case side2 => exact (Kd.R_reads' HO504.out).2.1); rintro e w33 ⟨v520, rfl, ho0, hb⟩; have n0_ := Aside0.mk (Kd.R_below att15_0_4 hb); have n1_ := Aside0.mk (Kd.R_elder' att15_0_2 (Kd.R_base ho0) hb); have n2_ := Aside0.mk (Kd.R_below att15_0_5 hb); have n3_ := Aside0.mk (Kd.R_below att15_0_7 hb); have n4_ := Aside0.mk (Kd.R_below att15_0_9 hb); have n5_ := Aside0.mk (Kd.R_elder' att15_0_3 (Kd.R_base ho0) hb); have n6_ := Aside0.mk (Kd.R_elder' att15_0_6 (Kd.R_base ho0) hb); have n7_ := Aside0.mk (Kd.R_lower (Kd.R_new' (Kd.R_new' (Kd.R_new' ho0 (Kd.R_lt att15_0_2)) (Kd.R_lt att15_0_3)) (Kd.R_lt att15_0_6)) (below_size att15_0_0)); have n8_ := Aside0.mk (below_step att15_0_0 hb); clear HO497; clear HO500; clear HO504; clear HO508; clear HO511; clear HO514; clear HO517; clear HB; have HO497 := n0_; have HO500 := n1_; have HO504 := n2_; have HO508 := n3_; have HO511 := n4_; have HO514 := n5_; have HO517 := n6_; have HO521 := n7_; have HB := n8_; clear n0_ n1_ n2_ n3_ n4_ n5_ n6_ n7_ n8_; (try clear hb); (try clear hb2); (try clear hk); (try clear hi); (try clear ho0)) | (go_at_call 29; (with_reducible refine (spec_NextOf.calls k _ _ t501 t502 t522 _ ?side1 ?side2 A23.out).mono ?_); (case side1 => repeat (first | exact (Kd.R_reads' HO504.out).2.2 | (with_reducible refine Kd.C_alloc ?_ _) | (with_reducible refine Kd.C_drewN ?_ _) | (with_reducible refine Kd.C_drew ?_))); (case side2 => exact (Kd.R_reads' HO504.out).2.1); rintro e w34 ⟨v523, rfl, ho0, hb⟩; have n0_ := Aside0.mk (Kd.R_below att15_0_4 hb); have n1_ := Aside0.mk (Kd.R_elder' att15_0_2 (Kd.R_base ho0) hb); have n2_ := Aside0.mk (Kd.R_below att15_0_5 hb); have n3_ := Aside0.mk (Kd.R_below att15_0_7 hb); have n4_ := Aside0.mk (Kd.R_below att15_0_9 hb); have n5_ := Aside0.mk (Kd.R_elder' att15_0_3 (Kd.R_base ho0) hb); have n6_ := Aside0.mk (Kd.R_elder' att15_0_6 (Kd.R_base ho0) hb); have n7_ := Aside0.mk (Kd.R_elder' att15_0_13 (Kd.R_base ho0) hb); have n8_ := Aside0.mk (Kd.R_lower (Kd.R_new' (Kd.R_new' (Kd.R_new' (Kd.R_new' ho0 (Kd.R_lt att15_0_2)) (Kd.R_lt att15_0_3)) (Kd.R_lt att15_0_6)) (Kd.R_lt att15_0_13)) (below_size att15_0_0)); have n9_ := Aside0.mk (below_step att15_0_0 hb); clear HO497; clear HO500; clear HO504; clear HO508; clear HO511; clear HO514; clear HO517; clear HO521; clear HB; have HO497 := n0_; have HO500 := n1_; have HO504 := n2_; have HO508 := n3_; have HO511 := n4_; have HO514 := n5_; have HO517 := n6_; have HO521 := n7_; have HO524 := n8_; have HB := n9_; clear n0_ n1_ n2_ n3_ n4_ n5_ n6_ n7_ n8_ n9_; (try clear hb); (try clear hb2); (try clear hk); (try clear hi); (try clear ho0); obtain ⟨Ao35, co35, eo35⟩ := Kd.R_slice HO521.out; subst eo35; obtain ⟨Ao36, co36, eo36⟩ := Kd.R_slice HO524.out; subst eo36) | (go_at_call 26; (with_reducible refine (laws_sameInts.calls k _ _ t519 _ _ t522 true _ ?side1 ?side2 ?side3 ?side4 A24.out).mono ?_); (case side1 => repeat (first | exact (Kd.R_reads' HO521.out).2.2 | (with_reducible refine Kd.C_alloc ?_ _) | (with_reducible refine Kd.C_drewN ?_ _) | (with_reducible refine Kd.C_drew ?_))); (case side2 => exact (Kd.R_reads' HO521.out).2.1); (case side3 => repeat (first | exact (Kd.R_reads' HO524.out).2.2 | (with_reducible refine Kd.C_alloc ?_ _) | (with_reducible refine Kd.C_drewN ?_ _) | (with_reducible refine Kd.C_drew ?_))); (case side4 => exact (Kd.R_reads' HO524.out).2.1); rintro e w' ⟨rfl, ⟨nd, rfl⟩⟩; obtain ⟨Ao37, co37, eo37⟩ := Kd.R_slice HO508.out; subst eo37) | (go_at_call 30; (with_reducible refine (impl_LoopsAt.calls k _ _ t505 t506 t526 _ ?side1 ?side2 A26.out).mono ?_); (case side1 => repeat (first | exact (Kd.R_reads' HO508.out).2.2 | (with_reducible refine Kd.C_alloc ?_ _) | (with_reducible refine Kd.C_drewN ?_ _) | (with_reducible refine Kd.C_drew ?_))); (case side2 => exact (Kd.R_reads' HO508.out).2.1); rintro e w38 ⟨rfl, hb⟩; have n0_ := Aside0.mk (Kd.R_below att15_0_4 hb); have n1_ := Aside0.mk (Kd.R_below att15_0_2 hb); have n2_ := Aside0.mk (Kd.R_below att15_0_5 hb); have n3_ := Aside0.mk (Kd.R_below att15_0_7 hb); have n4_ := Aside0.mk (Kd.R_below att15_0_9 hb); have n5_ := Aside0.mk (Kd.R_below att15_0_3 hb); have n6_ := Aside0.mk (Kd.R_below att15_0_6 hb); have n7_ := Aside0.mk (Kd.R_below att15_0_13 hb); have n8_ := Aside0.mk (Kd.R_below att15_0_14 hb); have n9_ := Aside0.mk (below_step att15_0_0 hb); clear HO497; clear HO500; clear HO504; clear HO508; clear HO511; clear HO514; clear HO517; clear HO521; clear HO524; clear HB; have HO497 := n0_; have HO500 := n1_; have HO504 := n2_; have HO508 := n3_; have HO511 := n4_; have HO514 := n5_; have HO517 := n6_; have HO521 := n7_; have HO524 := n8_; have HB := n9_; clear n0_ n1_ n2_ n3_ n4_ n5_ n6_ n7_ n8_ n9_; (try clear hb); (try clear hb2); (try clear hk); (try clear hi)) | (go_at_call 31; (with_reducible refine (spec_LoopsAt.calls k _ _ t505 t506 t527 _ ?side1 ?side2 A27.out).mono ?_); (case side1 => repeat (first | exact (Kd.R_reads' HO508.out).2.2 | (with_reducible refine Kd.C_alloc ?_ _) | (with_reducible refine Kd.C_drewN ?_ _) | (with_reducible refine Kd.C_drew ?_))); (case side2 => exact (Kd.R_reads' HO508.out).2.1); rintro e w39 ⟨rfl, hb⟩; have n0_ := Aside0.mk (Kd.R_below att15_0_4 hb); have n1_ := Aside0.mk (Kd.R_below att15_0_2 hb); have n2_ := Aside0.mk (Kd.R_below att15_0_5 hb); have n3_ := Aside0.mk (Kd.R_below att15_0_7 hb); have n4_ := Aside0.mk (Kd.R_below att15_0_9 hb); have n5_ := Aside0.mk (Kd.R_below att15_0_3 hb); have n6_ := Aside0.mk (Kd.R_below att15_0_6 hb); have n7_ := Aside0.mk (Kd.R_below att15_0_13 hb); have n8_ := Aside0.mk (Kd.R_below att15_0_14 hb); have n9_ := Aside0.mk (below_step att15_0_0 hb); clear HO497; clear HO500; clear HO504; clear HO508; clear HO511; clear HO514; clear HO517; clear HO521; clear HO524; clear HB; have HO497 := n0_; have HO500 := n1_; have HO504 := n2_; have HO508 := n3_; have HO511 := n4_; have HO514 := n5_; have HO517 := n6_; have HO521 := n7_; have HO524 := n8_; have HB := n9_; clear n0_ n1_ n2_ n3_ n4_ n5_ n6_ n7_ n8_ n9_; (try clear hb); (try clear hb2); (try clear hk); (try clear hi)))
      go_meet
      case rel => exact ⟨_, (true), att15_0_17, H', ⟨att15_0_21⟩, ⟨att15_0_16⟩, ⟨att15_0_20⟩, ⟨att15_0_15⟩, ⟨att15_0_19⟩, ⟨att15_0_0⟩⟩
     ·rw [if_neg c28] at H
      have c28b0 : (t526 != t527) = false := by simpa using c28
      (try (have c28b1 : decide (t526 = t527) = true := by simpa using c28))
      (try (have c28b2 : (t526 == t527) = true := by simpa using c28))
      clear c28
      (first | rw [c28b0] | (simp only [i64_w, i32_w]; rw [c28b0]) | skip)
      replace H := Option.bind_eq_some_iff.mp H
      obtain ⟨t528, A400, H⟩ := H
      replace H : ((laws_sameInts.f k t512 t528).bind fun t531 => (laws_FnFlows.j0 k t494 t495 t498 t509 t512 (!t531))) = some r := H
      have A40 := Aside0.mk A400
      clear A400
      replace H := Option.bind_eq_some_iff.mp H
      obtain ⟨t531, A410, H⟩ := H
      replace H : (laws_FnFlows.j0 k t494 t495 t498 t509 t512 (!t531)) = some r := H
      have A41 := Aside0.mk A410
      clear A410
      have H' := Aside0.mk H
      clear H
      go_wp2_with (first | ((with_reducible refine gate_callee (f := 27) rfl ?_); refine goesL_ (some 42) rfl rfl Try.func27 (by kernel_rfl) rfl #[.slice Ao12 t494.length co12, .int .i64 t495] rfl att15_0_1 ?_; (with_reducible refine (spec_ReachOf.calls k _ _ t494 t495 t515 _ ?side1 ?side2 A19.out).mono ?_); (case side1 => repeat (first | exact (Kd.R_reads' HO497.out).2.2 | (with_reducible refine Kd.C_alloc ?_ _) | (with_reducible refine Kd.C_drewN ?_ _) | (with_reducible refine Kd.C_drew ?_))); (case side2 => exact (Kd.R_reads' HO497.out).2.1); rintro e w42 ⟨v516, rfl, ho0, hb⟩; refine ⟨_, rfl, ?_⟩; have n0_ := Aside0.mk (Kd.R_below att15_0_4 hb); have n1_ := Aside0.mk (Kd.R_elder' att15_0_2 (Kd.R_base ho0) hb); have n2_ := Aside0.mk (Kd.R_below att15_0_5 hb); have n3_ := Aside0.mk (Kd.R_below att15_0_7 hb); have n4_ := Aside0.mk (Kd.R_below att15_0_9 hb); have n5_ := Aside0.mk (Kd.R_elder' att15_0_3 (Kd.R_base ho0) hb); have n6_ := Aside0.mk (Kd.R_lower (Kd.R_new' (Kd.R_new' ho0 (Kd.R_lt att15_0_2)) (Kd.R_lt att15_0_3)) (below_size att15_0_0)); have n7_ := Aside0.mk (below_step att15_0_0 hb); clear HO497; clear HO500; clear HO504; clear HO508; clear HO511; clear HO514; clear HB; have HO497 := n0_; have HO500 := n1_; have HO504 := n2_; have HO508 := n3_; have HO511 := n4_; have HO514 := n5_; have HO517 := n6_; have HB := n7_; clear n0_ n1_ n2_ n3_ n4_ n5_ n6_ n7_; (try clear hb); (try clear hb2); (try clear hk); (try clear hi); (try clear ho0); obtain ⟨Ao43, co43, eo43⟩ := Kd.R_slice HO500.out; subst eo43; obtain ⟨Ao44, co44, eo44⟩ := Kd.R_slice HO517.out; subst eo44) | ((with_reducible refine gate_callee (f := 26) rfl ?_); refine goesL_ (some 43) rfl rfl Try.func26 (by kernel_rfl) rfl #[.slice Ao43 t498.length co43, .slice Ao44 t515.length co44] rfl att15_0_1 ?_; (with_reducible refine (laws_sameInts.calls k _ _ t498 _ _ t515 true _ ?side1 ?side2 ?side3 ?side4 A20.out).mono ?_); (case side1 => repeat (first | exact (Kd.R_reads' HO500.out).2.2 | (with_reducible refine Kd.C_alloc ?_ _) | (with_reducible refine Kd.C_drewN ?_ _) | (with_reducible refine Kd.C_drew ?_))); (case side2 => exact (Kd.R_reads' HO500.out).2.1); (case side3 => repeat (first | exact (Kd.R_reads' HO517.out).2.2 | (with_reducible refine Kd.C_alloc ?_ _) | (with_reducible refine Kd.C_drewN ?_ _) | (with_reducible refine Kd.C_drew ?_))); (case side4 => exact (Kd.R_reads' HO517.out).2.1); rintro e w' ⟨rfl, ⟨nd, rfl⟩⟩; refine ⟨_, rfl, ?_⟩; obtain ⟨Ao45, co45, eo45⟩ := Kd.R_slice HO504.out; subst eo45) | (go_at_call 28; (with_reducible refine (impl_NextOf.calls k _ _ t501 t502 t519 _ ?side1 ?side2 A22.out).mono ?_); (case side1 => repeat (first | exact (Kd.R_reads' HO504.out).2.2 | (with_reducible refine Kd.C_alloc ?_ _) | (with_reducible refine Kd.C_drewN ?_ _) | (with_reducible refine Kd.C_drew ?_))); (case side2 => exact (Kd.R_reads' HO504.out).2.1); rintro e w46 ⟨v520, rfl, ho0, hb⟩; have n0_ := Aside0.mk (Kd.R_below att15_0_4 hb); have n1_ := Aside0.mk (Kd.R_elder' att15_0_2 (Kd.R_base ho0) hb); have n2_ := Aside0.mk (Kd.R_below att15_0_5 hb); have n3_ := Aside0.mk (Kd.R_below att15_0_7 hb); have n4_ := Aside0.mk (Kd.R_below att15_0_9 hb); have n5_ := Aside0.mk (Kd.R_elder' att15_0_3 (Kd.R_base ho0) hb); have n6_ := Aside0.mk (Kd.R_elder' att15_0_6 (Kd.R_base ho0) hb); have n7_ := Aside0.mk (Kd.R_lower (Kd.R_new' (Kd.R_new' (Kd.R_new' ho0 (Kd.R_lt att15_0_2)) (Kd.R_lt att15_0_3)) (Kd.R_lt att15_0_6)) (below_size att15_0_0)); have n8_ := Aside0.mk (below_step att15_0_0 hb); clear HO497; clear HO500; clear HO504; clear HO508; clear HO511; clear HO514; clear HO517; clear HB; have HO497 := n0_; have HO500 := n1_; have HO504 := n2_; have HO508 := n3_; have HO511 := n4_; have HO514 := n5_; have HO517 := n6_; have HO521 := n7_; have HB := n8_; clear n0_ n1_ n2_ n3_ n4_ n5_ n6_ n7_ n8_; (try clear hb); (try clear hb2); (try clear hk); (try clear hi); (try clear ho0)) | (go_at_call 29; (with_reducible refine (spec_NextOf.calls k _ _ t501 t502 t522 _ ?side1 ?side2 A23.out).mono ?_); (case side1 => repeat (first | exact (Kd.R_reads' HO504.out).2.2 | (with_reducible refine Kd.C_alloc ?_ _) | (with_reducible refine Kd.C_drewN ?_ _) | (with_reducible refine Kd.C_drew ?_))); (case side2 => exact (Kd.R_reads' HO504.out).2.1); rintro e w47 ⟨v523, rfl, ho0, hb⟩; have n0_ := Aside0.mk (Kd.R_below att15_0_4 hb); have n1_ := Aside0.mk (Kd.R_elder' att15_0_2 (Kd.R_base ho0) hb); have n2_ := Aside0.mk (Kd.R_below att15_0_5 hb); have n3_ := Aside0.mk (Kd.R_below att15_0_7 hb); have n4_ := Aside0.mk (Kd.R_below att15_0_9 hb); have n5_ := Aside0.mk (Kd.R_elder' att15_0_3 (Kd.R_base ho0) hb); have n6_ := Aside0.mk (Kd.R_elder' att15_0_6 (Kd.R_base ho0) hb); have n7_ := Aside0.mk (Kd.R_elder' att15_0_13 (Kd.R_base ho0) hb); have n8_ := Aside0.mk (Kd.R_lower (Kd.R_new' (Kd.R_new' (Kd.R_new' (Kd.R_new' ho0 (Kd.R_lt att15_0_2)) (Kd.R_lt att15_0_3)) (Kd.R_lt att15_0_6)) (Kd.R_lt att15_0_13)) (below_size att15_0_0)); have n9_ := Aside0.mk (below_step att15_0_0 hb); clear HO497; clear HO500; clear HO504; clear HO508; clear HO511; clear HO514; clear HO517; clear HO521; clear HB; have HO497 := n0_; have HO500 := n1_; have HO504 := n2_; have HO508 := n3_; have HO511 := n4_; have HO514 := n5_; have HO517 := n6_; have HO521 := n7_; have HO524 := n8_; have HB := n9_; clear n0_ n1_ n2_ n3_ n4_ n5_ n6_ n7_ n8_ n9_; (try clear hb); (try clear hb2); (try clear hk); (try clear hi); (try clear ho0); obtain ⟨Ao48, co48, eo48⟩ := Kd.R_slice HO521.out; subst eo48; obtain ⟨Ao49, co49, eo49⟩ := Kd.R_slice HO524.out; subst eo49) | (go_at_call 26; (with_reducible refine (laws_sameInts.calls k _ _ t519 _ _ t522 true _ ?side1 ?side2 ?side3 ?side4 A24.out).mono ?_); (case side1 => repeat (first | exact (Kd.R_reads' HO521.out).2.2 | (with_reducible refine Kd.C_alloc ?_ _) | (with_reducible refine Kd.C_drewN ?_ _) | (with_reducible refine Kd.C_drew ?_))); (case side2 => exact (Kd.R_reads' HO521.out).2.1); (case side3 => repeat (first | exact (Kd.R_reads' HO524.out).2.2 | (with_reducible refine Kd.C_alloc ?_ _) | (with_reducible refine Kd.C_drewN ?_ _) | (with_reducible refine Kd.C_drew ?_))); (case side4 => exact (Kd.R_reads' HO524.out).2.1); rintro e w' ⟨rfl, ⟨nd, rfl⟩⟩; obtain ⟨Ao50, co50, eo50⟩ := Kd.R_slice HO508.out; subst eo50) | (go_at_call 30; (with_reducible refine (impl_LoopsAt.calls k _ _ t505 t506 t526 _ ?side1 ?side2 A26.out).mono ?_); (case side1 => repeat (first | exact (Kd.R_reads' HO508.out).2.2 | (with_reducible refine Kd.C_alloc ?_ _) | (with_reducible refine Kd.C_drewN ?_ _) | (with_reducible refine Kd.C_drew ?_))); (case side2 => exact (Kd.R_reads' HO508.out).2.1); rintro e w51 ⟨rfl, hb⟩; have n0_ := Aside0.mk (Kd.R_below att15_0_4 hb); have n1_ := Aside0.mk (Kd.R_below att15_0_2 hb); have n2_ := Aside0.mk (Kd.R_below att15_0_5 hb); have n3_ := Aside0.mk (Kd.R_below att15_0_7 hb); have n4_ := Aside0.mk (Kd.R_below att15_0_9 hb); have n5_ := Aside0.mk (Kd.R_below att15_0_3 hb); have n6_ := Aside0.mk (Kd.R_below att15_0_6 hb); have n7_ := Aside0.mk (Kd.R_below att15_0_13 hb); have n8_ := Aside0.mk (Kd.R_below att15_0_14 hb); have n9_ := Aside0.mk (below_step att15_0_0 hb); clear HO497; clear HO500; clear HO504; clear HO508; clear HO511; clear HO514; clear HO517; clear HO521; clear HO524; clear HB; have HO497 := n0_; have HO500 := n1_; have HO504 := n2_; have HO508 := n3_; have HO511 := n4_; have HO514 := n5_; have HO517 := n6_; have HO521 := n7_; have HO524 := n8_; have HB := n9_; clear n0_ n1_ n2_ n3_ n4_ n5_ n6_ n7_ n8_ n9_; (try clear hb); (try clear hb2); (try clear hk); (try clear hi)) | (go_at_call 31; (with_reducible refine (spec_LoopsAt.calls k _ _ t505 t506 t527 _ ?side1 ?side2 A27.out).mono ?_); (case side1 => repeat (first | exact (Kd.R_reads' HO508.out).2.2 | (with_reducible refine Kd.C_alloc ?_ _) | (with_reducible refine Kd.C_drewN ?_ _) | (with_reducible refine Kd.C_drew ?_))); (case side2 => exact (Kd.R_reads' HO508.out).2.1); rintro e w52 ⟨rfl, hb⟩; have n0_ := Aside0.mk (Kd.R_below att15_0_4 hb); have n1_ := Aside0.mk (Kd.R_below att15_0_2 hb); have n2_ := Aside0.mk (Kd.R_below att15_0_5 hb); have n3_ := Aside0.mk (Kd.R_below att15_0_7 hb); have n4_ := Aside0.mk (Kd.R_below att15_0_9 hb); have n5_ := Aside0.mk (Kd.R_below att15_0_3 hb); have n6_ := Aside0.mk (Kd.R_below att15_0_6 hb); have n7_ := Aside0.mk (Kd.R_below att15_0_13 hb); have n8_ := Aside0.mk (Kd.R_below att15_0_14 hb); have n9_ := Aside0.mk (below_step att15_0_0 hb); clear HO497; clear HO500; clear HO504; clear HO508; clear HO511; clear HO514; clear HO517; clear HO521; clear HO524; clear HB; have HO497 := n0_; have HO500 := n1_; have HO504 := n2_; have HO508 := n3_; have HO511 := n4_; have HO514 := n5_; have HO517 := n6_; have HO521 := n7_; have HO524 := n8_; have HB := n9_; clear n0_ n1_ n2_ n3_ n4_ n5_ n6_ n7_ n8_ n9_; (try clear hb); (try clear hb2); (try clear hk); (try clear hi)) | (go_at_call 32; (with_reducible refine (spec_Unreached.calls k _ _ t509 t528 _ ?side1 ?side2 A40.out).mono ?_); (case side1 => repeat (first | exact (Kd.R_reads' HO511.out).2.2 | (with_reducible refine Kd.C_alloc ?_ _) | (with_reducible refine Kd.C_drewN ?_ _) | (with_reducible refine Kd.C_drew ?_))); (case side2 => exact (Kd.R_reads' HO511.out).2.1); rintro e w53 ⟨v529, rfl, ho0, hb⟩; have n0_ := Aside0.mk (Kd.R_below att15_0_4 hb); have n1_ := Aside0.mk (Kd.R_elder' att15_0_2 (Kd.R_base ho0) hb); have n2_ := Aside0.mk (Kd.R_below att15_0_5 hb); have n3_ := Aside0.mk (Kd.R_below att15_0_7 hb); have n4_ := Aside0.mk (Kd.R_below att15_0_9 hb); have n5_ := Aside0.mk (Kd.R_elder' att15_0_3 (Kd.R_base ho0) hb); have n6_ := Aside0.mk (Kd.R_elder' att15_0_6 (Kd.R_base ho0) hb); have n7_ := Aside0.mk (Kd.R_elder' att15_0_13 (Kd.R_base ho0) hb); have n8_ := Aside0.mk (Kd.R_elder' att15_0_14 (Kd.R_base ho0) hb); have n9_ := Aside0.mk (Kd.R_lower (Kd.R_new' (Kd.R_new' (Kd.R_new' (Kd.R_new' (Kd.R_new' ho0 (Kd.R_lt att15_0_2)) (Kd.R_lt att15_0_3)) (Kd.R_lt att15_0_6)) (Kd.R_lt att15_0_13)) (Kd.R_lt att15_0_14)) (below_size att15_0_0)); have n10_ := Aside0.mk (below_step att15_0_0 hb); clear HO497; clear HO500; clear HO504; clear HO508; clear HO511; clear HO514; clear HO517; clear HO521; clear HO524; clear HB; have HO497 := n0_; have HO500 := n1_; have HO504 := n2_; have HO508 := n3_; have HO511 := n4_; have HO514 := n5_; have HO517 := n6_; have HO521 := n7_; have HO524 := n8_; have HO530 := n9_; have HB := n10_; clear n0_ n1_ n2_ n3_ n4_ n5_ n6_ n7_ n8_ n9_ n10_; (try clear hb); (try clear hb2); (try clear hk); (try clear hi); (try clear ho0); obtain ⟨Ao54, co54, eo54⟩ := Kd.R_slice HO514.out; subst eo54; obtain ⟨Ao55, co55, eo55⟩ := Kd.R_slice HO530.out; subst eo55) | (go_at_call 26; (with_reducible refine (laws_sameInts.calls k _ _ t512 _ _ t528 t531 _ ?side1 ?side2 ?side3 ?side4 A41.out).mono ?_); (case side1 => repeat (first | exact (Kd.R_reads' HO514.out).2.2 | (with_reducible refine Kd.C_alloc ?_ _) | (with_reducible refine Kd.C_drewN ?_ _) | (with_reducible refine Kd.C_drew ?_))); (case side2 => exact (Kd.R_reads' HO514.out).2.1); (case side3 => repeat (first | exact (Kd.R_reads' HO530.out).2.2 | (with_reducible refine Kd.C_alloc ?_ _) | (with_reducible refine Kd.C_drewN ?_ _) | (with_reducible refine Kd.C_drew ?_))); (case side4 => exact (Kd.R_reads' HO530.out).2.1); rintro e w' ⟨rfl, ⟨nd, rfl⟩⟩))
      go_meet
      case rel => exact ⟨_, (!t531), att15_0_17, H', ⟨att15_0_21⟩, ⟨att15_0_16⟩, ⟨by (with_reducible repeat (first | apply Kd.R_alloc | apply Kd.R_drewN | apply Kd.R_drew)); exact Kd.R_mono HO500.out (fun _ hk => hk.1.1.1.1.2)⟩, ⟨att15_0_15⟩, ⟨by (with_reducible repeat (first | apply Kd.R_alloc | apply Kd.R_drewN | apply Kd.R_drew)); exact Kd.R_mono HO514.out (fun _ hk => hk.1.1.1.1.2)⟩, ⟨att15_0_0⟩⟩
    ·replace c25 := Bool.eq_false_iff.mpr c25
     subst c25
     have H1 : (laws_FnFlows.j0 k t494 t495 t498 t509 t512 true) = some r := by rw [if_neg (show ¬ (false = true) by decide)] at H; exact H
     clear H
     have H := H1
     clear H1
     have H' := Aside0.mk H
     clear H
     go_wp2_with (first | ((with_reducible refine gate_callee (f := 27) rfl ?_); refine goesL_ (some 42) rfl rfl Try.func27 (by kernel_rfl) rfl #[.slice Ao12 t494.length co12, .int .i64 t495] rfl att15_0_1 ?_; (with_reducible refine (spec_ReachOf.calls k _ _ t494 t495 t515 _ ?side1 ?side2 A19.out).mono ?_); (case side1 => repeat (first | exact (Kd.R_reads' HO497.out).2.2 | (with_reducible refine Kd.C_alloc ?_ _) | (with_reducible refine Kd.C_drewN ?_ _) | (with_reducible refine Kd.C_drew ?_))); (case side2 => exact (Kd.R_reads' HO497.out).2.1); rintro e w56 ⟨v516, rfl, ho0, hb⟩; refine ⟨_, rfl, ?_⟩; have n0_ := Aside0.mk (Kd.R_below att15_0_4 hb); have n1_ := Aside0.mk (Kd.R_elder' att15_0_2 (Kd.R_base ho0) hb); have n2_ := Aside0.mk (Kd.R_below att15_0_5 hb); have n3_ := Aside0.mk (Kd.R_below att15_0_7 hb); have n4_ := Aside0.mk (Kd.R_below att15_0_9 hb); have n5_ := Aside0.mk (Kd.R_elder' att15_0_3 (Kd.R_base ho0) hb); have n6_ := Aside0.mk (Kd.R_lower (Kd.R_new' (Kd.R_new' ho0 (Kd.R_lt att15_0_2)) (Kd.R_lt att15_0_3)) (below_size att15_0_0)); have n7_ := Aside0.mk (below_step att15_0_0 hb); clear HO497; clear HO500; clear HO504; clear HO508; clear HO511; clear HO514; clear HB; have HO497 := n0_; have HO500 := n1_; have HO504 := n2_; have HO508 := n3_; have HO511 := n4_; have HO514 := n5_; have HO517 := n6_; have HB := n7_; clear n0_ n1_ n2_ n3_ n4_ n5_ n6_ n7_; (try clear hb); (try clear hb2); (try clear hk); (try clear hi); (try clear ho0); obtain ⟨Ao57, co57, eo57⟩ := Kd.R_slice HO500.out; subst eo57; obtain ⟨Ao58, co58, eo58⟩ := Kd.R_slice HO517.out; subst eo58) | ((with_reducible refine gate_callee (f := 26) rfl ?_); refine goesL_ (some 43) rfl rfl Try.func26 (by kernel_rfl) rfl #[.slice Ao57 t498.length co57, .slice Ao58 t515.length co58] rfl att15_0_1 ?_; (with_reducible refine (laws_sameInts.calls k _ _ t498 _ _ t515 true _ ?side1 ?side2 ?side3 ?side4 A20.out).mono ?_); (case side1 => repeat (first | exact (Kd.R_reads' HO500.out).2.2 | (with_reducible refine Kd.C_alloc ?_ _) | (with_reducible refine Kd.C_drewN ?_ _) | (with_reducible refine Kd.C_drew ?_))); (case side2 => exact (Kd.R_reads' HO500.out).2.1); (case side3 => repeat (first | exact (Kd.R_reads' HO517.out).2.2 | (with_reducible refine Kd.C_alloc ?_ _) | (with_reducible refine Kd.C_drewN ?_ _) | (with_reducible refine Kd.C_drew ?_))); (case side4 => exact (Kd.R_reads' HO517.out).2.1); rintro e w' ⟨rfl, ⟨nd, rfl⟩⟩; refine ⟨_, rfl, ?_⟩; obtain ⟨Ao59, co59, eo59⟩ := Kd.R_slice HO504.out; subst eo59) | (go_at_call 28; (with_reducible refine (impl_NextOf.calls k _ _ t501 t502 t519 _ ?side1 ?side2 A22.out).mono ?_); (case side1 => repeat (first | exact (Kd.R_reads' HO504.out).2.2 | (with_reducible refine Kd.C_alloc ?_ _) | (with_reducible refine Kd.C_drewN ?_ _) | (with_reducible refine Kd.C_drew ?_))); (case side2 => exact (Kd.R_reads' HO504.out).2.1); rintro e w60 ⟨v520, rfl, ho0, hb⟩; have n0_ := Aside0.mk (Kd.R_below att15_0_4 hb); have n1_ := Aside0.mk (Kd.R_elder' att15_0_2 (Kd.R_base ho0) hb); have n2_ := Aside0.mk (Kd.R_below att15_0_5 hb); have n3_ := Aside0.mk (Kd.R_below att15_0_7 hb); have n4_ := Aside0.mk (Kd.R_below att15_0_9 hb); have n5_ := Aside0.mk (Kd.R_elder' att15_0_3 (Kd.R_base ho0) hb); have n6_ := Aside0.mk (Kd.R_elder' att15_0_6 (Kd.R_base ho0) hb); have n7_ := Aside0.mk (Kd.R_lower (Kd.R_new' (Kd.R_new' (Kd.R_new' ho0 (Kd.R_lt att15_0_2)) (Kd.R_lt att15_0_3)) (Kd.R_lt att15_0_6)) (below_size att15_0_0)); have n8_ := Aside0.mk (below_step att15_0_0 hb); clear HO497; clear HO500; clear HO504; clear HO508; clear HO511; clear HO514; clear HO517; clear HB; have HO497 := n0_; have HO500 := n1_; have HO504 := n2_; have HO508 := n3_; have HO511 := n4_; have HO514 := n5_; have HO517 := n6_; have HO521 := n7_; have HB := n8_; clear n0_ n1_ n2_ n3_ n4_ n5_ n6_ n7_ n8_; (try clear hb); (try clear hb2); (try clear hk); (try clear hi); (try clear ho0)) | (go_at_call 29; (with_reducible refine (spec_NextOf.calls k _ _ t501 t502 t522 _ ?side1 ?side2 A23.out).mono ?_); (case side1 => repeat (first | exact (Kd.R_reads' HO504.out).2.2 | (with_reducible refine Kd.C_alloc ?_ _) | (with_reducible refine Kd.C_drewN ?_ _) | (with_reducible refine Kd.C_drew ?_))); (case side2 => exact (Kd.R_reads' HO504.out).2.1); rintro e w61 ⟨v523, rfl, ho0, hb⟩; have n0_ := Aside0.mk (Kd.R_below att15_0_4 hb); have n1_ := Aside0.mk (Kd.R_elder' att15_0_2 (Kd.R_base ho0) hb); have n2_ := Aside0.mk (Kd.R_below att15_0_5 hb); have n3_ := Aside0.mk (Kd.R_below att15_0_7 hb); have n4_ := Aside0.mk (Kd.R_below att15_0_9 hb); have n5_ := Aside0.mk (Kd.R_elder' att15_0_3 (Kd.R_base ho0) hb); have n6_ := Aside0.mk (Kd.R_elder' att15_0_6 (Kd.R_base ho0) hb); have n7_ := Aside0.mk (Kd.R_elder' att15_0_13 (Kd.R_base ho0) hb); have n8_ := Aside0.mk (Kd.R_lower (Kd.R_new' (Kd.R_new' (Kd.R_new' (Kd.R_new' ho0 (Kd.R_lt att15_0_2)) (Kd.R_lt att15_0_3)) (Kd.R_lt att15_0_6)) (Kd.R_lt att15_0_13)) (below_size att15_0_0)); have n9_ := Aside0.mk (below_step att15_0_0 hb); clear HO497; clear HO500; clear HO504; clear HO508; clear HO511; clear HO514; clear HO517; clear HO521; clear HB; have HO497 := n0_; have HO500 := n1_; have HO504 := n2_; have HO508 := n3_; have HO511 := n4_; have HO514 := n5_; have HO517 := n6_; have HO521 := n7_; have HO524 := n8_; have HB := n9_; clear n0_ n1_ n2_ n3_ n4_ n5_ n6_ n7_ n8_ n9_; (try clear hb); (try clear hb2); (try clear hk); (try clear hi); (try clear ho0); obtain ⟨Ao62, co62, eo62⟩ := Kd.R_slice HO521.out; subst eo62; obtain ⟨Ao63, co63, eo63⟩ := Kd.R_slice HO524.out; subst eo63) | (go_at_call 26; (with_reducible refine (laws_sameInts.calls k _ _ t519 _ _ t522 false _ ?side1 ?side2 ?side3 ?side4 A24.out).mono ?_); (case side1 => repeat (first | exact (Kd.R_reads' HO521.out).2.2 | (with_reducible refine Kd.C_alloc ?_ _) | (with_reducible refine Kd.C_drewN ?_ _) | (with_reducible refine Kd.C_drew ?_))); (case side2 => exact (Kd.R_reads' HO521.out).2.1); (case side3 => repeat (first | exact (Kd.R_reads' HO524.out).2.2 | (with_reducible refine Kd.C_alloc ?_ _) | (with_reducible refine Kd.C_drewN ?_ _) | (with_reducible refine Kd.C_drew ?_))); (case side4 => exact (Kd.R_reads' HO524.out).2.1); rintro e w' ⟨rfl, ⟨nd, rfl⟩⟩))
     go_meet
     case rel => exact ⟨_, (true), att15_0_17, H', ⟨att15_0_21⟩, ⟨att15_0_16⟩, ⟨att15_0_20⟩, ⟨att15_0_15⟩, ⟨att15_0_19⟩, ⟨att15_0_0⟩⟩
   ·replace c21 := Bool.eq_false_iff.mpr c21
    subst c21
    have H1 : (laws_FnFlows.j0 k t494 t495 t498 t509 t512 true) = some r := by rw [if_neg (show ¬ (false = true) by decide)] at H; exact H
    clear H
    have H := H1
    clear H1
    have H' := Aside0.mk H
    clear H
    go_wp2_with (first | ((with_reducible refine gate_callee (f := 27) rfl ?_); refine goesL_ (some 42) rfl rfl Try.func27 (by kernel_rfl) rfl #[.slice Ao12 t494.length co12, .int .i64 t495] rfl att15_0_1 ?_; (with_reducible refine (spec_ReachOf.calls k _ _ t494 t495 t515 _ ?side1 ?side2 A19.out).mono ?_); (case side1 => repeat (first | exact (Kd.R_reads' HO497.out).2.2 | (with_reducible refine Kd.C_alloc ?_ _) | (with_reducible refine Kd.C_drewN ?_ _) | (with_reducible refine Kd.C_drew ?_))); (case side2 => exact (Kd.R_reads' HO497.out).2.1); rintro e w64 ⟨v516, rfl, ho0, hb⟩; refine ⟨_, rfl, ?_⟩; have n0_ := Aside0.mk (Kd.R_below att15_0_4 hb); have n1_ := Aside0.mk (Kd.R_elder' att15_0_2 (Kd.R_base ho0) hb); have n2_ := Aside0.mk (Kd.R_below att15_0_5 hb); have n3_ := Aside0.mk (Kd.R_below att15_0_7 hb); have n4_ := Aside0.mk (Kd.R_below att15_0_9 hb); have n5_ := Aside0.mk (Kd.R_elder' att15_0_3 (Kd.R_base ho0) hb); have n6_ := Aside0.mk (Kd.R_lower (Kd.R_new' (Kd.R_new' ho0 (Kd.R_lt att15_0_2)) (Kd.R_lt att15_0_3)) (below_size att15_0_0)); have n7_ := Aside0.mk (below_step att15_0_0 hb); clear HO497; clear HO500; clear HO504; clear HO508; clear HO511; clear HO514; clear HB; have HO497 := n0_; have HO500 := n1_; have HO504 := n2_; have HO508 := n3_; have HO511 := n4_; have HO514 := n5_; have HO517 := n6_; have HB := n7_; clear n0_ n1_ n2_ n3_ n4_ n5_ n6_ n7_; (try clear hb); (try clear hb2); (try clear hk); (try clear hi); (try clear ho0); obtain ⟨Ao65, co65, eo65⟩ := Kd.R_slice HO500.out; subst eo65; obtain ⟨Ao66, co66, eo66⟩ := Kd.R_slice HO517.out; subst eo66) | ((with_reducible refine gate_callee (f := 26) rfl ?_); refine goesL_ (some 43) rfl rfl Try.func26 (by kernel_rfl) rfl #[.slice Ao65 t498.length co65, .slice Ao66 t515.length co66] rfl att15_0_1 ?_; (with_reducible refine (laws_sameInts.calls k _ _ t498 _ _ t515 false _ ?side1 ?side2 ?side3 ?side4 A20.out).mono ?_); (case side1 => repeat (first | exact (Kd.R_reads' HO500.out).2.2 | (with_reducible refine Kd.C_alloc ?_ _) | (with_reducible refine Kd.C_drewN ?_ _) | (with_reducible refine Kd.C_drew ?_))); (case side2 => exact (Kd.R_reads' HO500.out).2.1); (case side3 => repeat (first | exact (Kd.R_reads' HO517.out).2.2 | (with_reducible refine Kd.C_alloc ?_ _) | (with_reducible refine Kd.C_drewN ?_ _) | (with_reducible refine Kd.C_drew ?_))); (case side4 => exact (Kd.R_reads' HO517.out).2.1); rintro e w' ⟨rfl, ⟨nd, rfl⟩⟩; refine ⟨_, rfl, ?_⟩))
    go_meet
    case rel => exact ⟨_, (true), att15_0_17, H', ⟨att15_0_21⟩, ⟨att15_0_16⟩, ⟨by (with_reducible repeat (first | apply Kd.R_alloc | apply Kd.R_drewN | apply Kd.R_drew)); exact Kd.R_mono HO500.out (fun _ hk => hk.1.2)⟩, ⟨att15_0_15⟩, ⟨by (with_reducible repeat (first | apply Kd.R_alloc | apply Kd.R_drewN | apply Kd.R_drew)); exact Kd.R_mono HO514.out (fun _ hk => hk.1.2)⟩, ⟨att15_0_0⟩⟩
  case rest =>
   clear HC10
   try clear c1
   try clear c2
   try clear p2
   try clear c3
   try clear c4
   try clear c19
   try clear c20
   try clear c21
   try clear c22
   try clear c23
   try clear c24
   try clear c25
   try clear c26
   try clear c27
   try clear c28
   try clear c28b0
   try clear c28b1
   try clear c28b2
   obtain ⟨kq, x70_9, rfl, HA, HJ9, HO_3, HO_5, HO_10, HO_11, HB⟩ := hcut
   cases kq with
   | zero => exact absurd HA.out (by simp [laws_FnFlows.j0])
   | succ kj9 =>
    have H := HA.out
    clear HA
    simp only [laws_FnFlows.j0] at H
    by_cases c67 : x70_9 = true
    ·subst c67
     have H1 : (some false) = some r := by rw [if_pos rfl] at H; exact H
     clear H
     have H := H1
     clear H1
     obtain rfl := Option.some.inj H
     go_wp2
     go_ret
     exact ⟨by first | rfl | (simp [errW_none, errW_some] <;> rfl) | (simp [*, errW_none, errW_some] <;> rfl), att15_0_0⟩
    ·replace c67 := Bool.eq_false_iff.mpr c67
     subst c67
     have H1 : (laws_FnFlows.l0 kj9 t494 t495 t498 t509 t512 0) = some r := by rw [if_neg (show ¬ (false = true) by decide)] at H; exact H
     clear H
     have H := H1
     clear H1
     have H' := Aside0.mk H
     clear H
     go_wp2
     go_loopg [12] kj9 (fun kq v12 w' => ∃ (x12_2 : Int), v12 = .int .i64 x12_2 ∧ Aside0 (laws_FnFlows.l0 kq t494 t495 t498 t509 t512 x12_2 = some r) ∧ Aside0 (kq ≤ kj9) ∧ Aside0 (Kd.R k63 63 w' w.heap.size (fun k_ => some k_ ≠ ((.slice Ao17 t509.length co17) : Value).ownBlock) (.slice Ao12 t494.length co12) t494) ∧ Aside0 (Kd.R (Kd.int .i64) 3 w' w.heap.size (fun k_ => some k_ ≠ (v513 : Value).ownBlock) v499 t498) ∧ Aside0 (Kd.R k63 63 w' w.heap.size (fun k_ => some k_ ≠ ((.slice Ao12 t494.length co12) : Value).ownBlock) (.slice Ao17 t509.length co17) t509) ∧ Aside0 (Kd.R (Kd.int .i64) 3 w' w.heap.size (fun k_ => some k_ ≠ (v499 : Value).ownBlock) v513 t512) ∧ Aside0 (Below w.heap.size w w'))
     case atStart => exact ⟨(0), att15_0_17, H', ⟨Nat.le_refl _⟩, ⟨att15_0_12⟩, ⟨att15_0_10⟩, ⟨att15_0_11⟩, ⟨att15_0_8⟩, ⟨att15_0_0⟩⟩
     case round =>
      clear H'
      try clear c1
      try clear c2
      try clear p2
      try clear c3
      try clear c4
      try clear c6
      try clear c19
      try clear c20
      try clear c21
      try clear c22
      try clear c23
      try clear c24
      try clear c25
      try clear c26
      try clear c27
      try clear c28
      try clear c28b0
      try clear c28b1
      try clear c28b2
      try clear c67
      try clear p2
      obtain ⟨x12_2, rfl, HA, HK2, HO_3, HO_5, HO_10, HO_11, HB⟩ := hrel
      cases gk with
      | zero => exact absurd HA.out (by simp [laws_FnFlows.l0])
      | succ k2 =>
       have H := HA.out
       clear HA
       simp only [laws_FnFlows.l0] at H
       by_cases c68 : x12_2 < (t498.length : Int)
       ·rw [if_pos c68] at H
        have c68b0 : decide (x12_2 < (t498.length : Int)) = true := decide_eq_true c68
        clear c68
        by_cases c69 : 0 ≤ x12_2
        ·rw [if_pos c69] at H
         have c69b0 : decide (0 ≤ x12_2) = true := decide_eq_true c69
         clear c69
         replace H := Option.bind_eq_some_iff.mp H
         obtain ⟨t533, A700, H⟩ := H
         replace H : (laws_FnFlows.l1 k2 t494 t495 t498 t509 t512 x12_2 t533 0) = some r := H
         have A70 := Aside0.mk A700
         clear A700
         have H' := Aside0.mk H
         clear H
         obtain ⟨Ao71, co71, eo71⟩ := Kd.R_slice HO_5.out
         subst eo71
         have p532 : 0 ≤ (x12_2 : Int) := of_decide_eq_true att15_0_18
         have q532 : x12_2 < (t498.length : Int) := of_decide_eq_true att15_0_18
         obtain ⟨ad532, e532, hx532_0⟩ := Kd.at_int (Kd.R_reads' HO_5.out).2.2 x12_2 p532 q532
         cases e532
         replace p532 := eq_true p532
         replace q532 := eq_true q532
         go_wp2_with (first | ((with_reducible refine gate_callee (f := 28) rfl ?_); refine goesL_ (some 82) rfl rfl Try.func28 (by kernel_rfl) rfl #[.slice Ao12 t494.length co12, .int .i64 (rd t498 x12_2)] rfl att15_0_1 ?_; (with_reducible refine (impl_NextOf.calls k2 _ _ t494 (rd t498 x12_2) t533 _ ?side1 ?side2 A70.out).mono ?_); (case side1 => repeat (first | exact (Kd.R_reads' HO_3.out).2.2 | (with_reducible refine Kd.C_alloc ?_ _) | (with_reducible refine Kd.C_drewN ?_ _) | (with_reducible refine Kd.C_drew ?_))); (case side2 => exact (Kd.R_reads' HO_3.out).2.1); rintro e w72 ⟨v534, rfl, ho0, hb⟩; refine ⟨_, rfl, ?_⟩; have n0_ := Aside0.mk (Kd.R_below att15_0_12 hb); have n1_ := Aside0.mk (Kd.R_elder' att15_0_10 (Kd.R_base ho0) hb); have n2_ := Aside0.mk (Kd.R_below att15_0_11 hb); have n3_ := Aside0.mk (Kd.R_elder' att15_0_8 (Kd.R_base ho0) hb); have n4_ := Aside0.mk (Kd.R_lower (Kd.R_new' (Kd.R_new' ho0 (Kd.R_lt att15_0_10)) (Kd.R_lt att15_0_8)) (below_size att15_0_0)); have n5_ := Aside0.mk (below_step att15_0_0 hb); clear HO_3; clear HO_5; clear HO_10; clear HO_11; clear HB; have HO_3 := n0_; have HO_5 := n1_; have HO_10 := n2_; have HO_11 := n3_; have HO535 := n4_; have HB := n5_; clear n0_ n1_ n2_ n3_ n4_ n5_; (try clear hb); (try clear hb2); (try clear hk); (try clear hi); (try clear ho0)))
         go_loopg [14] k2 (fun kq v14 w' => ∃ (x14_3 : Int), v14 = .int .i64 x14_3 ∧ Aside0 (laws_FnFlows.l1 kq t494 t495 t498 t509 t512 x12_2 t533 x14_3 = some r) ∧ Aside0 (kq ≤ k2) ∧ Aside0 (Kd.R k63 63 w' w.heap.size (fun k_ => some k_ ≠ ((.slice Ao17 t509.length co17) : Value).ownBlock) (.slice Ao12 t494.length co12) t494) ∧ Aside0 (Kd.R (Kd.int .i64) 3 w' w.heap.size (fun k_ => some k_ ≠ (v513 : Value).ownBlock ∧ some k_ ≠ (v534 : Value).ownBlock) (.slice (some ad532) t498.length co71) t498) ∧ Aside0 (Kd.R k63 63 w' w.heap.size (fun k_ => some k_ ≠ ((.slice Ao12 t494.length co12) : Value).ownBlock) (.slice Ao17 t509.length co17) t509) ∧ Aside0 (Kd.R (Kd.int .i64) 3 w' w.heap.size (fun k_ => some k_ ≠ ((.slice (some ad532) t498.length co71) : Value).ownBlock ∧ some k_ ≠ (v534 : Value).ownBlock) v513 t512) ∧ Aside0 (Kd.R (Kd.int .i64) 3 w' w.heap.size (fun k_ => some k_ ≠ ((.slice (some ad532) t498.length co71) : Value).ownBlock ∧ some k_ ≠ (v513 : Value).ownBlock) v534 t533) ∧ Aside0 (Below w.heap.size w w'))
         case atStart => exact ⟨(0), att15_0_17, H', ⟨Nat.le_refl _⟩, ⟨att15_0_12⟩, ⟨att15_0_10⟩, ⟨att15_0_11⟩, ⟨att15_0_8⟩, ⟨by (with_reducible repeat (first | apply Kd.R_alloc | apply Kd.R_drewN | apply Kd.R_drew)); exact Kd.R_mono HO535.out (fun _ hk => ⟨hk.1.2, hk.2⟩)⟩, ⟨att15_0_0⟩⟩
         case round =>
          clear H'
          try clear c1
          try clear c2
          try clear p2
          try clear c3
          try clear c4
          try clear p5
          try clear q5
          try clear hx5
          try clear c6
          try clear c19
          try clear c20
          try clear c21
          try clear c22
          try clear c23
          try clear c24
          try clear c25
          try clear c26
          try clear c27
          try clear c28
          try clear c28b0
          try clear c28b1
          try clear c28b2
          try clear p53
          try clear q53
          try clear hx53
          try clear c67
          try clear c68
          try clear c68b0
          try clear c69
          try clear c69b0
          try clear hx532_0
          try clear p2
          try clear p532
          try clear q532
          obtain ⟨x14_3, rfl, HA, HK3, HO_3, HO_5, HO_10, HO_11, HO_13, HB⟩ := hrel
          cases gk with
          | zero => exact absurd HA.out (by simp [laws_FnFlows.l1])
          | succ k3 =>
           have H := HA.out
           clear HA
           simp only [laws_FnFlows.l1] at H
           by_cases c73 : x14_3 < (t533.length : Int)
           ·rw [if_pos c73] at H
            have c73b0 : decide (x14_3 < (t533.length : Int)) = true := decide_eq_true c73
            clear c73
            by_cases c74 : 0 ≤ x14_3
            ·rw [if_pos c74] at H
             have c74b0 : decide (0 ≤ x14_3) = true := decide_eq_true c74
             clear c74
             replace H := Option.bind_eq_some_iff.mp H
             obtain ⟨t537, A750, H⟩ := H
             replace H : (if t537 = true then (laws_FnFlows.l1 k3 t494 t495 t498 t509 t512 x12_2 t533 (wrap64 (x14_3 + 1))) else (some false)) = some r := H
             have A75 := Aside0.mk A750
             clear A750
             by_cases c76 : t537 = true
             ·subst c76
              have H1 : (laws_FnFlows.l1 k3 t494 t495 t498 t509 t512 x12_2 t533 (wrap64 (x14_3 + 1))) = some r := by rw [if_pos rfl] at H; exact H
              clear H
              have H := H1
              clear H1
              have H' := Aside0.mk H
              clear H
              obtain ⟨Ao77, co77, eo77⟩ := Kd.R_slice HO_13.out
              subst eo77
              have p536 : 0 ≤ (x14_3 : Int) := of_decide_eq_true att15_0_18
              have q536 : x14_3 < (t533.length : Int) := of_decide_eq_true att15_0_18
              obtain ⟨ad536, e536, hx536_0⟩ := Kd.at_int (Kd.R_reads' HO_13.out).2.2 x14_3 p536 q536
              cases e536
              replace p536 := eq_true p536
              replace q536 := eq_true q536
              go_wp2_with (first | ((with_reducible refine gate_callee (f := 33) rfl ?_); refine goesL_ (some 94) rfl rfl Try.func33 (by kernel_rfl) rfl #[.slice (some ad532) t498.length co71, .int .i64 (rd t533 x14_3)] rfl att15_0_1 ?_; (with_reducible refine (laws_within.calls k3 _ _ t498 (rd t533 x14_3) true _ ?side1 ?side2 A75.out).mono ?_); (case side1 => repeat (first | exact (Kd.R_reads' HO_5.out).2.2 | (with_reducible refine Kd.C_alloc ?_ _) | (with_reducible refine Kd.C_drewN ?_ _) | (with_reducible refine Kd.C_drew ?_))); (case side2 => exact (Kd.R_reads' HO_5.out).2.1); rintro e w' ⟨rfl, ⟨nd, rfl⟩⟩; refine ⟨_, rfl, ?_⟩))
              go_roundg k3
              case measure => have := HJ9.out; have := HK2.out; have := HK3.out; omega
              case rel => exact ⟨(wrap64 (x14_3 + 1)), att15_0_17, H', ⟨by have := HJ9.out; have := HK2.out; have := HK3.out; omega⟩, ⟨att15_0_12⟩, ⟨att15_0_10⟩, ⟨att15_0_11⟩, ⟨att15_0_8⟩, ⟨by (with_reducible repeat (first | apply Kd.R_alloc | apply Kd.R_drewN | apply Kd.R_drew)); exact HO_13.out⟩, ⟨att15_0_0⟩⟩
             ·replace c76 := Bool.eq_false_iff.mpr c76
              subst c76
              have H1 : (some false) = some r := by rw [if_neg (show ¬ (false = true) by decide)] at H; exact H
              clear H
              have H := H1
              clear H1
              obtain rfl := Option.some.inj H
              obtain ⟨Ao78, co78, eo78⟩ := Kd.R_slice HO_13.out
              subst eo78
              have p536 : 0 ≤ (x14_3 : Int) := of_decide_eq_true att15_0_18
              have q536 : x14_3 < (t533.length : Int) := of_decide_eq_true att15_0_18
              obtain ⟨ad536, e536, hx536_0⟩ := Kd.at_int (Kd.R_reads' HO_13.out).2.2 x14_3 p536 q536
              cases e536
              replace p536 := eq_true p536
              replace q536 := eq_true q536
              go_wp2_with (first | ((with_reducible refine gate_callee (f := 33) rfl ?_); refine goesL_ (some 94) rfl rfl Try.func33 (by kernel_rfl) rfl #[.slice (some ad532) t498.length co71, .int .i64 (rd t533 x14_3)] rfl att15_0_1 ?_; (with_reducible refine (laws_within.calls k3 _ _ t498 (rd t533 x14_3) false _ ?side1 ?side2 A75.out).mono ?_); (case side1 => repeat (first | exact (Kd.R_reads' HO_5.out).2.2 | (with_reducible refine Kd.C_alloc ?_ _) | (with_reducible refine Kd.C_drewN ?_ _) | (with_reducible refine Kd.C_drew ?_))); (case side2 => exact (Kd.R_reads' HO_5.out).2.1); rintro e w' ⟨rfl, ⟨nd, rfl⟩⟩; refine ⟨_, rfl, ?_⟩))
              go_ret
              exact ⟨by first | rfl | (simp [errW_none, errW_some] <;> rfl) | (simp [*, errW_none, errW_some] <;> rfl), att15_0_0⟩
            ·rw [if_neg c74] at H
             exact absurd H (by simp)
           ·rw [if_neg c73] at H
            have c73b0 : decide (x14_3 < (t533.length : Int)) = false := decide_eq_false c73
            clear c73
            have H' := Aside0.mk H
            clear H
            obtain ⟨Ao79, co79, eo79⟩ := Kd.R_slice HO_13.out
            subst eo79
            go_wp2
            go_roundg k3
            case measure => have := HJ9.out; have := HK2.out; have := HK3.out; omega
            case rel => exact ⟨(wrap64 (x12_2 + 1)), att15_0_17, H', ⟨by have := HJ9.out; have := HK2.out; have := HK3.out; omega⟩, ⟨att15_0_12⟩, ⟨by (with_reducible repeat (first | apply Kd.R_alloc | apply Kd.R_drewN | apply Kd.R_drew)); exact Kd.R_mono HO_5.out (fun _ hk => hk.1)⟩, ⟨att15_0_11⟩, ⟨by (with_reducible repeat (first | apply Kd.R_alloc | apply Kd.R_drewN | apply Kd.R_drew)); exact Kd.R_mono HO_11.out (fun _ hk => hk.1)⟩, ⟨att15_0_0⟩⟩
        ·rw [if_neg c69] at H
         exact absurd H (by simp)
       ·rw [if_neg c68] at H
        have c68b0 : decide (x12_2 < (t498.length : Int)) = false := decide_eq_false c68
        clear c68
        replace H := Option.bind_eq_some_iff.mp H
        obtain ⟨t538, A800, H⟩ := H
        replace H : (if t538 = true then ((impl_ReachOf.f k2 t509 0).bind fun t539 => (if (wrap64 ((t512.length : Int) + (t539.length : Int))) = (t509.length : Int) then (if (t498.length : Int) = 0 then (some true) else ((laws_within.f k2 t498 t495).bind fun t542 => (some t542))) else (some false))) else (if (t498.length : Int) = 0 then (some true) else ((laws_within.f k2 t498 t495).bind fun t543 => (some t543)))) = some r := H
        have A80 := Aside0.mk A800
        clear A800
        by_cases c81 : t538 = true
        ·subst c81
         have H1 : ((impl_ReachOf.f k2 t509 0).bind fun t539 => (if (wrap64 ((t512.length : Int) + (t539.length : Int))) = (t509.length : Int) then (if (t498.length : Int) = 0 then (some true) else ((laws_within.f k2 t498 t495).bind fun t542 => (some t542))) else (some false))) = some r := by rw [if_pos rfl] at H; exact H
         clear H
         have H := H1
         clear H1
         replace H := Option.bind_eq_some_iff.mp H
         obtain ⟨t539, A820, H⟩ := H
         replace H : (if (wrap64 ((t512.length : Int) + (t539.length : Int))) = (t509.length : Int) then (if (t498.length : Int) = 0 then (some true) else ((laws_within.f k2 t498 t495).bind fun t542 => (some t542))) else (some false)) = some r := H
         have A82 := Aside0.mk A820
         clear A820
         by_cases c83 : (wrap64 ((t512.length : Int) + (t539.length : Int))) = (t509.length : Int)
         ·rw [if_pos c83] at H
          have c83b0 : ((wrap64 ((t512.length : Int) + (t539.length : Int))) == (t509.length : Int)) = true := beq_iff_eq.mpr c83
          have c83b1 : ((wrap64 ((t512.length : Int) + (t539.length : Int))) != (t509.length : Int)) = false := bne_eq_false_iff_eq.mpr c83
          clear c83
          by_cases c84 : (t498.length : Int) = 0
          ·rw [if_pos c84] at H
           have c84b0 : ((t498.length : Int) == 0) = true := beq_iff_eq.mpr c84
           have c84b1 : ((t498.length : Int) != 0) = false := bne_eq_false_iff_eq.mpr c84
           clear c84
           obtain rfl := Option.some.inj H
           obtain ⟨Ao85, co85, eo85⟩ := Kd.R_slice HO_5.out
           subst eo85
           go_wp2_with (first | ((with_reducible refine gate_callee (f := 34) rfl ?_); refine goesL_ (some 97) rfl rfl Try.func34 (by kernel_rfl) rfl #[.slice Ao17 t509.length co17, .int .i64 3] rfl att15_0_1 ?_; (with_reducible refine (impl_BodyOk.calls k2 _ _ t509 3 true _ ?side1 ?side2 A80.out).mono ?_); (case side1 => repeat (first | exact (Kd.R_reads' HO_10.out).2.2 | (with_reducible refine Kd.C_alloc ?_ _) | (with_reducible refine Kd.C_drewN ?_ _) | (with_reducible refine Kd.C_drew ?_))); (case side2 => exact (Kd.R_reads' HO_10.out).2.1); rintro e w86 ⟨rfl, hb⟩; refine ⟨_, rfl, ?_⟩; have n0_ := Aside0.mk (Kd.R_below att15_0_12 hb); have n1_ := Aside0.mk (Kd.R_below att15_0_10 hb); have n2_ := Aside0.mk (Kd.R_below att15_0_11 hb); have n3_ := Aside0.mk (Kd.R_below att15_0_8 hb); have n4_ := Aside0.mk (below_step att15_0_0 hb); clear HO_3; clear HO_5; clear HO_10; clear HO_11; clear HB; have HO_3 := n0_; have HO_5 := n1_; have HO_10 := n2_; have HO_11 := n3_; have HB := n4_; clear n0_ n1_ n2_ n3_ n4_; (try clear hb); (try clear hb2); (try clear hk); (try clear hi); obtain ⟨Ao87, co87, eo87⟩ := Kd.R_slice HO_11.out; subst eo87) | (go_at_call 21; (with_reducible refine (impl_ReachOf.calls k2 _ _ t509 0 t539 _ ?side1 ?side2 A82.out).mono ?_); (case side1 => repeat (first | exact (Kd.R_reads' HO_10.out).2.2 | (with_reducible refine Kd.C_alloc ?_ _) | (with_reducible refine Kd.C_drewN ?_ _) | (with_reducible refine Kd.C_drew ?_))); (case side2 => exact (Kd.R_reads' HO_10.out).2.1); rintro e w88 ⟨v540, rfl, ho0, hb⟩; have n0_ := Aside0.mk (Kd.R_below att15_0_12 hb); have n1_ := Aside0.mk (Kd.R_elder' att15_0_10 (Kd.R_base ho0) hb); have n2_ := Aside0.mk (Kd.R_below att15_0_11 hb); have n3_ := Aside0.mk (Kd.R_elder' att15_0_8 (Kd.R_base ho0) hb); have n4_ := Aside0.mk (Kd.R_lower (Kd.R_new' (Kd.R_new' ho0 (Kd.R_lt att15_0_10)) (Kd.R_lt att15_0_8)) (below_size att15_0_0)); have n5_ := Aside0.mk (below_step att15_0_0 hb); clear HO_3; clear HO_5; clear HO_10; clear HO_11; clear HB; have HO_3 := n0_; have HO_5 := n1_; have HO_10 := n2_; have HO_11 := n3_; have HO541 := n4_; have HB := n5_; clear n0_ n1_ n2_ n3_ n4_ n5_; (try clear hb); (try clear hb2); (try clear hk); (try clear hi); (try clear ho0); obtain ⟨Ao89, co89, eo89⟩ := Kd.R_slice HO541.out; subst eo89))
           go_ret
           exact ⟨by first | rfl | (simp [errW_none, errW_some] <;> rfl) | (simp [*, errW_none, errW_some] <;> rfl), att15_0_0⟩
          ·rw [if_neg c84] at H
           have c84b0 : ((t498.length : Int) == 0) = false := beq_eq_false_iff_ne.mpr c84
           have c84b1 : ((t498.length : Int) != 0) = true := bne_iff_ne.mpr c84
           have c84b2 : ¬ (t498 = []) := fun h_ => c84 (by rw [h_]; rfl)
           replace H := Option.bind_eq_some_iff.mp H
           obtain ⟨t542, A900, H⟩ := H
           replace H : (some t542) = some r := H
           have A90 := Aside0.mk A900
           clear A900
           obtain rfl := Option.some.inj H
           obtain ⟨Ao91, co91, eo91⟩ := Kd.R_slice HO_5.out
           subst eo91
           go_wp2_with (first | ((with_reducible refine gate_callee (f := 34) rfl ?_); refine goesL_ (some 97) rfl rfl Try.func34 (by kernel_rfl) rfl #[.slice Ao17 t509.length co17, .int .i64 3] rfl att15_0_1 ?_; (with_reducible refine (impl_BodyOk.calls k2 _ _ t509 3 true _ ?side1 ?side2 A80.out).mono ?_); (case side1 => repeat (first | exact (Kd.R_reads' HO_10.out).2.2 | (with_reducible refine Kd.C_alloc ?_ _) | (with_reducible refine Kd.C_drewN ?_ _) | (with_reducible refine Kd.C_drew ?_))); (case side2 => exact (Kd.R_reads' HO_10.out).2.1); rintro e w92 ⟨rfl, hb⟩; refine ⟨_, rfl, ?_⟩; have n0_ := Aside0.mk (Kd.R_below att15_0_12 hb); have n1_ := Aside0.mk (Kd.R_below att15_0_10 hb); have n2_ := Aside0.mk (Kd.R_below att15_0_11 hb); have n3_ := Aside0.mk (Kd.R_below att15_0_8 hb); have n4_ := Aside0.mk (below_step att15_0_0 hb); clear HO_3; clear HO_5; clear HO_10; clear HO_11; clear HB; have HO_3 := n0_; have HO_5 := n1_; have HO_10 := n2_; have HO_11 := n3_; have HB := n4_; clear n0_ n1_ n2_ n3_ n4_; (try clear hb); (try clear hb2); (try clear hk); (try clear hi); obtain ⟨Ao93, co93, eo93⟩ := Kd.R_slice HO_11.out; subst eo93) | (go_at_call 21; (with_reducible refine (impl_ReachOf.calls k2 _ _ t509 0 t539 _ ?side1 ?side2 A82.out).mono ?_); (case side1 => repeat (first | exact (Kd.R_reads' HO_10.out).2.2 | (with_reducible refine Kd.C_alloc ?_ _) | (with_reducible refine Kd.C_drewN ?_ _) | (with_reducible refine Kd.C_drew ?_))); (case side2 => exact (Kd.R_reads' HO_10.out).2.1); rintro e w94 ⟨v540, rfl, ho0, hb⟩; have n0_ := Aside0.mk (Kd.R_below att15_0_12 hb); have n1_ := Aside0.mk (Kd.R_elder' att15_0_10 (Kd.R_base ho0) hb); have n2_ := Aside0.mk (Kd.R_below att15_0_11 hb); have n3_ := Aside0.mk (Kd.R_elder' att15_0_8 (Kd.R_base ho0) hb); have n4_ := Aside0.mk (Kd.R_lower (Kd.R_new' (Kd.R_new' ho0 (Kd.R_lt att15_0_10)) (Kd.R_lt att15_0_8)) (below_size att15_0_0)); have n5_ := Aside0.mk (below_step att15_0_0 hb); clear HO_3; clear HO_5; clear HO_10; clear HO_11; clear HB; have HO_3 := n0_; have HO_5 := n1_; have HO_10 := n2_; have HO_11 := n3_; have HO541 := n4_; have HB := n5_; clear n0_ n1_ n2_ n3_ n4_ n5_; (try clear hb); (try clear hb2); (try clear hk); (try clear hi); (try clear ho0); obtain ⟨Ao95, co95, eo95⟩ := Kd.R_slice HO541.out; subst eo95) | (go_at_call 33; (with_reducible refine (laws_within.calls k2 _ _ t498 t495 t542 _ ?side1 ?side2 A90.out).mono ?_); (case side1 => repeat (first | exact (Kd.R_reads' HO_5.out).2.2 | (with_reducible refine Kd.C_alloc ?_ _) | (with_reducible refine Kd.C_drewN ?_ _) | (with_reducible refine Kd.C_drew ?_))); (case side2 => exact (Kd.R_reads' HO_5.out).2.1); rintro e w' ⟨rfl, ⟨nd, rfl⟩⟩))
           go_ret
           exact ⟨by first | rfl | (simp [errW_none, errW_some] <;> rfl) | (simp [*, errW_none, errW_some] <;> rfl), att15_0_0⟩
         ·rw [if_neg c83] at H
          have c83b0 : ((wrap64 ((t512.length : Int) + (t539.length : Int))) == (t509.length : Int)) = false := beq_eq_false_iff_ne.mpr c83
          have c83b1 : ((wrap64 ((t512.length : Int) + (t539.length : Int))) != (t509.length : Int)) = true := bne_iff_ne.mpr c83
          obtain rfl := Option.some.inj H
          obtain ⟨Ao96, co96, eo96⟩ := Kd.R_slice HO_5.out
          subst eo96
          go_wp2_with (first | ((with_reducible refine gate_callee (f := 34) rfl ?_); refine goesL_ (some 97) rfl rfl Try.func34 (by kernel_rfl) rfl #[.slice Ao17 t509.length co17, .int .i64 3] rfl att15_0_1 ?_; (with_reducible refine (impl_BodyOk.calls k2 _ _ t509 3 true _ ?side1 ?side2 A80.out).mono ?_); (case side1 => repeat (first | exact (Kd.R_reads' HO_10.out).2.2 | (with_reducible refine Kd.C_alloc ?_ _) | (with_reducible refine Kd.C_drewN ?_ _) | (with_reducible refine Kd.C_drew ?_))); (case side2 => exact (Kd.R_reads' HO_10.out).2.1); rintro e w97 ⟨rfl, hb⟩; refine ⟨_, rfl, ?_⟩; have n0_ := Aside0.mk (Kd.R_below att15_0_12 hb); have n1_ := Aside0.mk (Kd.R_below att15_0_10 hb); have n2_ := Aside0.mk (Kd.R_below att15_0_11 hb); have n3_ := Aside0.mk (Kd.R_below att15_0_8 hb); have n4_ := Aside0.mk (below_step att15_0_0 hb); clear HO_3; clear HO_5; clear HO_10; clear HO_11; clear HB; have HO_3 := n0_; have HO_5 := n1_; have HO_10 := n2_; have HO_11 := n3_; have HB := n4_; clear n0_ n1_ n2_ n3_ n4_; (try clear hb); (try clear hb2); (try clear hk); (try clear hi); obtain ⟨Ao98, co98, eo98⟩ := Kd.R_slice HO_11.out; subst eo98) | (go_at_call 21; (with_reducible refine (impl_ReachOf.calls k2 _ _ t509 0 t539 _ ?side1 ?side2 A82.out).mono ?_); (case side1 => repeat (first | exact (Kd.R_reads' HO_10.out).2.2 | (with_reducible refine Kd.C_alloc ?_ _) | (with_reducible refine Kd.C_drewN ?_ _) | (with_reducible refine Kd.C_drew ?_))); (case side2 => exact (Kd.R_reads' HO_10.out).2.1); rintro e w99 ⟨v540, rfl, ho0, hb⟩; have n0_ := Aside0.mk (Kd.R_below att15_0_12 hb); have n1_ := Aside0.mk (Kd.R_elder' att15_0_10 (Kd.R_base ho0) hb); have n2_ := Aside0.mk (Kd.R_below att15_0_11 hb); have n3_ := Aside0.mk (Kd.R_elder' att15_0_8 (Kd.R_base ho0) hb); have n4_ := Aside0.mk (Kd.R_lower (Kd.R_new' (Kd.R_new' ho0 (Kd.R_lt att15_0_10)) (Kd.R_lt att15_0_8)) (below_size att15_0_0)); have n5_ := Aside0.mk (below_step att15_0_0 hb); clear HO_3; clear HO_5; clear HO_10; clear HO_11; clear HB; have HO_3 := n0_; have HO_5 := n1_; have HO_10 := n2_; have HO_11 := n3_; have HO541 := n4_; have HB := n5_; clear n0_ n1_ n2_ n3_ n4_ n5_; (try clear hb); (try clear hb2); (try clear hk); (try clear hi); (try clear ho0); obtain ⟨Ao100, co100, eo100⟩ := Kd.R_slice HO541.out; subst eo100))
          go_ret
          exact ⟨by first | rfl | (simp [errW_none, errW_some] <;> rfl) | (simp [*, errW_none, errW_some] <;> rfl), att15_0_0⟩
        ·replace c81 := Bool.eq_false_iff.mpr c81
         subst c81
         have H1 : (if (t498.length : Int) = 0 then (some true) else ((laws_within.f k2 t498 t495).bind fun t543 => (some t543))) = some r := by rw [if_neg (show ¬ (false = true) by decide)] at H; exact H
         clear H
         have H := H1
         clear H1
         by_cases c101 : (t498.length : Int) = 0
         ·rw [if_pos c101] at H
          have c101b0 : ((t498.length : Int) == 0) = true := beq_iff_eq.mpr c101
          have c101b1 : ((t498.length : Int) != 0) = false := bne_eq_false_iff_eq.mpr c101
          clear c101
          obtain rfl := Option.some.inj H
          obtain ⟨Ao102, co102, eo102⟩ := Kd.R_slice HO_5.out
          subst eo102
          go_wp2_with (first | ((with_reducible refine gate_callee (f := 34) rfl ?_); refine goesL_ (some 97) rfl rfl Try.func34 (by kernel_rfl) rfl #[.slice Ao17 t509.length co17, .int .i64 3] rfl att15_0_1 ?_; (with_reducible refine (impl_BodyOk.calls k2 _ _ t509 3 false _ ?side1 ?side2 A80.out).mono ?_); (case side1 => repeat (first | exact (Kd.R_reads' HO_10.out).2.2 | (with_reducible refine Kd.C_alloc ?_ _) | (with_reducible refine Kd.C_drewN ?_ _) | (with_reducible refine Kd.C_drew ?_))); (case side2 => exact (Kd.R_reads' HO_10.out).2.1); rintro e w103 ⟨rfl, hb⟩; refine ⟨_, rfl, ?_⟩; have n0_ := Aside0.mk (Kd.R_below att15_0_12 hb); have n1_ := Aside0.mk (Kd.R_below att15_0_10 hb); have n2_ := Aside0.mk (Kd.R_below att15_0_11 hb); have n3_ := Aside0.mk (Kd.R_below att15_0_8 hb); have n4_ := Aside0.mk (below_step att15_0_0 hb); clear HO_3; clear HO_5; clear HO_10; clear HO_11; clear HB; have HO_3 := n0_; have HO_5 := n1_; have HO_10 := n2_; have HO_11 := n3_; have HB := n4_; clear n0_ n1_ n2_ n3_ n4_; (try clear hb); (try clear hb2); (try clear hk); (try clear hi)))
          go_ret
          exact ⟨by first | rfl | (simp [errW_none, errW_some] <;> rfl) | (simp [*, errW_none, errW_some] <;> rfl), att15_0_0⟩
         ·rw [if_neg c101] at H
          have c101b0 : ((t498.length : Int) == 0) = false := beq_eq_false_iff_ne.mpr c101
          have c101b1 : ((t498.length : Int) != 0) = true := bne_iff_ne.mpr c101
          have c101b2 : ¬ (t498 = []) := fun h_ => c101 (by rw [h_]; rfl)
          replace H := Option.bind_eq_some_iff.mp H
          obtain ⟨t543, A1040, H⟩ := H
          replace H : (some t543) = some r := H
          have A104 := Aside0.mk A1040
          clear A1040
          obtain rfl := Option.some.inj H
          obtain ⟨Ao105, co105, eo105⟩ := Kd.R_slice HO_5.out
          subst eo105
          go_wp2_with (first | ((with_reducible refine gate_callee (f := 34) rfl ?_); refine goesL_ (some 97) rfl rfl Try.func34 (by kernel_rfl) rfl #[.slice Ao17 t509.length co17, .int .i64 3] rfl att15_0_1 ?_; (with_reducible refine (impl_BodyOk.calls k2 _ _ t509 3 false _ ?side1 ?side2 A80.out).mono ?_); (case side1 => repeat (first | exact (Kd.R_reads' HO_10.out).2.2 | (with_reducible refine Kd.C_alloc ?_ _) | (with_reducible refine Kd.C_drewN ?_ _) | (with_reducible refine Kd.C_drew ?_))); (case side2 => exact (Kd.R_reads' HO_10.out).2.1); rintro e w106 ⟨rfl, hb⟩; refine ⟨_, rfl, ?_⟩; have n0_ := Aside0.mk (Kd.R_below att15_0_12 hb); have n1_ := Aside0.mk (Kd.R_below att15_0_10 hb); have n2_ := Aside0.mk (Kd.R_below att15_0_11 hb); have n3_ := Aside0.mk (Kd.R_below att15_0_8 hb); have n4_ := Aside0.mk (below_step att15_0_0 hb); clear HO_3; clear HO_5; clear HO_10; clear HO_11; clear HB; have HO_3 := n0_; have HO_5 := n1_; have HO_10 := n2_; have HO_11 := n3_; have HB := n4_; clear n0_ n1_ n2_ n3_ n4_; (try clear hb); (try clear hb2); (try clear hk); (try clear hi)) | (go_at_call 33; (with_reducible refine (laws_within.calls k2 _ _ t498 t495 t543 _ ?side1 ?side2 A104.out).mono ?_); (case side1 => repeat (first | exact (Kd.R_reads' HO_5.out).2.2 | (with_reducible refine Kd.C_alloc ?_ _) | (with_reducible refine Kd.C_drewN ?_ _) | (with_reducible refine Kd.C_drew ?_))); (case side2 => exact (Kd.R_reads' HO_5.out).2.1); rintro e w' ⟨rfl, ⟨nd, rfl⟩⟩))
          go_ret
          exact ⟨by first | rfl | (simp [errW_none, errW_some] <;> rfl) | (simp [*, errW_none, errW_some] <;> rfl), att15_0_0⟩

/-- THE ONE PURE STATEMENT of laws_FnFlows: yours. -/
def laws_FnFlows.Pure : Prop := ∀ (l0 : List Int), l0.length ≤ maxLen → l0.length * 1 ≤ 140737488351232 → (∀ x ∈ l0, (Lit.int .u8 x).wf = true) → ∃ k, laws_FnFlows.f k l0 = some true
theorem laws_FnFlows.walk (P : laws_FnFlows.Pure) (a0 : Option Addr) (len0 cap0 : Nat) (z0 : List Int) (w : World) (w0 : (a0 = none ∧ len0 = 0 ∧ cap0 = 0 ∧ z0 = []) ∨ ∃ x, a0 = some x ∧ len0 ≤ cap0 ∧ cap0 ≤ maxLen ∧ z0.length = cap0 ∧ (∀ i, i < z0.length → w.cell? (x.add i) = some (.int .u8 (z0.getD i 0))) ∧ ∀ n ∈ z0, (Lit.int .u8 n).wf = true) (y0 : len0 * 1 ≤ 140737488351232) :
  Calls Try.prog 4 #[.slice a0 len0 cap0] w fun e w' => e = .returned (.bool true) ∧ Below w.heap.size w w' := by
 obtain ⟨l0, rfl, hr0, hm0, hw0, hc0⟩ := ReadsInt.ofRowC w0
 obtain ⟨k, h⟩ := P l0 hm0 y0 hw0
 refine (laws_FnFlows.calls k _ _ l0 true w (Kd.C_of_reads (d := (0 : Int)) (h1 := fun _ => rfl) hr0) hc0 h).mono ?_
 rintro e w' ⟨rfl, hd⟩
 exact ⟨rfl, hd⟩

end Go.Proofs.Ytocimkpafakiaaa.XFnFlows
