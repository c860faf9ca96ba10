/- Each Go function that the law reaches as a Lean function, and that Go comes to just its answer; written by this session's xprint.py over the kit's printer. -/
import Derived.Test.YtonlhgkpmjefkaaXFnPlacesx0
import Derived.Test.YtonlhgkpmjefkaaXFnPlacesx2
import Derived.Test.YtonlhgkpmjefkaaXFnPlacesx5
import Derived.Test.YtonlhgkpmjefkaaXFnPlacesx8
import Derived.Test.YtonlhgkpmjefkaaXFnPlacesx12
namespace Go.Proofs.Ytonlhgkpmjefkaa.XFnPlaces
open Go.RowKit Go.Proofs.YtonlhgkpmjefkaaW.PrintWords Go.Proofs.YtonlhgkpmjefkaaW.PrintLast Go.Proofs.YtonlhgkpmjefkaaW.PrintMore
attribute [local go_sem] max2_int min2_int max_two min_two max_three min_three max_four min_four   -- for this text's walks alone
set_option linter.unusedVariables false
set_option linter.unusedSimpArgs false

theorem att14_0_0 {p : Prop} (h : p := by repeat (first | (with_reducible first | exact HB.out | apply below_alloc | apply pw_below_drewN | apply below_drew1 | refine below_set ?_ GE466.out | refine below_set ?_ GE478.out) | exact HB.out)) : p := h
theorem att14_0_1 {p : Prop} (h : p := by (with_reducible repeat (first | refine blk_drewN ?_ _ | refine blk_drew ?_ | refine blk_alloc ?_ _)); exact BK466.out) : p := h
theorem att14_0_2 {p : Prop} (h : p := by repeat (first | (with_reducible first | exact HB.out | apply below_alloc | apply pw_below_drewN | apply below_drew1 | refine below_set ?_ GE466.out) | exact HB.out)) : p := h
theorem att14_0_3 {p : Prop} (h : p := by (try simp only [List.map_toArray, List.map_cons, List.map_nil]); first | done | rfl | (simp only [List.length_drop, List.length_take]; rfl)) : p := h
theorem att14_0_4 {p : Prop} (h : p := by (with_reducible repeat (first | refine blk_drewN ?_ _ | refine blk_drew ?_ | refine blk_alloc ?_ _)); exact BK478.out) : p := h
theorem att14_0_5 {p : Prop} (h : p := by repeat (first | (with_reducible first | exact HB.out | apply below_alloc | apply pw_below_drewN | apply below_drew1) | exact HB.out)) : p := h
theorem att14_0_6 {p : Prop} (h : p := by first | (with_reducible assumption) | assumption) : p := h
theorem att14_0_7 {p : Prop} (h : p := by (with_reducible repeat (first | apply Kd.R_alloc | apply Kd.R_drewN | apply Kd.R_drew)); exact (Kd.R_mono (Kd.R_far (p := ⟨gb478, 1, none⟩) (Kd.R_far (p := ⟨gb478, 0, none⟩) (Kd.R_types HO473.out BK478.out (by decide)) (fun _ hk => hk.2) (.slice Ao20 t471.length co20)) (fun _ hk => hk.2) (.slice Ao23 t474.length co23)) (fun _ h_ => h_.1))) : p := h
theorem att14_0_8 {p : Prop} (h : p := by (with_reducible repeat (first | apply Kd.R_alloc | apply Kd.R_drewN | apply Kd.R_drew)); exact HO460.out) : p := h
theorem att14_0_9 {p : Prop} (h : p := by repeat (first | (with_reducible exact HR488_0.out) | (with_reducible refine Kd.C_alloc ?_ _) | (with_reducible refine Kd.C_drewN ?_ _) | (with_reducible refine Kd.C_drew ?_) | exact HR488_0.out)) : p := h
theorem att14_0_10 {p : Prop} (h : p := by (with_reducible repeat (first | apply Kd.S_alloc | apply Kd.S_drewN | apply Kd.S_drew)); exact HO463.out) : p := h
theorem att14_0_11 {p : Prop} (h : p := by (with_reducible repeat (first | apply Kd.S_alloc | apply Kd.S_drewN | apply Kd.S_drew)); exact (Kd.S_mono (Kd.S_far (p := ⟨gb478, 1, none⟩) (Kd.S_far (p := ⟨gb478, 0, none⟩) (Kd.S_types HO476.out BK478.out (by decide)) (fun _ hk => hk.2) (.slice Ao20 t471.length co20)) (fun _ hk => hk.2) (.slice Ao23 t474.length co23)) (fun _ h_ => h_.1))) : p := h
theorem att14_0_12 {p : Prop} (h : p := by (with_reducible repeat (first | apply Kd.S_alloc | apply Kd.S_drewN | apply Kd.S_drew)); exact (Kd.S_mono (Kd.S_far (p := ⟨gb466, 1, none⟩) (Kd.S_far (p := ⟨gb466, 0, none⟩) (Kd.S_types HO463.out BK466.out (by decide)) (fun _ hk => hk.2) (.slice Ao12 t458.length co12)) (fun _ hk => hk.2) (.slice Ao14 t461.length co14)) (fun _ h_ => h_.1))) : p := h
theorem att14_0_13 {p : Prop} (h : p := by (with_reducible repeat (first | apply Kd.R_alloc | apply Kd.R_drewN | apply Kd.R_drew)); exact (Kd.R_mono (Kd.R_far (p := ⟨gb478, 1, none⟩) (Kd.R_far (p := ⟨gb478, 0, none⟩) (Kd.R_types HO460.out BK478.out (by decide)) (fun _ hk => hk.2) (.slice Ao20 t471.length co20)) (fun _ hk => hk.2) (.slice Ao23 t474.length co23)) (fun _ h_ => h_.1))) : p := h
theorem att14_0_14 {p : Prop} (h : p := by (with_reducible repeat (first | apply Kd.R_alloc | apply Kd.R_drewN | apply Kd.R_drew)); exact (Kd.R_mono (Kd.R_far (p := ⟨gb466, 1, none⟩) (Kd.R_far (p := ⟨gb466, 0, none⟩) (Kd.R_types HO460.out BK466.out (by decide)) (fun _ hk => hk.2) (.slice Ao12 t458.length co12)) (fun _ hk => hk.2) (.slice Ao14 t461.length co14)) (fun _ h_ => h_.1))) : p := h
theorem att14_0_15 {p : Prop} (h : p := by (with_reducible repeat (first | apply Kd.S_alloc | apply Kd.S_drewN | apply Kd.S_drew)); exact HO_479001.out) : p := h
theorem att14_0_16 {p : Prop} (h : p := by (with_reducible repeat (first | apply Kd.S_alloc | apply Kd.S_drewN | apply Kd.S_drew)); exact HO_467001.out) : p := h
theorem att14_0_17 {p : Prop} (h : p := by (with_reducible repeat (first | apply Kd.R_alloc | apply Kd.R_drewN | apply Kd.R_drew)); exact HO_479000.out) : p := h
theorem att14_0_18 {p : Prop} (h : p := by (with_reducible repeat (first | apply Kd.R_alloc | apply Kd.R_drewN | apply Kd.R_drew)); exact HO_467000.out) : p := h
theorem att14_0_19 {p : Prop} (h : p := by (with_reducible repeat (first | apply Kd.R_alloc | apply Kd.R_drewN | apply Kd.R_drew)); exact HO_12.out) : p := h
theorem att14_0_20 {p : Prop} (h : p := by (with_reducible repeat (first | apply Kd.S_alloc | apply Kd.S_drewN | apply Kd.S_drew)); exact Kd.S_mono HO476.out (fun _ hk => hk.2)) : p := h
theorem att14_0_21 {p : Prop} (h : p := by (with_reducible repeat (first | apply Kd.S_alloc | apply Kd.S_drewN | apply Kd.S_drew)); exact Kd.S_mono HO463.out (fun _ hk => hk.2)) : p := h
theorem att14_0_22 {p : Prop} (h : p := by (with_reducible repeat (first | apply Kd.R_alloc | apply Kd.R_drewN | apply Kd.R_drew)); exact HO473.out) : p := h
theorem att14_0_23 {p : Prop} (h : p := by first | rfl | (simp; done) | (simp [*]; done)) : p := h
theorem att14_0_24 {p : Prop} (h : p := by (try simp only [List.map_toArray, List.map_cons, List.map_nil]); first | done | (simp only [hji37]; rfl) | rfl | (simp only [List.length_drop, List.length_take]; rfl)) : p := h
theorem att14_0_25 {p : Prop} (h : p := by (with_reducible repeat (first | apply Kd.R_alloc | apply Kd.R_drewN | apply Kd.R_drew)); exact Kd.R_mono HO481.out (fun _ hk => ⟨hk.1.2, hk.2⟩)) : p := h
theorem att14_0_26 {p : Prop} (h : p := by (with_reducible repeat (first | apply Kd.R_alloc | apply Kd.R_drewN | apply Kd.R_drew)); exact Kd.R_mono HO473.out (fun _ hk => ⟨hk.2, hk.1.2⟩)) : p := h
theorem att14_0_27 {p : Prop} (h : p := by (with_reducible repeat (first | apply Kd.R_alloc | apply Kd.R_drewN | apply Kd.R_drew)); exact Kd.R_mono HO460.out (fun _ hk => ⟨hk.2, hk.1.2⟩)) : p := h
theorem att14_0_28 {p : Prop} (h : p := by (with_reducible repeat (first | apply Kd.R_alloc | apply Kd.R_drewN | apply Kd.R_drew)); exact HL488_0.out) : p := h
theorem att14_0_29 {p : Prop} (h : p := by (with_reducible repeat (first | apply Kd.S_alloc | apply Kd.S_drewN | apply Kd.S_drew)); exact HO476.out) : p := h
theorem att14_0_30 {p : Prop} (h : p := by (with_reducible repeat (first | apply Kd.R_alloc | apply Kd.R_drewN | apply Kd.R_drew)); exact HO481.out) : p := h
theorem att14_1_0 {p : Prop} (h : p := by first | exact q488 | exact of_decide_eq_true att14_0_6 | (have e_ := (Kd.S_reads' HO_479001.out).1; omega)) : p := h
/-! ### laws_FnPlaces: function 9 -/
mutual
def laws_FnPlaces.j0 : Nat → Int → Bool → Int → List Int → Bool → List Int → List (List (S37)) → Option (Bool)
 | 0, _, _, _, _, _, _, _ => none
 | k + 1, x6, x7, x11, x12, x59, x479000, x479001 => if x59 = true then (some false) else (laws_FnPlaces.l0 k x6 x7 x11 x12 1 x479000 x479001)
def laws_FnPlaces.l0 : Nat → Int → Bool → Int → List Int → Int → List Int → List (List (S37)) → Option (Bool)
 | 0, _, _, _, _, _, _, _ => none
 | k + 1, x6, x7, x11, x12, x13, x479000, x479001 => if x13 < (x12.length : Int) then (if 0 ≤ x13 then (if 0 ≤ (wrap64 (x13 - 1)) then (if (wrap64 (x13 - 1)) < (x12.length : Int) then (if 0 ≤ x11 then (if x11 < (x479001.length : Int) then (if (wrap64 (x13 - 1)) < ((rd_L3 x479001 x11).length : Int) then ((impl_EmitSize.f ((rd_T37 (rd_L3 x479001 x11) (wrap64 (x13 - 1))).f0) ((rd_T37 (rd_L3 x479001 x11) (wrap64 (x13 - 1))).f1) ((rd_T37 (rd_L3 x479001 x11) (wrap64 (x13 - 1))).f2) ((rd_T37 (rd_L3 x479001 x11) (wrap64 (x13 - 1))).f3) ((rd_T37 (rd_L3 x479001 x11) (wrap64 (x13 - 1))).f4)).bind fun t490 => (if (wrap64 ((rd x12 x13) - (rd x12 (wrap64 (x13 - 1))))) = t490 then (laws_FnPlaces.l0 k x6 x7 x11 x12 (wrap64 (x13 + 1)) x479000 x479001) else (some false))) else (none)) else (none)) else (none)) else (none)) else (none)) else (none)) else (if x6 ≥ 0 then (some true) else (if x6 = (-1) then (some (!x7)) else (some false)))
end
def laws_FnPlaces.f (k : Nat) (l0 : List Int) : Option (Bool) := (laws_big.f l0).bind fun t457 => (if t457 = true then (some true) else ((spec_DrawPlaceOf.f k l0).bind fun bt458 => ((impl_PlaceOf.f k bt458.1 bt458.2.1 bt458.2.2.1 bt458.2.2.2).bind fun bt467 => ((spec_PlaceOf.f k bt458.1 bt458.2.1 bt458.2.2.1 bt458.2.2.2).bind fun bt469 => ((spec_DrawStarts.f k l0).bind fun bt471 => ((impl_Starts.f k bt471.1 bt471.2.1 bt471.2.2).bind fun t479 => (if bt467.1 = bt469.1 then (if (bt467.2 != bt469.2) = true then (laws_FnPlaces.j0 k bt467.1 bt467.2 bt471.2.2 t479 true bt471.1 bt471.2.1) else ((spec_Starts.f k bt471.1 bt471.2.1 bt471.2.2).bind fun t482 => ((laws_sameInts.f k t479 t482).bind fun t485 => (laws_FnPlaces.j0 k bt467.1 bt467.2 bt471.2.2 t479 (!t485) bt471.1 bt471.2.1)))) else (laws_FnPlaces.j0 k bt467.1 bt467.2 bt471.2.2 t479 true bt471.1 bt471.2.1))))))))
theorem laws_FnPlaces.mono_l : ∀ k, (∀ y0 y1 y2 y3 y4 y5 y6, LeO (laws_FnPlaces.j0 k y0 y1 y2 y3 y4 y5 y6) (laws_FnPlaces.j0 (k + 1) y0 y1 y2 y3 y4 y5 y6)) ∧ (∀ y0 y1 y2 y3 y4 y5 y6, LeO (laws_FnPlaces.l0 k y0 y1 y2 y3 y4 y5 y6) (laws_FnPlaces.l0 (k + 1) y0 y1 y2 y3 y4 y5 y6))
 | 0 => ⟨fun _ _ _ _ _ _ _ r h => by simp [laws_FnPlaces.j0] at h, fun _ _ _ _ _ _ _ r h => by simp [laws_FnPlaces.l0] at h⟩
 | k + 1 => by
  obtain ⟨ih0, ih1⟩ := laws_FnPlaces.mono_l k
  refine ⟨?_, ?_⟩
  ·intro y0 y1 y2 y3 y4 y5 y6
   unfold laws_FnPlaces.j0
   repeat' first
   | (with_reducible exact ih0 _ _ _ _ _ _ _)
   | (with_reducible exact ih1 _ _ _ _ _ _ _)
   | (with_reducible exact impl_PlaceOf.mono _ _ _ _ _)
   | (with_reducible exact impl_Starts.mono _ _ _ _)
   | (with_reducible exact laws_sameInts.mono _ _ _)
   | (with_reducible exact spec_DrawPlaceOf.mono _ _)
   | (with_reducible exact spec_DrawStarts.mono _ _)
   | (with_reducible exact spec_PlaceOf.mono _ _ _ _ _)
   | (with_reducible exact spec_Starts.mono _ _ _ _)
   | (with_reducible exact LeO.refl _)
   | (with_reducible exact LeO.none _)
   | (with_reducible refine LeO.ite ?_ ?_)
   | (with_reducible refine LeO.bind ?_ (fun _ => ?_))
   | exact ih0 _ _ _ _ _ _ _
   | exact ih1 _ _ _ _ _ _ _
   | exact impl_PlaceOf.mono _ _ _ _ _
   | exact impl_Starts.mono _ _ _ _
   | exact laws_sameInts.mono _ _ _
   | exact spec_DrawPlaceOf.mono _ _
   | exact spec_DrawStarts.mono _ _
   | exact spec_PlaceOf.mono _ _ _ _ _
   | exact spec_Starts.mono _ _ _ _
   | exact LeO.none _
   | refine LeO.ite ?_ ?_
   | refine LeO.bind ?_ (fun _ => ?_)
  ·intro y0 y1 y2 y3 y4 y5 y6
   unfold laws_FnPlaces.l0
   repeat' first
   | (with_reducible exact ih0 _ _ _ _ _ _ _)
   | (with_reducible exact ih1 _ _ _ _ _ _ _)
   | (with_reducible exact impl_PlaceOf.mono _ _ _ _ _)
   | (with_reducible exact impl_Starts.mono _ _ _ _)
   | (with_reducible exact laws_sameInts.mono _ _ _)
   | (with_reducible exact spec_DrawPlaceOf.mono _ _)
   | (with_reducible exact spec_DrawStarts.mono _ _)
   | (with_reducible exact spec_PlaceOf.mono _ _ _ _ _)
   | (with_reducible exact spec_Starts.mono _ _ _ _)
   | (with_reducible exact LeO.refl _)
   | (with_reducible exact LeO.none _)
   | (with_reducible refine LeO.ite ?_ ?_)
   | (with_reducible refine LeO.bind ?_ (fun _ => ?_))
   | exact ih0 _ _ _ _ _ _ _
   | exact ih1 _ _ _ _ _ _ _
   | exact impl_PlaceOf.mono _ _ _ _ _
   | exact impl_Starts.mono _ _ _ _
   | exact laws_sameInts.mono _ _ _
   | exact spec_DrawPlaceOf.mono _ _
   | exact spec_DrawStarts.mono _ _
   | exact spec_PlaceOf.mono _ _ _ _ _
   | exact spec_Starts.mono _ _ _ _
   | exact LeO.none _
   | refine LeO.ite ?_ ?_
   | refine LeO.bind ?_ (fun _ => ?_)
theorem laws_FnPlaces.mono : ∀ a0 k, LeO (laws_FnPlaces.f k a0) (laws_FnPlaces.f (k + 1) a0) := by
 intro a0 k
 obtain ⟨ih0, ih1⟩ := laws_FnPlaces.mono_l k
 unfold laws_FnPlaces.f
 repeat' first
   | (with_reducible exact ih0 _ _ _ _ _ _ _)
   | (with_reducible exact ih1 _ _ _ _ _ _ _)
   | (with_reducible exact impl_PlaceOf.mono _ _ _ _ _)
   | (with_reducible exact impl_Starts.mono _ _ _ _)
   | (with_reducible exact laws_sameInts.mono _ _ _)
   | (with_reducible exact spec_DrawPlaceOf.mono _ _)
   | (with_reducible exact spec_DrawStarts.mono _ _)
   | (with_reducible exact spec_PlaceOf.mono _ _ _ _ _)
   | (with_reducible exact spec_Starts.mono _ _ _ _)
   | (with_reducible exact LeO.refl _)
   | (with_reducible exact LeO.none _)
   | (with_reducible refine LeO.ite ?_ ?_)
   | (with_reducible refine LeO.bind ?_ (fun _ => ?_))
   | exact ih0 _ _ _ _ _ _ _
   | exact ih1 _ _ _ _ _ _ _
   | exact impl_PlaceOf.mono _ _ _ _ _
   | exact impl_Starts.mono _ _ _ _
   | exact laws_sameInts.mono _ _ _
   | exact spec_DrawPlaceOf.mono _ _
   | exact spec_DrawStarts.mono _ _
   | exact spec_PlaceOf.mono _ _ _ _ _
   | exact spec_Starts.mono _ _ _ _
   | exact LeO.none _
   | refine LeO.ite ?_ ?_
   | refine LeO.bind ?_ (fun _ => ?_)
def laws_FnPlaces.T13 : Bool × List (List Nat × List Nat) := (true, [([], []), ([], []), ([0, 1], [0, 1]), ([2], [2]), ([], []), ([], []), ([5], [5]), ([4, 6], [4, 6]), ([7], [7]), ([3, 8], [3, 8]), ([], []), ([10], [10]), ([], []), ([11, 12], [11, 12]), ([13], [13]), ([], []), ([15], [15]), ([14, 16], [14, 16]), ([17], [17]), ([18], [18]), ([9, 19], [9, 19])])
def laws_FnPlaces.B13 : List Nat := [0, 0, 3, 7, 0, 0, 32, 112, 240, 511, 0, 1024, 0, 7168, 15360, 0, 32768, 130048, 261120, 523264, 1048575]
theorem laws_FnPlaces.tab13 : rtab .any (opsOf Try.f9 13) = laws_FnPlaces.T13 := by kernel_rfl
theorem laws_FnPlaces.bits13 : waitsOk laws_FnPlaces.T13.2 laws_FnPlaces.B13 = true := by kernel_rfl
set_option maxHeartbeats 80000000 in
set_option maxRecDepth 100000 in
theorem laws_FnPlaces.calls (k : Nat) (A0 : Option Addr) (c0 : Nat) (l0 : List Int) (r : Bool) (w : World) (hr0 : Kd.C (Kd.int .u8) w A0 l0.length l0) (hc0 : l0.length ≤ c0) (h : laws_FnPlaces.f k l0 = some r) :
  Calls Try.prog 9 #[.slice A0 l0.length c0] w fun e w' => e = .returned (.bool r) ∧ Below w.heap.size w w' := by
 have hu30 := Try.underlying30
 have hu37 := Try.underlying37
 have HR0 := Aside0.mk hr0
 have HC0 := Aside0.mk hc0
 clear hr0 hc0
 have HB := Aside0.mk (Below.refl w.heap.size w)
 have H : ((laws_big.f l0).bind fun t457 => (if t457 = true then (some true) else ((spec_DrawPlaceOf.f k l0).bind fun bt458 => ((impl_PlaceOf.f k bt458.1 bt458.2.1 bt458.2.2.1 bt458.2.2.2).bind fun bt467 => ((spec_PlaceOf.f k bt458.1 bt458.2.1 bt458.2.2.1 bt458.2.2.2).bind fun bt469 => ((spec_DrawStarts.f k l0).bind fun bt471 => ((impl_Starts.f k bt471.1 bt471.2.1 bt471.2.2).bind fun t479 => (if bt467.1 = bt469.1 then (if (bt467.2 != bt469.2) = true then (laws_FnPlaces.j0 k bt467.1 bt467.2 bt471.2.2 t479 true bt471.1 bt471.2.1) else ((spec_Starts.f k bt471.1 bt471.2.1 bt471.2.2).bind fun t482 => ((laws_sameInts.f k t479 t482).bind fun t485 => (laws_FnPlaces.j0 k bt467.1 bt467.2 bt471.2.2 t479 (!t485) bt471.1 bt471.2.1)))) else (laws_FnPlaces.j0 k bt467.1 bt467.2 bt471.2.2 t479 true bt471.1 bt471.2.1))))))))) = some r := h
 clear h
 replace H := Option.bind_eq_some_iff.mp H
 obtain ⟨t457, A20, H⟩ := H
 replace H : (if t457 = true then (some true) else ((spec_DrawPlaceOf.f k l0).bind fun bt458 => ((impl_PlaceOf.f k bt458.1 bt458.2.1 bt458.2.2.1 bt458.2.2.2).bind fun bt467 => ((spec_PlaceOf.f k bt458.1 bt458.2.1 bt458.2.2.1 bt458.2.2.2).bind fun bt469 => ((spec_DrawStarts.f k l0).bind fun bt471 => ((impl_Starts.f k bt471.1 bt471.2.1 bt471.2.2).bind fun t479 => (if bt467.1 = bt469.1 then (if (bt467.2 != bt469.2) = true then (laws_FnPlaces.j0 k bt467.1 bt467.2 bt471.2.2 t479 true bt471.1 bt471.2.1) else ((spec_Starts.f k bt471.1 bt471.2.1 bt471.2.2).bind fun t482 => ((laws_sameInts.f k t479 t482).bind fun t485 => (laws_FnPlaces.j0 k bt467.1 bt467.2 bt471.2.2 t479 (!t485) bt471.1 bt471.2.1)))) else (laws_FnPlaces.j0 k bt467.1 bt467.2 bt471.2.2 t479 true bt471.1 bt471.2.1)))))))) = some r := H
 have A2 := Aside0.mk A20
 clear A20
 by_cases c3 : t457 = true
 ·subst c3
  have H1 : (some true) = some r := by rw [if_pos rfl] at H; exact H
  clear H
  have H := H1
  clear H1
  obtain rfl := Option.some.inj H
  go_enter Try.func9, Try.ntmps9
  go_wp2_with (first | ((with_reducible refine gate_callee (f := 20) rfl ?_); refine goesL_ (some 15) rfl rfl Try.func20 (by kernel_rfl) rfl #[.slice A0 l0.length c0] rfl att14_0_3 ?_; (with_reducible refine (laws_big.calls _ _ l0 true _ ?side1 ?side2 A2.out).mono ?_); (case side1 => repeat (first | exact HR0.out | (with_reducible refine Kd.C_alloc ?_ _) | (with_reducible refine Kd.C_drewN ?_ _) | (with_reducible refine Kd.C_drew ?_))); (case side2 => exact HC0.out); rintro e w' ⟨rfl, ⟨nd, rfl⟩⟩; refine ⟨_, rfl, ?_⟩))
  go_ret
  exact ⟨by first | rfl | (simp [errW_none, errW_some] <;> rfl) | (simp [*, errW_none, errW_some] <;> rfl), att14_0_5⟩
 ·replace c3 := Bool.eq_false_iff.mpr c3
  subst c3
  have H1 : ((spec_DrawPlaceOf.f k l0).bind fun bt458 => ((impl_PlaceOf.f k bt458.1 bt458.2.1 bt458.2.2.1 bt458.2.2.2).bind fun bt467 => ((spec_PlaceOf.f k bt458.1 bt458.2.1 bt458.2.2.1 bt458.2.2.2).bind fun bt469 => ((spec_DrawStarts.f k l0).bind fun bt471 => ((impl_Starts.f k bt471.1 bt471.2.1 bt471.2.2).bind fun t479 => (if bt467.1 = bt469.1 then (if (bt467.2 != bt469.2) = true then (laws_FnPlaces.j0 k bt467.1 bt467.2 bt471.2.2 t479 true bt471.1 bt471.2.1) else ((spec_Starts.f k bt471.1 bt471.2.1 bt471.2.2).bind fun t482 => ((laws_sameInts.f k t479 t482).bind fun t485 => (laws_FnPlaces.j0 k bt467.1 bt467.2 bt471.2.2 t479 (!t485) bt471.1 bt471.2.1)))) else (laws_FnPlaces.j0 k bt467.1 bt467.2 bt471.2.2 t479 true bt471.1 bt471.2.1))))))) = some r := by rw [if_neg (show ¬ (false = true) by decide)] at H; exact H
  clear H
  have H := H1
  clear H1
  replace H := Option.bind_eq_some_iff.mp H
  obtain ⟨⟨t458, t461, t464, t465⟩, A40, H⟩ := H
  replace H : ((impl_PlaceOf.f k t458 t461 t464 t465).bind fun bt467 => ((spec_PlaceOf.f k t458 t461 t464 t465).bind fun bt469 => ((spec_DrawStarts.f k l0).bind fun bt471 => ((impl_Starts.f k bt471.1 bt471.2.1 bt471.2.2).bind fun t479 => (if bt467.1 = bt469.1 then (if (bt467.2 != bt469.2) = true then (laws_FnPlaces.j0 k bt467.1 bt467.2 bt471.2.2 t479 true bt471.1 bt471.2.1) else ((spec_Starts.f k bt471.1 bt471.2.1 bt471.2.2).bind fun t482 => ((laws_sameInts.f k t479 t482).bind fun t485 => (laws_FnPlaces.j0 k bt467.1 bt467.2 bt471.2.2 t479 (!t485) bt471.1 bt471.2.1)))) else (laws_FnPlaces.j0 k bt467.1 bt467.2 bt471.2.2 t479 true bt471.1 bt471.2.1)))))) = some r := H
  have A4 := Aside0.mk A40
  clear A40
  replace H := Option.bind_eq_some_iff.mp H
  obtain ⟨⟨t467, t468⟩, A50, H⟩ := H
  replace H : ((spec_PlaceOf.f k t458 t461 t464 t465).bind fun bt469 => ((spec_DrawStarts.f k l0).bind fun bt471 => ((impl_Starts.f k bt471.1 bt471.2.1 bt471.2.2).bind fun t479 => (if t467 = bt469.1 then (if (t468 != bt469.2) = true then (laws_FnPlaces.j0 k t467 t468 bt471.2.2 t479 true bt471.1 bt471.2.1) else ((spec_Starts.f k bt471.1 bt471.2.1 bt471.2.2).bind fun t482 => ((laws_sameInts.f k t479 t482).bind fun t485 => (laws_FnPlaces.j0 k t467 t468 bt471.2.2 t479 (!t485) bt471.1 bt471.2.1)))) else (laws_FnPlaces.j0 k t467 t468 bt471.2.2 t479 true bt471.1 bt471.2.1))))) = some r := H
  have A5 := Aside0.mk A50
  clear A50
  replace H := Option.bind_eq_some_iff.mp H
  obtain ⟨⟨t469, t470⟩, A60, H⟩ := H
  replace H : ((spec_DrawStarts.f k l0).bind fun bt471 => ((impl_Starts.f k bt471.1 bt471.2.1 bt471.2.2).bind fun t479 => (if t467 = t469 then (if (t468 != t470) = true then (laws_FnPlaces.j0 k t467 t468 bt471.2.2 t479 true bt471.1 bt471.2.1) else ((spec_Starts.f k bt471.1 bt471.2.1 bt471.2.2).bind fun t482 => ((laws_sameInts.f k t479 t482).bind fun t485 => (laws_FnPlaces.j0 k t467 t468 bt471.2.2 t479 (!t485) bt471.1 bt471.2.1)))) else (laws_FnPlaces.j0 k t467 t468 bt471.2.2 t479 true bt471.1 bt471.2.1)))) = some r := H
  have A6 := Aside0.mk A60
  clear A60
  replace H := Option.bind_eq_some_iff.mp H
  obtain ⟨⟨t471, t474, t477⟩, A70, H⟩ := H
  replace H : ((impl_Starts.f k t471 t474 t477).bind fun t479 => (if t467 = t469 then (if (t468 != t470) = true then (laws_FnPlaces.j0 k t467 t468 t477 t479 true t471 t474) else ((spec_Starts.f k t471 t474 t477).bind fun t482 => ((laws_sameInts.f k t479 t482).bind fun t485 => (laws_FnPlaces.j0 k t467 t468 t477 t479 (!t485) t471 t474)))) else (laws_FnPlaces.j0 k t467 t468 t477 t479 true t471 t474))) = some r := H
  have A7 := Aside0.mk A70
  clear A70
  replace H := Option.bind_eq_some_iff.mp H
  obtain ⟨t479, A80, H⟩ := H
  replace H : (if t467 = t469 then (if (t468 != t470) = true then (laws_FnPlaces.j0 k t467 t468 t477 t479 true t471 t474) else ((spec_Starts.f k t471 t474 t477).bind fun t482 => ((laws_sameInts.f k t479 t482).bind fun t485 => (laws_FnPlaces.j0 k t467 t468 t477 t479 (!t485) t471 t474)))) else (laws_FnPlaces.j0 k t467 t468 t477 t479 true t471 t474)) = some r := H
  have A8 := Aside0.mk A80
  clear A80
  have HC9 := Aside0.mk H
  clear H
  go_enter Try.func9, Try.ntmps9
  go_upto_region 8 with (first | ((with_reducible refine gate_callee (f := 20) rfl ?_); refine goesL_ (some 15) rfl rfl Try.func20 (by kernel_rfl) rfl #[.slice A0 l0.length c0] rfl att14_0_3 ?_; (with_reducible refine (laws_big.calls _ _ l0 false _ ?side1 ?side2 A2.out).mono ?_); (case side1 => repeat (first | exact HR0.out | (with_reducible refine Kd.C_alloc ?_ _) | (with_reducible refine Kd.C_drewN ?_ _) | (with_reducible refine Kd.C_drew ?_))); (case side2 => exact HC0.out); rintro e w' ⟨rfl, ⟨nd, rfl⟩⟩; refine ⟨_, rfl, ?_⟩) | ((with_reducible refine gate_callee (f := 61) rfl ?_); refine goesL_ (some 18) rfl rfl Try.func61 (by kernel_rfl) rfl #[.slice A0 l0.length c0] rfl att14_0_3 ?_; (with_reducible refine (spec_DrawPlaceOf.calls k _ _ l0 t458 t461 t464 t465 _ ?side1 ?side2 A4.out).mono ?_); (case side1 => repeat (first | exact HR0.out | (with_reducible refine Kd.C_alloc ?_ _) | (with_reducible refine Kd.C_drewN ?_ _) | (with_reducible refine Kd.C_drew ?_))); (case side2 => exact HC0.out); rintro e w10 ⟨v459, v462, rfl, ho0, ho1, hb⟩; refine ⟨_, rfl, ?_⟩; have n0_ := Aside0.mk (Kd.R_lower ho0 (below_size att14_0_5)); have n1_ := Aside0.mk (Kd.S_lower ho1 (below_size att14_0_5)); have n2_ := Aside0.mk (below_step att14_0_5 hb); clear HB; have HO460 := n0_; have HO463 := n1_; have HB := n2_; clear n0_ n1_ n2_; (try clear hb); (try clear hb2); (try clear hk); (try clear hi); (try clear ho0); (try clear ho1)) | ((with_reducible refine gate_dst (N := 3) rfl ?_); refine box_event ?hg (N := 3) ?hd (cs := #[.slice none 0 0, .slice none 0 0]) (t := 30) ?hr ?_; (case hd => rfl); (case hg => rfl); (case hr => first | (go_simp; done) | (go_simp; rfl)); intro gb466 hg w11 hbox hb; have n0_ := Aside0.mk (Kd.R_below att14_0_8 hb); have n1_ := Aside0.mk (Kd.S_below att14_0_10 hb); have n2_ := Aside0.mk (below_step att14_0_5 hb); have n3_ := Aside0.mk (hbox); have n4_ := Aside0.mk ((by rw [hg]; exact (below_size att14_0_5) : w.heap.size ≤ gb466)); have n5_ := Aside0.mk ((by rw [hg]; exact (below_size att14_0_5) : w.heap.size ≤ gb466)); clear HO460; clear HO463; clear HB; have HO460 := n0_; have HO463 := n1_; have HB := n2_; have BK466 := n3_; have GW466 := n4_; have GE466 := n5_; clear n0_ n1_ n2_ n3_ n4_ n5_; clear hb hbox hg; obtain ⟨Ao12, co12, eo12⟩ := Kd.R_slice HO460.out; subst eo12; have hcz13_0 : w11.cell? ⟨gb466, 0, none⟩ = some (.slice none 0 0) := (blk_cell BK466.out 0).trans rfl; have hcz13_1 : w11.cell? ⟨gb466, 1, none⟩ = some (.slice none 0 0) := (blk_cell BK466.out 1).trans rfl; have hfz13_0 := blk_frozen BK466.out 0; have hfz13_1 := blk_frozen BK466.out 1; obtain ⟨Ao14, co14, eo14⟩ := Kd.S_slice HO463.out; subst eo14) | ((with_reducible refine gate_callee (f := 60) rfl ?_); refine goesL_ (some 26) rfl rfl Try.func60 (by kernel_rfl) rfl #[.agg #[.slice Ao12 t458.length co12, .slice Ao14 t461.length co14], .int .i64 t464, .int .i64 t465] rfl att14_0_3 ?_; (with_reducible refine (impl_PlaceOf.calls k _ _ t458 _ _ t461 t464 t465 t467 t468 _ ?side1 ?side2 ?side3 ?side4 A5.out).mono ?_); (case side1 => refine (Kd.R_reads' (e := 3) (base := w.heap.size) (ok := fun k_ => True) (n := t458.length) (c := co12) ?_).2.2; exact att14_0_14); (case side2 => exact (Kd.R_reads' HO460.out).2.1); (case side3 => refine (Kd.S_reads' (e := 51) (base := w.heap.size) (ok := fun k_ => True) (n := t461.length) (c := co14) ?_).2.2; exact att14_0_12); (case side4 => exact (Kd.S_reads' HO463.out).2.1); rintro e w15 ⟨rfl, hb⟩; refine ⟨_, rfl, ?_⟩; have n0_ := Aside0.mk (Kd.R_below att14_0_14 hb); have n1_ := Aside0.mk (Kd.S_below att14_0_12 hb); have n2_ := Aside0.mk (blk_below (g := gb466) (o := .cells #[.slice Ao12 t458.length co12, .slice Ao14 t461.length co14] 30 (0, 0)) (by (with_reducible repeat (first | refine blk_drewN ?_ _ | refine blk_drew ?_ | refine blk_alloc ?_ _)); refine blk_put (cs := #[.slice Ao12 t458.length co12, .slice none 0 0]) ?_ 1 _ rfl; (with_reducible repeat (first | refine blk_drewN ?_ _ | refine blk_drew ?_ | refine blk_alloc ?_ _)); refine blk_put (cs := #[.slice none 0 0, .slice none 0 0]) ?_ 0 _ rfl; (with_reducible repeat (first | refine blk_drewN ?_ _ | refine blk_drew ?_ | refine blk_alloc ?_ _)); exact BK466.out) hb); have n3_ := Aside0.mk (below_step att14_0_2 hb); clear HO460; clear HO463; clear BK466; clear HB; have HO460 := n0_; have HO463 := n1_; have BK466 := n2_; have HB := n3_; clear n0_ n1_ n2_ n3_; (try clear hb); (try clear hb2); (try clear hk); (try clear hi); have hcz16_0 : w15.cell? ⟨gb466, 0, none⟩ = some (.slice Ao12 t458.length co12) := (blk_cell BK466.out 0).trans rfl; have hcz16_1 : w15.cell? ⟨gb466, 1, none⟩ = some (.slice Ao14 t461.length co14) := (blk_cell BK466.out 1).trans rfl; have hfz16_0 := blk_frozen BK466.out 0; have hfz16_1 := blk_frozen BK466.out 1) | ((with_reducible refine gate_callee (f := 59) rfl ?_); refine goesL_ (some 33) rfl rfl Try.func59 (by kernel_rfl) rfl #[.agg #[.slice Ao12 t458.length co12, .slice Ao14 t461.length co14], .int .i64 t464, .int .i64 t465] rfl att14_0_3 ?_; (with_reducible refine (spec_PlaceOf.calls k _ _ t458 _ _ t461 t464 t465 t469 t470 _ ?side1 ?side2 ?side3 ?side4 A6.out).mono ?_); (case side1 => repeat (first | exact (Kd.R_reads' HO460.out).2.2 | (with_reducible refine Kd.C_alloc ?_ _) | (with_reducible refine Kd.C_drewN ?_ _) | (with_reducible refine Kd.C_drew ?_))); (case side2 => exact (Kd.R_reads' HO460.out).2.1); (case side3 => repeat (first | exact (Kd.S_reads' HO463.out).2.2 | (with_reducible refine Kd.C_alloc ?_ _) | (with_reducible refine Kd.C_drewN ?_ _) | (with_reducible refine Kd.C_drew ?_))); (case side4 => exact (Kd.S_reads' HO463.out).2.1); rintro e w17 ⟨rfl, hb⟩; refine ⟨_, rfl, ?_⟩; have n0_ := Aside0.mk (Kd.R_below att14_0_8 hb); have n1_ := Aside0.mk (Kd.S_below att14_0_10 hb); have n2_ := Aside0.mk (blk_below (g := gb466) (o := .cells #[.slice Ao12 t458.length co12, .slice Ao14 t461.length co14] 30 (0, 0)) att14_0_1 hb); have n3_ := Aside0.mk (below_step att14_0_2 hb); clear HO460; clear HO463; clear BK466; clear HB; have HO460 := n0_; have HO463 := n1_; have BK466 := n2_; have HB := n3_; clear n0_ n1_ n2_ n3_; (try clear hb); (try clear hb2); (try clear hk); (try clear hi)) | ((with_reducible refine gate_callee (f := 62) rfl ?_); refine goesL_ (some 38) rfl rfl Try.func62 (by kernel_rfl) rfl #[.slice A0 l0.length c0] rfl att14_0_3 ?_; (with_reducible refine (spec_DrawStarts.calls k _ _ l0 t471 t474 t477 _ ?side1 ?side2 A7.out).mono ?_); (case side1 => repeat (first | exact (Kd.C_below HR0.out HB.out) | (with_reducible refine Kd.C_alloc ?_ _) | (with_reducible refine Kd.C_drewN ?_ _) | (with_reducible refine Kd.C_drew ?_))); (case side2 => exact HC0.out); rintro e w18 ⟨v472, v475, rfl, ho0, ho1, hb⟩; refine ⟨_, rfl, ?_⟩; have n0_ := Aside0.mk (Kd.R_elder' att14_0_8 (Kd.R_base ho0) hb); have n1_ := Aside0.mk (Kd.S_elder' att14_0_10 (Kd.S_base ho1) hb); have n2_ := Aside0.mk (Kd.R_lower (Kd.R_new' ho0 (Kd.R_lt att14_0_8)) (below_size att14_0_2)); have n3_ := Aside0.mk (Kd.S_lower (Kd.S_new' ho1 (Kd.S_lt att14_0_10)) (below_size att14_0_2)); have n4_ := Aside0.mk (blk_below (g := gb466) (o := .cells #[.slice Ao12 t458.length co12, .slice Ao14 t461.length co14] 30 (0, 0)) att14_0_1 hb); have n5_ := Aside0.mk (below_step att14_0_2 hb); clear HO460; clear HO463; clear BK466; clear HB; have HO460 := n0_; have HO463 := n1_; have HO473 := n2_; have HO476 := n3_; have BK466 := n4_; have HB := n5_; clear n0_ n1_ n2_ n3_ n4_ n5_; (try clear hb); (try clear hb2); (try clear hk); (try clear hi); (try clear ho0); (try clear ho1)) | ((with_reducible refine gate_dst (N := 10) rfl ?_); refine box_event ?hg (N := 10) ?hd (cs := #[.slice none 0 0, .slice none 0 0]) (t := 30) ?hr ?_; (case hd => rfl); (case hg => rfl); (case hr => first | (go_simp; done) | (go_simp; rfl)); intro gb478 hg w19 hbox hb; have n0_ := Aside0.mk (Kd.R_below att14_0_8 hb); have n1_ := Aside0.mk (Kd.S_below att14_0_10 hb); have n2_ := Aside0.mk (Kd.R_below att14_0_22 hb); have n3_ := Aside0.mk (Kd.S_below att14_0_29 hb); have n4_ := Aside0.mk (blk_below (g := gb466) (o := .cells #[.slice Ao12 t458.length co12, .slice Ao14 t461.length co14] 30 (0, 0)) att14_0_1 hb); have n5_ := Aside0.mk (below_step att14_0_2 hb); have n6_ := Aside0.mk (hbox); have n7_ := Aside0.mk ((by rw [hg]; exact (below_size att14_0_2) : w.heap.size ≤ gb478)); have n8_ := Aside0.mk ((by rw [hg]; exact (below_size att14_0_2) : w.heap.size ≤ gb478)); have n9_ := Aside0.mk ((by rw [hg]; exact Nat.ne_of_lt (blk_lt (g := gb466) (o := .cells #[.slice Ao12 t458.length co12, .slice Ao14 t461.length co14] 30 (0, 0)) att14_0_1) : gb466 ≠ gb478)); have n10_ := Aside0.mk ((by rw [hg]; exact Nat.ne_of_gt (blk_lt (g := gb466) (o := .cells #[.slice Ao12 t458.length co12, .slice Ao14 t461.length co14] 30 (0, 0)) att14_0_1) : gb478 ≠ gb466)); clear HO460; clear HO463; clear HO473; clear HO476; clear BK466; clear HB; have HO460 := n0_; have HO463 := n1_; have HO473 := n2_; have HO476 := n3_; have BK466 := n4_; have HB := n5_; have BK478 := n6_; have GW478 := n7_; have GE478 := n8_; have NB466_478 := n9_; have NB478_466 := n10_; clear n0_ n1_ n2_ n3_ n4_ n5_ n6_ n7_ n8_ n9_ n10_; clear hb hbox hg; obtain ⟨Ao20, co20, eo20⟩ := Kd.R_slice HO473.out; subst eo20; have hnb21 := NB478_466.out; have hnc21 := NB466_478.out; have hcz22_0 : w19.cell? ⟨gb478, 0, none⟩ = some (.slice none 0 0) := (blk_cell BK478.out 0).trans rfl; have hcz22_1 : w19.cell? ⟨gb478, 1, none⟩ = some (.slice none 0 0) := (blk_cell BK478.out 1).trans rfl; have hfz22_0 := blk_frozen BK478.out 0; have hfz22_1 := blk_frozen BK478.out 1; obtain ⟨Ao23, co23, eo23⟩ := Kd.S_slice HO476.out; subst eo23) | ((with_reducible refine gate_callee (f := 63) rfl ?_); refine goesL_ (some 43) rfl rfl Try.func63 (by kernel_rfl) rfl #[.agg #[.slice Ao20 t471.length co20, .slice Ao23 t474.length co23], .int .i64 t477] rfl att14_0_3 ?_; (with_reducible refine (impl_Starts.calls k _ _ t471 _ _ t474 t477 t479 _ ?side1 ?side2 ?side3 ?side4 A8.out).mono ?_); (case side1 => refine (Kd.R_reads' (e := 3) (base := w.heap.size) (ok := fun k_ => (True ∧ some k_ ≠ (.slice Ao12 t458.length co12 : Value).ownBlock)) (n := t471.length) (c := co20) ?_).2.2; exact att14_0_7); (case side2 => exact (Kd.R_reads' HO473.out).2.1); (case side3 => refine (Kd.S_reads' (e := 51) (base := w.heap.size) (ok := fun k_ => (True ∧ some k_ ≠ (.slice Ao14 t461.length co14 : Value).ownBlock)) (n := t474.length) (c := co23) ?_).2.2; exact att14_0_11); (case side4 => exact (Kd.S_reads' HO476.out).2.1); rintro e w24 ⟨v480, rfl, ho0, hb⟩; refine ⟨_, rfl, ?_⟩; have n0_ := Aside0.mk (Kd.R_elder' att14_0_13 (Kd.R_base ho0) hb); have n1_ := Aside0.mk (Kd.S_below (by (with_reducible repeat (first | apply Kd.S_alloc | apply Kd.S_drewN | apply Kd.S_drew)); exact (Kd.S_mono (Kd.S_far (p := ⟨gb478, 1, none⟩) (Kd.S_far (p := ⟨gb478, 0, none⟩) (Kd.S_types HO463.out BK478.out (by decide)) (fun _ hk => hk.2) (.slice Ao20 t471.length co20)) (fun _ hk => hk.2) (.slice Ao23 t474.length co23)) (fun _ h_ => h_.1))) hb); have n2_ := Aside0.mk (Kd.R_elder' att14_0_7 (Kd.R_base ho0) hb); have n3_ := Aside0.mk (Kd.S_below att14_0_11 hb); have n4_ := Aside0.mk (Kd.R_lower (Kd.R_new' (Kd.R_new' ho0 (Kd.R_lt att14_0_13)) (Kd.R_lt att14_0_7)) (below_size att14_0_0)); have n5_ := Aside0.mk (blk_below (g := gb466) (o := .cells #[.slice Ao12 t458.length co12, .slice Ao14 t461.length co14] 30 (0, 0)) (by (with_reducible repeat (first | refine blk_drewN ?_ _ | refine blk_drew ?_ | refine blk_alloc ?_ _)); refine blk_far ?_ NB466_478.out _; (with_reducible repeat (first | refine blk_drewN ?_ _ | refine blk_drew ?_ | refine blk_alloc ?_ _)); refine blk_far ?_ NB466_478.out _; (with_reducible repeat (first | refine blk_drewN ?_ _ | refine blk_drew ?_ | refine blk_alloc ?_ _)); exact BK466.out) hb); have n6_ := Aside0.mk (blk_below (g := gb478) (o := .cells #[.slice Ao20 t471.length co20, .slice Ao23 t474.length co23] 30 (0, 0)) (by (with_reducible repeat (first | refine blk_drewN ?_ _ | refine blk_drew ?_ | refine blk_alloc ?_ _)); refine blk_put (cs := #[.slice Ao20 t471.length co20, .slice none 0 0]) ?_ 1 _ rfl; (with_reducible repeat (first | refine blk_drewN ?_ _ | refine blk_drew ?_ | refine blk_alloc ?_ _)); refine blk_put (cs := #[.slice none 0 0, .slice none 0 0]) ?_ 0 _ rfl; (with_reducible repeat (first | refine blk_drewN ?_ _ | refine blk_drew ?_ | refine blk_alloc ?_ _)); exact BK478.out) hb); have n7_ := Aside0.mk (below_step att14_0_0 hb); clear HO460; clear HO463; clear HO473; clear HO476; clear BK466; clear BK478; clear HB; have HO460 := n0_; have HO463 := n1_; have HO473 := n2_; have HO476 := n3_; have HO481 := n4_; have BK466 := n5_; have BK478 := n6_; have HB := n7_; clear n0_ n1_ n2_ n3_ n4_ n5_ n6_ n7_; (try clear hb); (try clear hb2); (try clear hk); (try clear hi); (try clear ho0)))
  (try simp only [Act.put, List.setIfInBounds_toArray, List.set_cons_zero, List.set_cons_succ])
  go_cut [59] (fun v59 wc => ∃ (kq : Nat) (x59_8 : Bool), v59 = .bool x59_8 ∧ Aside0 (laws_FnPlaces.j0 kq t467 t468 t477 t479 x59_8 t471 t474 = some r) ∧ Aside0 (kq ≤ k) ∧ Aside0 (Kd.R (Kd.int .i64) 3 wc w.heap.size (fun k_ => some k_ ≠ ((.slice Ao12 t458.length co12) : Value).ownBlock ∧ some k_ ≠ ((.slice Ao20 t471.length co20) : Value).ownBlock) v480 t479) ∧ Aside0 (Kd.R (Kd.int .i64) 3 wc w.heap.size (fun k_ => some k_ ≠ (v480 : Value).ownBlock ∧ some k_ ≠ ((.slice Ao20 t471.length co20) : Value).ownBlock) (.slice Ao12 t458.length co12) t458) ∧ Aside0 (Kd.S (Kd.slice 37 k37) 51 wc w.heap.size (fun k_ => some k_ ≠ ((.slice Ao23 t474.length co23) : Value).ownBlock) (.slice Ao14 t461.length co14) t461) ∧ Aside0 (Kd.R (Kd.int .i64) 3 wc w.heap.size (fun k_ => some k_ ≠ (v480 : Value).ownBlock ∧ some k_ ≠ ((.slice Ao12 t458.length co12) : Value).ownBlock) (.slice Ao20 t471.length co20) t471) ∧ Aside0 (Kd.S (Kd.slice 37 k37) 51 wc w.heap.size (fun k_ => some k_ ≠ ((.slice Ao14 t461.length co14) : Value).ownBlock) (.slice Ao23 t474.length co23) t474) ∧ Aside0 (wc.heap[gb466]? = some (.cells #[(.slice Ao12 t458.length co12), (.slice Ao14 t461.length co14)] 30 (0, 0))) ∧ Aside0 (wc.heap[gb478]? = some (.cells #[(.slice Ao20 t471.length co20), (.slice Ao23 t474.length co23)] 30 (0, 0))) ∧ Aside0 (Below w.heap.size w wc))
  case first =>
   have H := HC9.out
   clear HC9
   by_cases c25 : t467 = t469
   ·rw [if_pos c25] at H
    have c25b0 : (t467 == t469) = true := beq_iff_eq.mpr c25
    have c25b1 : (t467 != t469) = false := bne_eq_false_iff_eq.mpr c25
    clear c25
    (first | rw [c25b0] | (simp only [i64_w, i32_w]; rw [c25b0]) | skip)
    by_cases c26 : (t468 != t470) = true
    ·rw [if_pos c26] at H
     have c26b0 : (t468 != t470) = true := c26
     (try (have c26b1 : decide (t468 = t470) = false := by simpa using c26))
     (try (have c26b2 : (t468 == t470) = false := by simpa using c26))
     (try (have c26b3 : ¬ (t468 = t470) := by simpa using c26))
     clear c26
     have H' := Aside0.mk H
     clear H
     go_wp2
     go_meet
     case rel => exact ⟨_, (true), att14_0_23, H', ⟨by first | omega | exact Nat.le_refl _⟩, ⟨att14_0_25⟩, ⟨att14_0_27⟩, ⟨att14_0_21⟩, ⟨att14_0_26⟩, ⟨att14_0_20⟩, ⟨att14_0_1⟩, ⟨att14_0_4⟩, ⟨att14_0_0⟩⟩
    ·rw [if_neg c26] at H
     have c26b0 : (t468 != t470) = false := by simpa using c26
     (try (have c26b1 : decide (t468 = t470) = true := by simpa using c26))
     (try (have c26b2 : (t468 == t470) = true := by simpa using c26))
     clear c26
     replace H := Option.bind_eq_some_iff.mp H
     obtain ⟨t482, A270, H⟩ := H
     replace H : ((laws_sameInts.f k t479 t482).bind fun t485 => (laws_FnPlaces.j0 k t467 t468 t477 t479 (!t485) t471 t474)) = some r := H
     have A27 := Aside0.mk A270
     clear A270
     replace H := Option.bind_eq_some_iff.mp H
     obtain ⟨t485, A280, H⟩ := H
     replace H : (laws_FnPlaces.j0 k t467 t468 t477 t479 (!t485) t471 t474) = some r := H
     have A28 := Aside0.mk A280
     clear A280
     have H' := Aside0.mk H
     clear H
     have hnb29 := NB478_466.out
     have hnc29 := NB466_478.out
     have hcz30_0 : w24.cell? ⟨gb478, 0, none⟩ = some (.slice Ao20 t471.length co20) := (blk_cell BK478.out 0).trans rfl
     have hcz30_1 : w24.cell? ⟨gb478, 1, none⟩ = some (.slice Ao23 t474.length co23) := (blk_cell BK478.out 1).trans rfl
     have hfz30_0 := blk_frozen BK478.out 0
     have hfz30_1 := blk_frozen BK478.out 1
     go_wp2_with (first | (go_at_call 65; (with_reducible refine (spec_Starts.calls k _ _ t471 _ _ t474 t477 t482 _ ?side1 ?side2 ?side3 ?side4 A27.out).mono ?_); (case side1 => repeat (first | exact (Kd.R_reads' HO473.out).2.2 | (with_reducible refine Kd.C_alloc ?_ _) | (with_reducible refine Kd.C_drewN ?_ _) | (with_reducible refine Kd.C_drew ?_))); (case side2 => exact (Kd.R_reads' HO473.out).2.1); (case side3 => repeat (first | exact (Kd.S_reads' HO476.out).2.2 | (with_reducible refine Kd.C_alloc ?_ _) | (with_reducible refine Kd.C_drewN ?_ _) | (with_reducible refine Kd.C_drew ?_))); (case side4 => exact (Kd.S_reads' HO476.out).2.1); rintro e w31 ⟨v483, rfl, ho0, hb⟩; have n0_ := Aside0.mk (Kd.R_elder' att14_0_8 (Kd.R_base ho0) hb); have n1_ := Aside0.mk (Kd.S_below att14_0_10 hb); have n2_ := Aside0.mk (Kd.R_elder' att14_0_22 (Kd.R_base ho0) hb); have n3_ := Aside0.mk (Kd.S_below att14_0_29 hb); have n4_ := Aside0.mk (Kd.R_elder' att14_0_30 (Kd.R_base ho0) hb); have n5_ := Aside0.mk (Kd.R_lower (Kd.R_new' (Kd.R_new' (Kd.R_new' ho0 (Kd.R_lt att14_0_8)) (Kd.R_lt att14_0_22)) (Kd.R_lt att14_0_30)) (below_size att14_0_0)); have n6_ := Aside0.mk (blk_below (g := gb466) (o := .cells #[.slice Ao12 t458.length co12, .slice Ao14 t461.length co14] 30 (0, 0)) att14_0_1 hb); have n7_ := Aside0.mk (blk_below (g := gb478) (o := .cells #[.slice Ao20 t471.length co20, .slice Ao23 t474.length co23] 30 (0, 0)) att14_0_4 hb); have n8_ := Aside0.mk (below_step att14_0_0 hb); clear HO460; clear HO463; clear HO473; clear HO476; clear HO481; clear BK466; clear BK478; clear HB; have HO460 := n0_; have HO463 := n1_; have HO473 := n2_; have HO476 := n3_; have HO481 := n4_; have HO484 := n5_; have BK466 := n6_; have BK478 := n7_; have HB := n8_; clear n0_ n1_ n2_ n3_ n4_ n5_ n6_ n7_ n8_; (try clear hb); (try clear hb2); (try clear hk); (try clear hi); (try clear ho0); obtain ⟨Ao32, co32, eo32⟩ := Kd.R_slice HO481.out; subst eo32; obtain ⟨Ao33, co33, eo33⟩ := Kd.R_slice HO484.out; subst eo33) | (go_at_call 64; (with_reducible refine (laws_sameInts.calls k _ _ t479 _ _ t482 t485 _ ?side1 ?side2 ?side3 ?side4 A28.out).mono ?_); (case side1 => repeat (first | exact (Kd.R_reads' HO481.out).2.2 | (with_reducible refine Kd.C_alloc ?_ _) | (with_reducible refine Kd.C_drewN ?_ _) | (with_reducible refine Kd.C_drew ?_))); (case side2 => exact (Kd.R_reads' HO481.out).2.1); (case side3 => repeat (first | exact (Kd.R_reads' HO484.out).2.2 | (with_reducible refine Kd.C_alloc ?_ _) | (with_reducible refine Kd.C_drewN ?_ _) | (with_reducible refine Kd.C_drew ?_))); (case side4 => exact (Kd.R_reads' HO484.out).2.1); rintro e w' ⟨rfl, ⟨nd, rfl⟩⟩))
     go_meet
     case rel => exact ⟨_, (!t485), att14_0_23, H', ⟨by first | omega | exact Nat.le_refl _⟩, ⟨by (with_reducible repeat (first | apply Kd.R_alloc | apply Kd.R_drewN | apply Kd.R_drew)); exact Kd.R_mono HO481.out (fun _ hk => ⟨hk.1.1.2, hk.1.2⟩)⟩, ⟨by (with_reducible repeat (first | apply Kd.R_alloc | apply Kd.R_drewN | apply Kd.R_drew)); exact Kd.R_mono HO460.out (fun _ hk => ⟨hk.1.2, hk.1.1.2⟩)⟩, ⟨att14_0_21⟩, ⟨by (with_reducible repeat (first | apply Kd.R_alloc | apply Kd.R_drewN | apply Kd.R_drew)); exact Kd.R_mono HO473.out (fun _ hk => ⟨hk.1.2, hk.1.1.2⟩)⟩, ⟨att14_0_20⟩, ⟨att14_0_1⟩, ⟨att14_0_4⟩, ⟨att14_0_0⟩⟩
   ·rw [if_neg c25] at H
    have c25b0 : (t467 == t469) = false := beq_eq_false_iff_ne.mpr c25
    have c25b1 : (t467 != t469) = true := bne_iff_ne.mpr c25
    (first | rw [c25b0] | (simp only [i64_w, i32_w]; rw [c25b0]) | skip)
    have H' := Aside0.mk H
    clear H
    go_wp2
    go_meet
    case rel => exact ⟨_, (true), att14_0_23, H', ⟨by first | omega | exact Nat.le_refl _⟩, ⟨att14_0_25⟩, ⟨att14_0_27⟩, ⟨att14_0_21⟩, ⟨att14_0_26⟩, ⟨att14_0_20⟩, ⟨att14_0_1⟩, ⟨att14_0_4⟩, ⟨att14_0_0⟩⟩
  case rest =>
   clear HC9
   try clear c2
   try clear p2
   try clear c3
   try clear c5
   try clear c6
   try clear c9
   try clear c20
   try clear c21
   try clear c25
   try clear c25b0
   try clear c25b1
   try clear c26
   try clear c26b0
   try clear c26b1
   try clear c26b2
   try clear c29
   try clear hcz13_0
   try clear hcz13_1
   try clear hcz16_0
   try clear hcz16_1
   try clear hcz22_0
   try clear hcz22_1
   try clear hcz30_0
   try clear hcz30_1
   try clear hfz13_0
   try clear hfz13_1
   try clear hfz16_0
   try clear hfz16_1
   try clear hfz22_0
   try clear hfz22_1
   try clear hfz30_0
   try clear hfz30_1
   obtain ⟨kq, x59_8, rfl, HA, HJ8, HO_12, HO_467000, HO_467001, HO_479000, HO_479001, BK466, BK478, HB⟩ := hcut
   cases kq with
   | zero => exact absurd HA.out (by simp [laws_FnPlaces.j0])
   | succ kj8 =>
    have H := HA.out
    clear HA
    simp only [laws_FnPlaces.j0] at H
    by_cases c34 : x59_8 = true
    ·subst c34
     have H1 : (some false) = some r := by rw [if_pos rfl] at H; exact H
     clear H
     have H := H1
     clear H1
     obtain rfl := Option.some.inj H
     go_wp2
     go_ret
     exact ⟨by first | rfl | (simp [errW_none, errW_some] <;> rfl) | (simp [*, errW_none, errW_some] <;> rfl), att14_0_0⟩
    ·replace c34 := Bool.eq_false_iff.mpr c34
     subst c34
     have H1 : (laws_FnPlaces.l0 kj8 t467 t468 t477 t479 1 t471 t474) = some r := by rw [if_neg (show ¬ (false = true) by decide)] at H; exact H
     clear H
     have H := H1
     clear H1
     have H' := Aside0.mk H
     clear H
     go_wp2
     go_loopg [13] kj8 (fun kq v13 w' => ∃ (x13_2 : Int), v13 = .int .i64 x13_2 ∧ Aside0 (laws_FnPlaces.l0 kq t467 t468 t477 t479 x13_2 t471 t474 = some r) ∧ Aside0 (kq ≤ kj8) ∧ Aside0 (Kd.R (Kd.int .i64) 3 w' w.heap.size (fun k_ => some k_ ≠ ((.slice Ao12 t458.length co12) : Value).ownBlock ∧ some k_ ≠ ((.slice Ao20 t471.length co20) : Value).ownBlock) v480 t479) ∧ Aside0 (Kd.R (Kd.int .i64) 3 w' w.heap.size (fun k_ => some k_ ≠ (v480 : Value).ownBlock ∧ some k_ ≠ ((.slice Ao20 t471.length co20) : Value).ownBlock) (.slice Ao12 t458.length co12) t458) ∧ Aside0 (Kd.S (Kd.slice 37 k37) 51 w' w.heap.size (fun k_ => some k_ ≠ ((.slice Ao23 t474.length co23) : Value).ownBlock) (.slice Ao14 t461.length co14) t461) ∧ Aside0 (Kd.R (Kd.int .i64) 3 w' w.heap.size (fun k_ => some k_ ≠ (v480 : Value).ownBlock ∧ some k_ ≠ ((.slice Ao12 t458.length co12) : Value).ownBlock) (.slice Ao20 t471.length co20) t471) ∧ Aside0 (Kd.S (Kd.slice 37 k37) 51 w' w.heap.size (fun k_ => some k_ ≠ ((.slice Ao14 t461.length co14) : Value).ownBlock) (.slice Ao23 t474.length co23) t474) ∧ Aside0 (w'.heap[gb466]? = some (.cells #[(.slice Ao12 t458.length co12), (.slice Ao14 t461.length co14)] 30 (0, 0))) ∧ Aside0 (w'.heap[gb478]? = some (.cells #[(.slice Ao20 t471.length co20), (.slice Ao23 t474.length co23)] 30 (0, 0))) ∧ Aside0 (Below w.heap.size w w'))
     case atStart => exact ⟨(1), att14_0_23, H', ⟨Nat.le_refl _⟩, ⟨att14_0_19⟩, ⟨att14_0_18⟩, ⟨att14_0_16⟩, ⟨att14_0_17⟩, ⟨att14_0_15⟩, ⟨att14_0_1⟩, ⟨att14_0_4⟩, ⟨att14_0_0⟩⟩
     case round =>
      clear H'
      try clear c2
      try clear p2
      try clear c3
      try clear c5
      try clear c6
      try clear c9
      try clear c20
      try clear c21
      try clear c25
      try clear c25b0
      try clear c25b1
      try clear c26
      try clear c26b0
      try clear c26b1
      try clear c26b2
      try clear c29
      try clear c34
      try clear hcz13_0
      try clear hcz13_1
      try clear hcz16_0
      try clear hcz16_1
      try clear hcz22_0
      try clear hcz22_1
      try clear hcz30_0
      try clear hcz30_1
      try clear hfz13_0
      try clear hfz13_1
      try clear hfz16_0
      try clear hfz16_1
      try clear hfz22_0
      try clear hfz22_1
      try clear hfz30_0
      try clear hfz30_1
      try clear p2
      obtain ⟨x13_2, rfl, HA, HK2, HO_12, HO_467000, HO_467001, HO_479000, HO_479001, BK466, BK478, HB⟩ := hrel
      cases gk with
      | zero => exact absurd HA.out (by simp [laws_FnPlaces.l0])
      | succ k2 =>
       have H := HA.out
       clear HA
       simp only [laws_FnPlaces.l0] at H
       by_cases c35 : x13_2 < (t479.length : Int)
       ·rw [if_pos c35] at H
        have c35b0 : decide (x13_2 < (t479.length : Int)) = true := decide_eq_true c35
        clear c35
        by_cases c36 : 0 ≤ x13_2
        ·rw [if_pos c36] at H
         have c36b0 : decide (0 ≤ x13_2) = true := decide_eq_true c36
         clear c36
         obtain ⟨ji37, hji37⟩ : ∃ j_ : Int, (wrap64 (x13_2 - 1)) = j_ := ⟨_, rfl⟩
         replace H : (if 0 ≤ (ji37) then (if (ji37) < (t479.length : Int) then (if 0 ≤ t477 then (if t477 < (t474.length : Int) then (if (ji37) < ((rd_L3 t474 t477).length : Int) then ((impl_EmitSize.f ((rd_T37 (rd_L3 t474 t477) (ji37)).f0) ((rd_T37 (rd_L3 t474 t477) (ji37)).f1) ((rd_T37 (rd_L3 t474 t477) (ji37)).f2) ((rd_T37 (rd_L3 t474 t477) (ji37)).f3) ((rd_T37 (rd_L3 t474 t477) (ji37)).f4)).bind fun t490 => (if (wrap64 ((rd t479 x13_2) - (rd t479 (ji37)))) = t490 then (laws_FnPlaces.l0 k2 t467 t468 t477 t479 (wrap64 (x13_2 + 1)) t471 t474) else (some false))) else (none)) else (none)) else (none)) else (none)) else (none)) = some r := by first | (rw [hji37] at H; exact H) | (simp only [hji37] at H ⊢; exact H)
         have hji37w : (IntKind.i64.wrap (x13_2 - 1)) = ji37 := (i64_w _).trans hji37
         by_cases c38 : 0 ≤ (ji37)
         ·rw [if_pos c38] at H
          have c38b0 : decide (0 ≤ (ji37)) = true := decide_eq_true c38
          clear c38
          by_cases c39 : (ji37) < (t479.length : Int)
          ·rw [if_pos c39] at H
           have c39b0 : decide ((ji37) < (t479.length : Int)) = true := decide_eq_true c39
           clear c39
           by_cases c40 : 0 ≤ t477
           ·rw [if_pos c40] at H
            have c40b0 : decide (0 ≤ t477) = true := decide_eq_true c40
            clear c40
            by_cases c41 : t477 < (t474.length : Int)
            ·rw [if_pos c41] at H
             have c41b0 : decide (t477 < (t474.length : Int)) = true := decide_eq_true c41
             clear c41
             by_cases c42 : (ji37) < ((rd_L3 t474 t477).length : Int)
             ·rw [if_pos c42] at H
              have c42b0 : decide ((ji37) < ((rd_L3 t474 t477).length : Int)) = true := decide_eq_true c42
              clear c42
              replace H := Option.bind_eq_some_iff.mp H
              obtain ⟨t490, A430, H⟩ := H
              replace H : (if (wrap64 ((rd t479 x13_2) - (rd t479 (ji37)))) = t490 then (laws_FnPlaces.l0 k2 t467 t468 t477 t479 (wrap64 (x13_2 + 1)) t471 t474) else (some false)) = some r := H
              have A43 := Aside0.mk A430
              clear A430
              by_cases c44 : (wrap64 ((rd t479 x13_2) - (rd t479 (ji37)))) = t490
              ·rw [if_pos c44] at H
               have c44b0 : ((wrap64 ((rd t479 x13_2) - (rd t479 (ji37)))) == t490) = true := beq_iff_eq.mpr c44
               have c44b1 : ((wrap64 ((rd t479 x13_2) - (rd t479 (ji37)))) != t490) = false := bne_eq_false_iff_eq.mpr c44
               clear c44
               have H' := Aside0.mk H
               clear H
               obtain ⟨Ao45, co45, eo45⟩ := Kd.R_slice HO_12.out
               subst eo45
               try go_wp2
               have n0_ := Aside0.mk (Kd.R_drew HO_12.out)
               have n1_ := Aside0.mk (Kd.R_drew HO_467000.out)
               have n2_ := Aside0.mk (Kd.S_drew HO_467001.out)
               have n3_ := Aside0.mk (Kd.R_drew HO_479000.out)
               have n4_ := Aside0.mk (Kd.S_drew HO_479001.out)
               have n5_ := Aside0.mk (blk_drew BK466.out)
               have n6_ := Aside0.mk (blk_drew BK478.out)
               have n7_ := Aside0.mk (below_drew1 HB.out)
               clear HO_12
               clear HO_467000
               clear HO_467001
               clear HO_479000
               clear HO_479001
               clear BK466
               clear BK478
               clear HB
               have HO_12 := n0_
               have HO_467000 := n1_
               have HO_467001 := n2_
               have HO_479000 := n3_
               have HO_479001 := n4_
               have BK466 := n5_
               have BK478 := n6_
               have HB := n7_
               clear n0_ n1_ n2_ n3_ n4_ n5_ n6_ n7_
               have p486 : 0 ≤ (x13_2 : Int) := of_decide_eq_true att14_0_6
               have q486 : x13_2 < (t479.length : Int) := of_decide_eq_true att14_0_6
               obtain ⟨ad486, e486, hx486_0⟩ := Kd.at_int (Kd.R_reads' HO_12.out).2.2 x13_2 p486 q486
               cases e486
               replace p486 := eq_true p486
               replace q486 := eq_true q486
               have p487 : 0 ≤ ((ji37) : Int) := of_decide_eq_true att14_0_6
               have q487 : (ji37) < (t479.length : Int) := of_decide_eq_true att14_0_6
               obtain ⟨ad487, e487, hx487_0⟩ := Kd.at_int (Kd.R_reads' HO_12.out).2.2 (ji37) p487 q487
               obtain rfl : ad486 = ad487 := (by injection e487)
               replace p487 := eq_true p487
               replace q487 := eq_true q487
               have p488 : 0 ≤ (t477 : Int) := of_decide_eq_true att14_0_6
               have q488 : t477 < (t474.length : Int) := of_decide_eq_true att14_0_6
               obtain ⟨ad488, A488_0, c488_0, e488, hx488_0, hl488_0, hi488_0⟩ := at_L3 (Kd.S_reads' HO_479001.out).2.2 t477 p488 q488
               cases e488
               obtain ⟨ce488, hce488, hMe488, hcc488⟩ := Kd.S_get HO_479001.out [] t477 p488 att14_1_0
               obtain ⟨ve488_0, rfl, ge488_0⟩ := hMe488
               have hv488_0 := hcc488 0 _ rfl
               rw [Nat.add_zero, show ((Kd.slice 37 k37)).sz = 1 from rfl, Nat.mul_one] at hv488_0
               replace hv488_0 := Option.some.inj (hv488_0.symm.trans hx488_0)
               rw [hv488_0] at ge488_0
               have HL488_0 := Aside0.mk (show Kd.R k37 37 _ _ _ _ (rd_L3 t474 t477) from ge488_0)
               clear hv488_0 ge488_0
               clear hcc488 hce488
               have HR488_0 := Aside0.mk hi488_0
               have HC488_0 := Aside0.mk hl488_0
               clear hi488_0 hl488_0
               replace p488 := eq_true p488
               replace q488 := eq_true q488
               have p489 : 0 ≤ ((ji37) : Int) := of_decide_eq_true att14_0_6
               have q489 : (ji37) < ((rd_L3 t474 t477).length : Int) := of_decide_eq_true att14_0_6
               obtain ⟨ad489, e489, hx489_0, hx489_1, hx489_2, hx489_3, hx489_4⟩ := at_T37 att14_0_9 (ji37) p489 q489
               cases e489
               replace p489 := eq_true p489
               replace q489 := eq_true q489
               refine start_ (n := 21) (S := fun w' => w'.cell? ⟨gb478, 0, none⟩ = some (.slice Ao20 t471.length co20) ∧ w'.cell? ⟨gb478, 1, none⟩ = some (.slice (some ad488) t474.length co23) ∧ w'.cell? (ad486.add (x13_2).toNat) = some (.int .i64 (rd t479 x13_2)) ∧ w'.cell? (ad486.add ((ji37)).toNat) = some (.int .i64 (rd t479 (ji37))) ∧ w'.cell? (ad488.add (t477).toNat) = some (.slice (some ad489) (rd_L3 t474 t477).length c488_0) ∧ w'.cell? (ad489.add (((ji37)).toNat * 5)) = some (.int .i64 ((rd_T37 (rd_L3 t474 t477) (ji37)).f0)) ∧ w'.cell? ⟨(ad489.add (((ji37)).toNat * 5)).block, (ad489.add (((ji37)).toNat * 5)).off + 1, none⟩ = some (.int .i64 ((rd_T37 (rd_L3 t474 t477) (ji37)).f1)) ∧ w'.cell? ⟨(ad489.add (((ji37)).toNat * 5)).block, (ad489.add (((ji37)).toNat * 5)).off + 2, none⟩ = some (.int .i64 ((rd_T37 (rd_L3 t474 t477) (ji37)).f2)) ∧ w'.cell? ⟨(ad489.add (((ji37)).toNat * 5)).block, (ad489.add (((ji37)).toNat * 5)).off + 3, none⟩ = some (.int .i64 ((rd_T37 (rd_L3 t474 t477) (ji37)).f3)) ∧ w'.cell? ⟨(ad489.add (((ji37)).toNat * 5)).block, (ad489.add (((ji37)).toNat * 5)).off + 4, none⟩ = some (.int .i64 ((rd_T37 (rd_L3 t474 t477) (ji37)).f4))) (ds := []) (tf_ 0 21) (by kernel_rfl) rfl rfl ⟨(blk_cell BK478.out 0).trans rfl, (blk_cell BK478.out 1).trans rfl, hx486_0, hx487_0, hx488_0, hx489_0, hx489_1, hx489_2, hx489_3, hx489_4⟩ (fun hHeld => ?_); refine with_tabW laws_FnPlaces.tab13 laws_FnPlaces.bits13 (fun HT_ HW_ => ?_)
               generalize wr.drew = w46 at HO_12 HO_467000 HO_467001 HO_479000 HO_479001 BK466 BK478 HB HL488_0 HR488_0 hx486_0 hx487_0 hx488_0 hx489_0 hx489_1 hx489_2 hx489_3 hx489_4 hHeld ⊢
               refine pure_ (i := 0) (N := some 66) (v := ?_) (a' := ?_) (tf_ 1 20) rfl rfl (any_of HT_.out (by kernel_rfl)) (fun _ _ _ h => h) (Or.inl ⟨by rfl, ?_⟩) ?_ ?_
               rotate_left
               ·intro w'
                go_simp
                with_reducible rfl
               rotate_left
               ·simp only [Act.put, List.setIfInBounds_toArray, List.set_cons_zero, List.set_cons_succ, i64_w, i32_w]
                rfl
               refine pure_ (i := 1) (N := some 67) (v := ?_) (a' := ?_) (tf_ 2 19) rfl rfl (any_of HT_.out (by kernel_rfl)) (fun _ _ _ h => h) (Or.inl ⟨by rfl, ?_⟩) ?_ ?_
               rotate_left
               ·intro w'
                go_simp
                with_reducible rfl
               rotate_left
               ·simp only [Act.put, List.setIfInBounds_toArray, List.set_cons_zero, List.set_cons_succ, i64_w, i32_w]
                rfl
               refine pure_ (i := 2) (N := some 68) (v := ?_) (a' := ?_) (tf_ 3 18) rfl rfl (any_of HT_.out (by kernel_rfl)) (fun _ _ _ h => h) (Or.inl ⟨by rfl, ?_⟩) ?_ ?_
               rotate_left
               ·intro w'
                go_simp
                with_reducible rfl
               rotate_left
               ·simp only [Act.put, List.setIfInBounds_toArray, List.set_cons_zero, List.set_cons_succ, i64_w, i32_w]
                rfl
               refine pure_ (i := 4) (N := some 70) (v := ?_) (a' := ?_) #[true, true, true, false, true, false, false, false, false, false, false, false, false, false, false, false, false, false, false, false, false] rfl rfl (any_of HT_.out (by kernel_rfl)) (fun _ _ _ h => h) (Or.inl ⟨by rfl, ?_⟩) ?_ ?_
               rotate_left
               ·intro w'
                go_simp
                with_reducible rfl
               rotate_left
               ·simp only [Act.put, List.setIfInBounds_toArray, List.set_cons_zero, List.set_cons_succ, i64_w, i32_w]
                rfl
               refine pure_ (i := 5) (N := some 71) (v := ?_) (a' := ?_) #[true, true, true, false, true, true, false, false, false, false, false, false, false, false, false, false, false, false, false, false, false] rfl rfl (any_of HT_.out (by kernel_rfl)) (fun _ _ _ h => h) (Or.inl ⟨by rfl, ?_⟩) ?_ ?_
               rotate_left
               ·intro w'
                go_simp
                with_reducible rfl
               rotate_left
               ·simp only [Act.put, List.setIfInBounds_toArray, List.set_cons_zero, List.set_cons_succ, i64_w, i32_w]
                rfl
               refine pure_ (i := 6) (N := some 72) (v := ?_) (a' := ?_) #[true, true, true, false, true, true, true, false, false, false, false, false, false, false, false, false, false, false, false, false, false] rfl rfl (any_of HT_.out (by kernel_rfl)) (fun _ _ _ h => h) (Or.inl ⟨by rfl, ?_⟩) ?_ ?_
               rotate_left
               ·intro w'
                go_simp
                with_reducible rfl
               rotate_left
               ·simp only [Act.put, List.setIfInBounds_toArray, List.set_cons_zero, List.set_cons_succ, i64_w, i32_w]
                rfl
               refine pure_ (i := 7) (N := some 73) (v := ?_) (a' := ?_) #[true, true, true, false, true, true, true, true, false, false, false, false, false, false, false, false, false, false, false, false, false] rfl rfl (any_of HT_.out (by kernel_rfl)) (fun _ _ _ h => h) (Or.inl ⟨by rfl, ?_⟩) ?_ ?_
               rotate_left
               ·intro w'
                go_simp
                with_reducible rfl
               rotate_left
               ·simp only [Act.put, List.setIfInBounds_toArray, List.set_cons_zero, List.set_cons_succ, i64_w, i32_w]
                rfl
               refine pure_ (i := 10) (N := some 76) (v := ?_) (a' := ?_) #[true, true, true, false, true, true, true, true, false, false, true, false, false, false, false, false, false, false, false, false, false] rfl rfl (any_of HT_.out (by kernel_rfl)) (fun _ _ _ h => h) (Or.inl ⟨by rfl, ?_⟩) ?_ ?_
               rotate_left
               ·intro w'
                go_simp
                with_reducible rfl
               rotate_left
               ·simp only [Act.put, List.setIfInBounds_toArray, List.set_cons_zero, List.set_cons_succ, i64_w, i32_w]
                rfl
               refine pure_ (i := 12) (N := some 78) (v := ?_) (a' := ?_) #[true, true, true, false, true, true, true, true, false, false, true, false, true, false, false, false, false, false, false, false, false] rfl rfl (any_of HT_.out (by kernel_rfl)) (fun _ _ _ h => h) (Or.inl ⟨by rfl, ?_⟩) ?_ ?_
               rotate_left
               ·intro w'
                go_simp
                with_reducible rfl
               rotate_left
               ·simp only [Act.put, List.setIfInBounds_toArray, List.set_cons_zero, List.set_cons_succ, i64_w, i32_w]
                rfl
               refine pure_ (i := 15) (N := some 81) (v := ?_) (a' := ?_) #[true, true, true, false, true, true, true, true, false, false, true, false, true, false, false, true, false, false, false, false, false] rfl rfl (any_of HT_.out (by kernel_rfl)) (fun _ _ _ h => h) (Or.inl ⟨by rfl, ?_⟩) ?_ ?_
               rotate_left
               ·intro w'
                go_simp
                with_reducible rfl
               rotate_left
               ·simp only [Act.put, List.setIfInBounds_toArray, List.set_cons_zero, List.set_cons_succ, i64_w, i32_w]
                rfl
               refine pure_ (i := 16) (N := some 82) (v := ?_) (a' := ?_) #[true, true, true, false, true, true, true, true, false, false, true, false, true, false, false, true, true, false, false, false, false] rfl rfl (any_of HT_.out (by kernel_rfl)) (fun _ _ _ h => h) (Or.inl ⟨by rfl, ?_⟩) ?_ ?_
               rotate_left
               ·intro w'
                go_simp
                with_reducible rfl
               rotate_left
               ·simp only [Act.put, List.setIfInBounds_toArray, List.set_cons_zero, List.set_cons_succ, i64_w, i32_w]
                rfl
               refine take_ (i := 3) (N := some 69) (v := ?_) (a' := ?_) #[true, true, true, true, true, true, true, true, false, false, true, false, true, false, false, true, true, false, false, false, false] rfl rfl (take_ofW HT_.out HW_.out (by kernel_rfl)) (fun _ _ _ h => h) (Or.inl ⟨by rfl, ?_⟩) hHeld ?_ ?_
               rotate_left
               ·rintro w' ⟨s0, s1, s2, s3, s4, s5, s6, s7, s8, s9⟩
                go_simp
                with_reducible rfl
               rotate_left
               ·simp only [Act.put, List.setIfInBounds_toArray, List.set_cons_zero, List.set_cons_succ, i64_w, i32_w]
                rfl
               refine take_ (i := 8) (N := some 74) (v := ?_) (a' := ?_) #[true, true, true, true, true, true, true, true, true, false, true, false, true, false, false, true, true, false, false, false, false] rfl rfl (take_ofW HT_.out HW_.out (by kernel_rfl)) (fun _ _ _ h => h) (Or.inl ⟨by rfl, ?_⟩) hHeld ?_ ?_
               rotate_left
               ·rintro w' ⟨s0, s1, s2, s3, s4, s5, s6, s7, s8, s9⟩
                go_simp
                with_reducible rfl
               rotate_left
               ·simp only [Act.put, List.setIfInBounds_toArray, List.set_cons_zero, List.set_cons_succ, i64_w, i32_w]
                rfl
               refine pure_ (i := 9) (N := some 75) (v := ?_) (a' := ?_) #[true, true, true, true, true, true, true, true, true, true, true, false, true, false, false, true, true, false, false, false, false] rfl rfl (any_of HT_.out (by kernel_rfl)) (fun _ _ _ h => h) (Or.inl ⟨by rfl, ?_⟩) ?_ ?_
               rotate_left
               ·intro w'
                go_simp
                with_reducible rfl
               rotate_left
               ·simp only [Act.put, List.setIfInBounds_toArray, List.set_cons_zero, List.set_cons_succ, i64_w, i32_w]
                rfl
               refine take_ (i := 11) (N := some 77) (v := ?_) (a' := ?_) #[true, true, true, true, true, true, true, true, true, true, true, true, true, false, false, true, true, false, false, false, false] rfl rfl (take_ofW HT_.out HW_.out (by kernel_rfl)) (fun _ _ _ h => h) (Or.inl ⟨by rfl, ?_⟩) hHeld ?_ ?_
               rotate_left
               ·rintro w' ⟨s0, s1, s2, s3, s4, s5, s6, s7, s8, s9⟩
                go_simp
                with_reducible rfl
               rotate_left
               ·simp only [Act.put, List.setIfInBounds_toArray, List.set_cons_zero, List.set_cons_succ, i64_w, i32_w]
                rfl
               refine pure_ (i := 13) (N := some 79) (v := ?_) (a' := ?_) #[true, true, true, true, true, true, true, true, true, true, true, true, true, true, false, true, true, false, false, false, false] rfl rfl (any_of HT_.out (by kernel_rfl)) (fun _ _ _ h => h) (Or.inl ⟨by rfl, ?_⟩) ?_ ?_
               rotate_left
               ·intro w'
                go_simp
                with_reducible rfl
               rotate_left
               ·simp only [Act.put, List.setIfInBounds_toArray, List.set_cons_zero, List.set_cons_succ, i64_w, i32_w]
                rfl
               refine take_ (i := 14) (N := some 80) (v := ?_) (a' := ?_) (tf_ 17 4) rfl rfl (take_ofW HT_.out HW_.out (by kernel_rfl)) (fun _ _ _ h => h) (Or.inl ⟨by rfl, ?_⟩) hHeld ?_ ?_
               rotate_left
               ·rintro w' ⟨s0, s1, s2, s3, s4, s5, s6, s7, s8, s9⟩
                go_simp
                with_reducible rfl
               rotate_left
               ·simp only [Act.put, List.setIfInBounds_toArray, List.set_cons_zero, List.set_cons_succ, i64_w, i32_w]
                rfl
               refine pure_ (i := 17) (N := some 83) (v := ?_) (a' := ?_) (tf_ 18 3) rfl rfl (any_of HT_.out (by kernel_rfl)) (fun _ _ _ h => h) (Or.inl ⟨by rfl, ?_⟩) ?_ ?_
               rotate_left
               ·intro w'
                go_simp
                with_reducible rfl
               rotate_left
               ·simp only [Act.put, List.setIfInBounds_toArray, List.set_cons_zero, List.set_cons_succ, i64_w, i32_w]
                rfl
               refine take_ (i := 18) (N := some 84) (v := ?_) (a' := ?_) (tf_ 19 2) rfl rfl (take_ofW HT_.out HW_.out (by kernel_rfl)) (fun _ _ _ h => h) (Or.inl ⟨by rfl, ?_⟩) hHeld ?_ ?_
               rotate_left
               ·rintro w' ⟨s0, s1, s2, s3, s4, s5, s6, s7, s8, s9⟩
                go_simp
                with_reducible rfl
               rotate_left
               ·simp only [Act.put, List.setIfInBounds_toArray, List.set_cons_zero, List.set_cons_succ, i64_w, i32_w]
                rfl
               refine one_ (i := 19) (N := some 85) (tf_ 20 1) rfl rfl (one_of HT_.out (by kernel_rfl)) (by decide) (fun K hK => ?_)
               refine goes_ Try.func26 (by kernel_rfl) rfl #[.agg #[.int .i64 ((rd_T37 (rd_L3 t474 t477) (ji37)).f0), .int .i64 ((rd_T37 (rd_L3 t474 t477) (ji37)).f1), .int .i64 ((rd_T37 (rd_L3 t474 t477) (ji37)).f2), .int .i64 ((rd_T37 (rd_L3 t474 t477) (ji37)).f3), .int .i64 ((rd_T37 (rd_L3 t474 t477) (ji37)).f4)]] (by rfl) rfl rfl att14_0_24 ?_
               with_reducible refine (impl_EmitSize.calls ((rd_T37 (rd_L3 t474 t477) (ji37)).f0) ((rd_T37 (rd_L3 t474 t477) (ji37)).f1) ((rd_T37 (rd_L3 t474 t477) (ji37)).f2) ((rd_T37 (rd_L3 t474 t477) (ji37)).f3) ((rd_T37 (rd_L3 t474 t477) (ji37)).f4) t490 _ A43.out).mono ?_
               rintro e w47 ⟨rfl, hb⟩
               have HS2_ := (hb.cell (World.block_lt_of_cell? _ _ (hHeld.2.2.1))).trans (hHeld.2.2.1)
               have HS3_ := (hb.cell (World.block_lt_of_cell? _ _ (hHeld.2.2.2.1))).trans (hHeld.2.2.2.1)
               have HS4_ := (hb.cell (World.block_lt_of_cell? _ _ (hHeld.2.2.2.2.1))).trans (hHeld.2.2.2.2.1)
               have HS5_ := (hb.cell (World.block_lt_of_cell? _ _ (hHeld.2.2.2.2.2.1))).trans (hHeld.2.2.2.2.2.1)
               have HS6_ := (hb.cell (World.block_lt_of_cell? _ _ (hHeld.2.2.2.2.2.2.1))).trans (hHeld.2.2.2.2.2.2.1)
               have HS7_ := (hb.cell (World.block_lt_of_cell? _ _ (hHeld.2.2.2.2.2.2.2.1))).trans (hHeld.2.2.2.2.2.2.2.1)
               have HS8_ := (hb.cell (World.block_lt_of_cell? _ _ (hHeld.2.2.2.2.2.2.2.2.1))).trans (hHeld.2.2.2.2.2.2.2.2.1)
               have HS9_ := (hb.cell (World.block_lt_of_cell? _ _ (hHeld.2.2.2.2.2.2.2.2.2))).trans (hHeld.2.2.2.2.2.2.2.2.2)
               refine ⟨_, rfl, ?_⟩
               have n0_ := Aside0.mk (Kd.R_below att14_0_19 hb)
               have n1_ := Aside0.mk (Kd.R_below att14_0_18 hb)
               have n2_ := Aside0.mk (Kd.S_below att14_0_16 hb)
               have n3_ := Aside0.mk (Kd.R_below att14_0_17 hb)
               have n4_ := Aside0.mk (Kd.S_below att14_0_15 hb)
               have n5_ := Aside0.mk (Kd.R_below att14_0_28 hb)
               have n6_ := Aside0.mk (blk_below (g := gb466) (o := .cells #[.slice Ao12 t458.length co12, .slice Ao14 t461.length co14] 30 (0, 0)) att14_0_1 hb)
               have n7_ := Aside0.mk (blk_below (g := gb478) (o := .cells #[.slice Ao20 t471.length co20, .slice (some ad488) t474.length co23] 30 (0, 0)) att14_0_4 hb)
               have n8_ := Aside0.mk (Kd.C_below att14_0_9 hb)
               have n9_ := Aside0.mk (below_step att14_0_0 hb)
               clear HO_12
               clear HO_467000
               clear HO_467001
               clear HO_479000
               clear HO_479001
               clear HL488_0
               clear BK466
               clear BK478
               clear HR488_0
               clear HB
               have HO_12 := n0_
               have HO_467000 := n1_
               have HO_467001 := n2_
               have HO_479000 := n3_
               have HO_479001 := n4_
               have HL488_0 := n5_
               have BK466 := n6_
               have BK478 := n7_
               have HR488_0 := n8_
               have HB := n9_
               clear n0_ n1_ n2_ n3_ n4_ n5_ n6_ n7_ n8_ n9_
               (try clear hb)
               (try clear hb2)
               (try clear hk)
               (try clear hi)
               refine hK.out _ _ ⟨(blk_cell BK478.out 0).trans rfl, (blk_cell BK478.out 1).trans rfl, HS2_, HS3_, HS4_, HS5_, HS6_, HS7_, HS8_, HS9_⟩ (fun hHeld => ?_)
               clear hK K
               refine norm_ (a' := ?_) ?_ ?_
               rotate_left
               ·show Act.put _ (some 85) _ = _
                simp only [Act.put, List.setIfInBounds_toArray, List.set_cons_zero, List.set_cons_succ, i64_w, i32_w]
                rfl
               refine pure_ (i := 20) (N := some 86) (v := ?_) (a' := ?_) (tf_ 21 0) rfl rfl (any_of HT_.out (by kernel_rfl)) (fun _ _ _ h => h) (Or.inl ⟨by rfl, ?_⟩) ?_ ?_
               rotate_left
               ·intro w'
                go_simp
                with_reducible rfl
               rotate_left
               ·simp only [Act.put, List.setIfInBounds_toArray, List.set_cons_zero, List.set_cons_succ, i64_w, i32_w]
                rfl
               refine done_ (done_of HT_.out (by kernel_rfl)) ?_
               try go_wp2
               go_roundg k2
               case measure => have := HJ8.out; have := HK2.out; omega
               case rel => exact ⟨(wrap64 (x13_2 + 1)), att14_0_23, H', ⟨by have := HJ8.out; have := HK2.out; omega⟩, ⟨att14_0_19⟩, ⟨att14_0_18⟩, ⟨att14_0_16⟩, ⟨att14_0_17⟩, ⟨att14_0_15⟩, ⟨att14_0_1⟩, ⟨att14_0_4⟩, ⟨att14_0_0⟩⟩
              ·rw [if_neg c44] at H
               have c44b0 : ((wrap64 ((rd t479 x13_2) - (rd t479 (ji37)))) == t490) = false := beq_eq_false_iff_ne.mpr c44
               have c44b1 : ((wrap64 ((rd t479 x13_2) - (rd t479 (ji37)))) != t490) = true := bne_iff_ne.mpr c44
               obtain rfl := Option.some.inj H
               obtain ⟨Ao48, co48, eo48⟩ := Kd.R_slice HO_12.out
               subst eo48
               try go_wp2
               have n0_ := Aside0.mk (Kd.R_drew HO_12.out)
               have n1_ := Aside0.mk (Kd.R_drew HO_467000.out)
               have n2_ := Aside0.mk (Kd.S_drew HO_467001.out)
               have n3_ := Aside0.mk (Kd.R_drew HO_479000.out)
               have n4_ := Aside0.mk (Kd.S_drew HO_479001.out)
               have n5_ := Aside0.mk (blk_drew BK466.out)
               have n6_ := Aside0.mk (blk_drew BK478.out)
               have n7_ := Aside0.mk (below_drew1 HB.out)
               clear HO_12
               clear HO_467000
               clear HO_467001
               clear HO_479000
               clear HO_479001
               clear BK466
               clear BK478
               clear HB
               have HO_12 := n0_
               have HO_467000 := n1_
               have HO_467001 := n2_
               have HO_479000 := n3_
               have HO_479001 := n4_
               have BK466 := n5_
               have BK478 := n6_
               have HB := n7_
               clear n0_ n1_ n2_ n3_ n4_ n5_ n6_ n7_
               have p486 : 0 ≤ (x13_2 : Int) := of_decide_eq_true att14_0_6
               have q486 : x13_2 < (t479.length : Int) := of_decide_eq_true att14_0_6
               obtain ⟨ad486, e486, hx486_0⟩ := Kd.at_int (Kd.R_reads' HO_12.out).2.2 x13_2 p486 q486
               cases e486
               replace p486 := eq_true p486
               replace q486 := eq_true q486
               have p487 : 0 ≤ ((ji37) : Int) := of_decide_eq_true att14_0_6
               have q487 : (ji37) < (t479.length : Int) := of_decide_eq_true att14_0_6
               obtain ⟨ad487, e487, hx487_0⟩ := Kd.at_int (Kd.R_reads' HO_12.out).2.2 (ji37) p487 q487
               obtain rfl : ad486 = ad487 := (by injection e487)
               replace p487 := eq_true p487
               replace q487 := eq_true q487
               have p488 : 0 ≤ (t477 : Int) := of_decide_eq_true att14_0_6
               have q488 : t477 < (t474.length : Int) := of_decide_eq_true att14_0_6
               obtain ⟨ad488, A488_0, c488_0, e488, hx488_0, hl488_0, hi488_0⟩ := at_L3 (Kd.S_reads' HO_479001.out).2.2 t477 p488 q488
               cases e488
               obtain ⟨ce488, hce488, hMe488, hcc488⟩ := Kd.S_get HO_479001.out [] t477 p488 att14_1_0
               obtain ⟨ve488_0, rfl, ge488_0⟩ := hMe488
               have hv488_0 := hcc488 0 _ rfl
               rw [Nat.add_zero, show ((Kd.slice 37 k37)).sz = 1 from rfl, Nat.mul_one] at hv488_0
               replace hv488_0 := Option.some.inj (hv488_0.symm.trans hx488_0)
               rw [hv488_0] at ge488_0
               have HL488_0 := Aside0.mk (show Kd.R k37 37 _ _ _ _ (rd_L3 t474 t477) from ge488_0)
               clear hv488_0 ge488_0
               clear hcc488 hce488
               have HR488_0 := Aside0.mk hi488_0
               have HC488_0 := Aside0.mk hl488_0
               clear hi488_0 hl488_0
               replace p488 := eq_true p488
               replace q488 := eq_true q488
               have p489 : 0 ≤ ((ji37) : Int) := of_decide_eq_true att14_0_6
               have q489 : (ji37) < ((rd_L3 t474 t477).length : Int) := of_decide_eq_true att14_0_6
               obtain ⟨ad489, e489, hx489_0, hx489_1, hx489_2, hx489_3, hx489_4⟩ := at_T37 att14_0_9 (ji37) p489 q489
               cases e489
               replace p489 := eq_true p489
               replace q489 := eq_true q489
               refine start_ (n := 21) (S := fun w' => w'.cell? ⟨gb478, 0, none⟩ = some (.slice Ao20 t471.length co20) ∧ w'.cell? ⟨gb478, 1, none⟩ = some (.slice (some ad488) t474.length co23) ∧ w'.cell? (ad486.add (x13_2).toNat) = some (.int .i64 (rd t479 x13_2)) ∧ w'.cell? (ad486.add ((ji37)).toNat) = some (.int .i64 (rd t479 (ji37))) ∧ w'.cell? (ad488.add (t477).toNat) = some (.slice (some ad489) (rd_L3 t474 t477).length c488_0) ∧ w'.cell? (ad489.add (((ji37)).toNat * 5)) = some (.int .i64 ((rd_T37 (rd_L3 t474 t477) (ji37)).f0)) ∧ w'.cell? ⟨(ad489.add (((ji37)).toNat * 5)).block, (ad489.add (((ji37)).toNat * 5)).off + 1, none⟩ = some (.int .i64 ((rd_T37 (rd_L3 t474 t477) (ji37)).f1)) ∧ w'.cell? ⟨(ad489.add (((ji37)).toNat * 5)).block, (ad489.add (((ji37)).toNat * 5)).off + 2, none⟩ = some (.int .i64 ((rd_T37 (rd_L3 t474 t477) (ji37)).f2)) ∧ w'.cell? ⟨(ad489.add (((ji37)).toNat * 5)).block, (ad489.add (((ji37)).toNat * 5)).off + 3, none⟩ = some (.int .i64 ((rd_T37 (rd_L3 t474 t477) (ji37)).f3)) ∧ w'.cell? ⟨(ad489.add (((ji37)).toNat * 5)).block, (ad489.add (((ji37)).toNat * 5)).off + 4, none⟩ = some (.int .i64 ((rd_T37 (rd_L3 t474 t477) (ji37)).f4))) (ds := []) (tf_ 0 21) (by kernel_rfl) rfl rfl ⟨(blk_cell BK478.out 0).trans rfl, (blk_cell BK478.out 1).trans rfl, hx486_0, hx487_0, hx488_0, hx489_0, hx489_1, hx489_2, hx489_3, hx489_4⟩ (fun hHeld => ?_); refine with_tabW laws_FnPlaces.tab13 laws_FnPlaces.bits13 (fun HT_ HW_ => ?_)
               generalize wr.drew = w49 at HO_12 HO_467000 HO_467001 HO_479000 HO_479001 BK466 BK478 HB HL488_0 HR488_0 hx486_0 hx487_0 hx488_0 hx489_0 hx489_1 hx489_2 hx489_3 hx489_4 hHeld ⊢
               refine pure_ (i := 0) (N := some 66) (v := ?_) (a' := ?_) (tf_ 1 20) rfl rfl (any_of HT_.out (by kernel_rfl)) (fun _ _ _ h => h) (Or.inl ⟨by rfl, ?_⟩) ?_ ?_
               rotate_left
               ·intro w'
                go_simp
                with_reducible rfl
               rotate_left
               ·simp only [Act.put, List.setIfInBounds_toArray, List.set_cons_zero, List.set_cons_succ, i64_w, i32_w]
                rfl
               refine pure_ (i := 1) (N := some 67) (v := ?_) (a' := ?_) (tf_ 2 19) rfl rfl (any_of HT_.out (by kernel_rfl)) (fun _ _ _ h => h) (Or.inl ⟨by rfl, ?_⟩) ?_ ?_
               rotate_left
               ·intro w'
                go_simp
                with_reducible rfl
               rotate_left
               ·simp only [Act.put, List.setIfInBounds_toArray, List.set_cons_zero, List.set_cons_succ, i64_w, i32_w]
                rfl
               refine pure_ (i := 2) (N := some 68) (v := ?_) (a' := ?_) (tf_ 3 18) rfl rfl (any_of HT_.out (by kernel_rfl)) (fun _ _ _ h => h) (Or.inl ⟨by rfl, ?_⟩) ?_ ?_
               rotate_left
               ·intro w'
                go_simp
                with_reducible rfl
               rotate_left
               ·simp only [Act.put, List.setIfInBounds_toArray, List.set_cons_zero, List.set_cons_succ, i64_w, i32_w]
                rfl
               refine pure_ (i := 4) (N := some 70) (v := ?_) (a' := ?_) #[true, true, true, false, true, false, false, false, false, false, false, false, false, false, false, false, false, false, false, false, false] rfl rfl (any_of HT_.out (by kernel_rfl)) (fun _ _ _ h => h) (Or.inl ⟨by rfl, ?_⟩) ?_ ?_
               rotate_left
               ·intro w'
                go_simp
                with_reducible rfl
               rotate_left
               ·simp only [Act.put, List.setIfInBounds_toArray, List.set_cons_zero, List.set_cons_succ, i64_w, i32_w]
                rfl
               refine pure_ (i := 5) (N := some 71) (v := ?_) (a' := ?_) #[true, true, true, false, true, true, false, false, false, false, false, false, false, false, false, false, false, false, false, false, false] rfl rfl (any_of HT_.out (by kernel_rfl)) (fun _ _ _ h => h) (Or.inl ⟨by rfl, ?_⟩) ?_ ?_
               rotate_left
               ·intro w'
                go_simp
                with_reducible rfl
               rotate_left
               ·simp only [Act.put, List.setIfInBounds_toArray, List.set_cons_zero, List.set_cons_succ, i64_w, i32_w]
                rfl
               refine pure_ (i := 6) (N := some 72) (v := ?_) (a' := ?_) #[true, true, true, false, true, true, true, false, false, false, false, false, false, false, false, false, false, false, false, false, false] rfl rfl (any_of HT_.out (by kernel_rfl)) (fun _ _ _ h => h) (Or.inl ⟨by rfl, ?_⟩) ?_ ?_
               rotate_left
               ·intro w'
                go_simp
                with_reducible rfl
               rotate_left
               ·simp only [Act.put, List.setIfInBounds_toArray, List.set_cons_zero, List.set_cons_succ, i64_w, i32_w]
                rfl
               refine pure_ (i := 7) (N := some 73) (v := ?_) (a' := ?_) #[true, true, true, false, true, true, true, true, false, false, false, false, false, false, false, false, false, false, false, false, false] rfl rfl (any_of HT_.out (by kernel_rfl)) (fun _ _ _ h => h) (Or.inl ⟨by rfl, ?_⟩) ?_ ?_
               rotate_left
               ·intro w'
                go_simp
                with_reducible rfl
               rotate_left
               ·simp only [Act.put, List.setIfInBounds_toArray, List.set_cons_zero, List.set_cons_succ, i64_w, i32_w]
                rfl
               refine pure_ (i := 10) (N := some 76) (v := ?_) (a' := ?_) #[true, true, true, false, true, true, true, true, false, false, true, false, false, false, false, false, false, false, false, false, false] rfl rfl (any_of HT_.out (by kernel_rfl)) (fun _ _ _ h => h) (Or.inl ⟨by rfl, ?_⟩) ?_ ?_
               rotate_left
               ·intro w'
                go_simp
                with_reducible rfl
               rotate_left
               ·simp only [Act.put, List.setIfInBounds_toArray, List.set_cons_zero, List.set_cons_succ, i64_w, i32_w]
                rfl
               refine pure_ (i := 12) (N := some 78) (v := ?_) (a' := ?_) #[true, true, true, false, true, true, true, true, false, false, true, false, true, false, false, false, false, false, false, false, false] rfl rfl (any_of HT_.out (by kernel_rfl)) (fun _ _ _ h => h) (Or.inl ⟨by rfl, ?_⟩) ?_ ?_
               rotate_left
               ·intro w'
                go_simp
                with_reducible rfl
               rotate_left
               ·simp only [Act.put, List.setIfInBounds_toArray, List.set_cons_zero, List.set_cons_succ, i64_w, i32_w]
                rfl
               refine pure_ (i := 15) (N := some 81) (v := ?_) (a' := ?_) #[true, true, true, false, true, true, true, true, false, false, true, false, true, false, false, true, false, false, false, false, false] rfl rfl (any_of HT_.out (by kernel_rfl)) (fun _ _ _ h => h) (Or.inl ⟨by rfl, ?_⟩) ?_ ?_
               rotate_left
               ·intro w'
                go_simp
                with_reducible rfl
               rotate_left
               ·simp only [Act.put, List.setIfInBounds_toArray, List.set_cons_zero, List.set_cons_succ, i64_w, i32_w]
                rfl
               refine pure_ (i := 16) (N := some 82) (v := ?_) (a' := ?_) #[true, true, true, false, true, true, true, true, false, false, true, false, true, false, false, true, true, false, false, false, false] rfl rfl (any_of HT_.out (by kernel_rfl)) (fun _ _ _ h => h) (Or.inl ⟨by rfl, ?_⟩) ?_ ?_
               rotate_left
               ·intro w'
                go_simp
                with_reducible rfl
               rotate_left
               ·simp only [Act.put, List.setIfInBounds_toArray, List.set_cons_zero, List.set_cons_succ, i64_w, i32_w]
                rfl
               refine take_ (i := 3) (N := some 69) (v := ?_) (a' := ?_) #[true, true, true, true, true, true, true, true, false, false, true, false, true, false, false, true, true, false, false, false, false] rfl rfl (take_ofW HT_.out HW_.out (by kernel_rfl)) (fun _ _ _ h => h) (Or.inl ⟨by rfl, ?_⟩) hHeld ?_ ?_
               rotate_left
               ·rintro w' ⟨s0, s1, s2, s3, s4, s5, s6, s7, s8, s9⟩
                go_simp
                with_reducible rfl
               rotate_left
               ·simp only [Act.put, List.setIfInBounds_toArray, List.set_cons_zero, List.set_cons_succ, i64_w, i32_w]
                rfl
               refine take_ (i := 8) (N := some 74) (v := ?_) (a' := ?_) #[true, true, true, true, true, true, true, true, true, false, true, false, true, false, false, true, true, false, false, false, false] rfl rfl (take_ofW HT_.out HW_.out (by kernel_rfl)) (fun _ _ _ h => h) (Or.inl ⟨by rfl, ?_⟩) hHeld ?_ ?_
               rotate_left
               ·rintro w' ⟨s0, s1, s2, s3, s4, s5, s6, s7, s8, s9⟩
                go_simp
                with_reducible rfl
               rotate_left
               ·simp only [Act.put, List.setIfInBounds_toArray, List.set_cons_zero, List.set_cons_succ, i64_w, i32_w]
                rfl
               refine pure_ (i := 9) (N := some 75) (v := ?_) (a' := ?_) #[true, true, true, true, true, true, true, true, true, true, true, false, true, false, false, true, true, false, false, false, false] rfl rfl (any_of HT_.out (by kernel_rfl)) (fun _ _ _ h => h) (Or.inl ⟨by rfl, ?_⟩) ?_ ?_
               rotate_left
               ·intro w'
                go_simp
                with_reducible rfl
               rotate_left
               ·simp only [Act.put, List.setIfInBounds_toArray, List.set_cons_zero, List.set_cons_succ, i64_w, i32_w]
                rfl
               refine take_ (i := 11) (N := some 77) (v := ?_) (a' := ?_) #[true, true, true, true, true, true, true, true, true, true, true, true, true, false, false, true, true, false, false, false, false] rfl rfl (take_ofW HT_.out HW_.out (by kernel_rfl)) (fun _ _ _ h => h) (Or.inl ⟨by rfl, ?_⟩) hHeld ?_ ?_
               rotate_left
               ·rintro w' ⟨s0, s1, s2, s3, s4, s5, s6, s7, s8, s9⟩
                go_simp
                with_reducible rfl
               rotate_left
               ·simp only [Act.put, List.setIfInBounds_toArray, List.set_cons_zero, List.set_cons_succ, i64_w, i32_w]
                rfl
               refine pure_ (i := 13) (N := some 79) (v := ?_) (a' := ?_) #[true, true, true, true, true, true, true, true, true, true, true, true, true, true, false, true, true, false, false, false, false] rfl rfl (any_of HT_.out (by kernel_rfl)) (fun _ _ _ h => h) (Or.inl ⟨by rfl, ?_⟩) ?_ ?_
               rotate_left
               ·intro w'
                go_simp
                with_reducible rfl
               rotate_left
               ·simp only [Act.put, List.setIfInBounds_toArray, List.set_cons_zero, List.set_cons_succ, i64_w, i32_w]
                rfl
               refine take_ (i := 14) (N := some 80) (v := ?_) (a' := ?_) (tf_ 17 4) rfl rfl (take_ofW HT_.out HW_.out (by kernel_rfl)) (fun _ _ _ h => h) (Or.inl ⟨by rfl, ?_⟩) hHeld ?_ ?_
               rotate_left
               ·rintro w' ⟨s0, s1, s2, s3, s4, s5, s6, s7, s8, s9⟩
                go_simp
                with_reducible rfl
               rotate_left
               ·simp only [Act.put, List.setIfInBounds_toArray, List.set_cons_zero, List.set_cons_succ, i64_w, i32_w]
                rfl
               refine pure_ (i := 17) (N := some 83) (v := ?_) (a' := ?_) (tf_ 18 3) rfl rfl (any_of HT_.out (by kernel_rfl)) (fun _ _ _ h => h) (Or.inl ⟨by rfl, ?_⟩) ?_ ?_
               rotate_left
               ·intro w'
                go_simp
                with_reducible rfl
               rotate_left
               ·simp only [Act.put, List.setIfInBounds_toArray, List.set_cons_zero, List.set_cons_succ, i64_w, i32_w]
                rfl
               refine take_ (i := 18) (N := some 84) (v := ?_) (a' := ?_) (tf_ 19 2) rfl rfl (take_ofW HT_.out HW_.out (by kernel_rfl)) (fun _ _ _ h => h) (Or.inl ⟨by rfl, ?_⟩) hHeld ?_ ?_
               rotate_left
               ·rintro w' ⟨s0, s1, s2, s3, s4, s5, s6, s7, s8, s9⟩
                go_simp
                with_reducible rfl
               rotate_left
               ·simp only [Act.put, List.setIfInBounds_toArray, List.set_cons_zero, List.set_cons_succ, i64_w, i32_w]
                rfl
               refine one_ (i := 19) (N := some 85) (tf_ 20 1) rfl rfl (one_of HT_.out (by kernel_rfl)) (by decide) (fun K hK => ?_)
               refine goes_ Try.func26 (by kernel_rfl) rfl #[.agg #[.int .i64 ((rd_T37 (rd_L3 t474 t477) (ji37)).f0), .int .i64 ((rd_T37 (rd_L3 t474 t477) (ji37)).f1), .int .i64 ((rd_T37 (rd_L3 t474 t477) (ji37)).f2), .int .i64 ((rd_T37 (rd_L3 t474 t477) (ji37)).f3), .int .i64 ((rd_T37 (rd_L3 t474 t477) (ji37)).f4)]] (by rfl) rfl rfl att14_0_24 ?_
               with_reducible refine (impl_EmitSize.calls ((rd_T37 (rd_L3 t474 t477) (ji37)).f0) ((rd_T37 (rd_L3 t474 t477) (ji37)).f1) ((rd_T37 (rd_L3 t474 t477) (ji37)).f2) ((rd_T37 (rd_L3 t474 t477) (ji37)).f3) ((rd_T37 (rd_L3 t474 t477) (ji37)).f4) t490 _ A43.out).mono ?_
               rintro e w50 ⟨rfl, hb⟩
               have HS2_ := (hb.cell (World.block_lt_of_cell? _ _ (hHeld.2.2.1))).trans (hHeld.2.2.1)
               have HS3_ := (hb.cell (World.block_lt_of_cell? _ _ (hHeld.2.2.2.1))).trans (hHeld.2.2.2.1)
               have HS4_ := (hb.cell (World.block_lt_of_cell? _ _ (hHeld.2.2.2.2.1))).trans (hHeld.2.2.2.2.1)
               have HS5_ := (hb.cell (World.block_lt_of_cell? _ _ (hHeld.2.2.2.2.2.1))).trans (hHeld.2.2.2.2.2.1)
               have HS6_ := (hb.cell (World.block_lt_of_cell? _ _ (hHeld.2.2.2.2.2.2.1))).trans (hHeld.2.2.2.2.2.2.1)
               have HS7_ := (hb.cell (World.block_lt_of_cell? _ _ (hHeld.2.2.2.2.2.2.2.1))).trans (hHeld.2.2.2.2.2.2.2.1)
               have HS8_ := (hb.cell (World.block_lt_of_cell? _ _ (hHeld.2.2.2.2.2.2.2.2.1))).trans (hHeld.2.2.2.2.2.2.2.2.1)
               have HS9_ := (hb.cell (World.block_lt_of_cell? _ _ (hHeld.2.2.2.2.2.2.2.2.2))).trans (hHeld.2.2.2.2.2.2.2.2.2)
               refine ⟨_, rfl, ?_⟩
               have n0_ := Aside0.mk (Kd.R_below att14_0_19 hb)
               have n1_ := Aside0.mk (Kd.R_below att14_0_18 hb)
               have n2_ := Aside0.mk (Kd.S_below att14_0_16 hb)
               have n3_ := Aside0.mk (Kd.R_below att14_0_17 hb)
               have n4_ := Aside0.mk (Kd.S_below att14_0_15 hb)
               have n5_ := Aside0.mk (Kd.R_below att14_0_28 hb)
               have n6_ := Aside0.mk (blk_below (g := gb466) (o := .cells #[.slice Ao12 t458.length co12, .slice Ao14 t461.length co14] 30 (0, 0)) att14_0_1 hb)
               have n7_ := Aside0.mk (blk_below (g := gb478) (o := .cells #[.slice Ao20 t471.length co20, .slice (some ad488) t474.length co23] 30 (0, 0)) att14_0_4 hb)
               have n8_ := Aside0.mk (Kd.C_below att14_0_9 hb)
               have n9_ := Aside0.mk (below_step att14_0_0 hb)
               clear HO_12
               clear HO_467000
               clear HO_467001
               clear HO_479000
               clear HO_479001
               clear HL488_0
               clear BK466
               clear BK478
               clear HR488_0
               clear HB
               have HO_12 := n0_
               have HO_467000 := n1_
               have HO_467001 := n2_
               have HO_479000 := n3_
               have HO_479001 := n4_
               have HL488_0 := n5_
               have BK466 := n6_
               have BK478 := n7_
               have HR488_0 := n8_
               have HB := n9_
               clear n0_ n1_ n2_ n3_ n4_ n5_ n6_ n7_ n8_ n9_
               (try clear hb)
               (try clear hb2)
               (try clear hk)
               (try clear hi)
               refine hK.out _ _ ⟨(blk_cell BK478.out 0).trans rfl, (blk_cell BK478.out 1).trans rfl, HS2_, HS3_, HS4_, HS5_, HS6_, HS7_, HS8_, HS9_⟩ (fun hHeld => ?_)
               clear hK K
               refine norm_ (a' := ?_) ?_ ?_
               rotate_left
               ·show Act.put _ (some 85) _ = _
                simp only [Act.put, List.setIfInBounds_toArray, List.set_cons_zero, List.set_cons_succ, i64_w, i32_w]
                rfl
               refine pure_ (i := 20) (N := some 86) (v := ?_) (a' := ?_) (tf_ 21 0) rfl rfl (any_of HT_.out (by kernel_rfl)) (fun _ _ _ h => h) (Or.inl ⟨by rfl, ?_⟩) ?_ ?_
               rotate_left
               ·intro w'
                go_simp
                with_reducible rfl
               rotate_left
               ·simp only [Act.put, List.setIfInBounds_toArray, List.set_cons_zero, List.set_cons_succ, i64_w, i32_w]
                rfl
               refine done_ (done_of HT_.out (by kernel_rfl)) ?_
               try go_wp2
               go_ret
               exact ⟨by first | rfl | (simp [errW_none, errW_some] <;> rfl) | (simp only [← hji37]; first | rfl | (simp [errW_none, errW_some] <;> rfl)) | (simp [*, errW_none, errW_some] <;> rfl), att14_0_0⟩
             ·rw [if_neg c42] at H
              exact absurd H (by simp)
            ·rw [if_neg c41] at H
             exact absurd H (by simp)
           ·rw [if_neg c40] at H
            exact absurd H (by simp)
          ·rw [if_neg c39] at H
           exact absurd H (by simp)
         ·rw [if_neg c38] at H
          exact absurd H (by simp)
        ·rw [if_neg c36] at H
         exact absurd H (by simp)
       ·rw [if_neg c35] at H
        have c35b0 : decide (x13_2 < (t479.length : Int)) = false := decide_eq_false c35
        clear c35
        by_cases c51 : t467 ≥ 0
        ·rw [if_pos c51] at H
         have c51b0 : decide (0 ≤ t467) = true := decide_eq_true c51
         clear c51
         obtain rfl := Option.some.inj H
         obtain ⟨Ao52, co52, eo52⟩ := Kd.R_slice HO_12.out
         subst eo52
         go_wp2
         go_ret
         exact ⟨by first | rfl | (simp [errW_none, errW_some] <;> rfl) | (simp [*, errW_none, errW_some] <;> rfl), att14_0_0⟩
        ·rw [if_neg c51] at H
         have c51b0 : decide (0 ≤ t467) = false := decide_eq_false c51
         clear c51
         by_cases c53 : t467 = (-1)
         ·rw [if_pos c53] at H
          have c53b0 : (t467 == (-1)) = true := beq_iff_eq.mpr c53
          have c53b1 : (t467 != (-1)) = false := bne_eq_false_iff_eq.mpr c53
          clear c53
          obtain rfl := Option.some.inj H
          obtain ⟨Ao54, co54, eo54⟩ := Kd.R_slice HO_12.out
          subst eo54
          go_wp2
          go_ret
          exact ⟨by first | rfl | (simp [errW_none, errW_some] <;> rfl) | (simp [*, errW_none, errW_some] <;> rfl), att14_0_0⟩
         ·rw [if_neg c53] at H
          have c53b0 : (t467 == (-1)) = false := beq_eq_false_iff_ne.mpr c53
          have c53b1 : (t467 != (-1)) = true := bne_iff_ne.mpr c53
          obtain rfl := Option.some.inj H
          obtain ⟨Ao55, co55, eo55⟩ := Kd.R_slice HO_12.out
          subst eo55
          go_wp2
          go_ret
          exact ⟨by first | rfl | (simp [errW_none, errW_some] <;> rfl) | (simp [*, errW_none, errW_some] <;> rfl), att14_0_0⟩

/-- THE ONE PURE STATEMENT of laws_FnPlaces: yours. -/
def laws_FnPlaces.Pure : Prop := ∀ (l0 : List Int), l0.length ≤ maxLen → l0.length * 1 ≤ 140737488351232 → (∀ x ∈ l0, (Lit.int .u8 x).wf = true) → ∃ k, laws_FnPlaces.f k l0 = some true
theorem laws_FnPlaces.walk (P : laws_FnPlaces.Pure) (a0 : Option Addr) (len0 cap0 : Nat) (z0 : List Int) (w : World) (w0 : (a0 = none ∧ len0 = 0 ∧ cap0 = 0 ∧ z0 = []) ∨ ∃ x, a0 = some x ∧ len0 ≤ cap0 ∧ cap0 ≤ maxLen ∧ z0.length = cap0 ∧ (∀ i, i < z0.length → w.cell? (x.add i) = some (.int .u8 (z0.getD i 0))) ∧ ∀ n ∈ z0, (Lit.int .u8 n).wf = true) (y0 : len0 * 1 ≤ 140737488351232) :
  Calls Try.prog 9 #[.slice a0 len0 cap0] w fun e w' => e = .returned (.bool true) ∧ Below w.heap.size w w' := by
 obtain ⟨l0, rfl, hr0, hm0, hw0, hc0⟩ := ReadsInt.ofRowC w0
 obtain ⟨k, h⟩ := P l0 hm0 y0 hw0
 refine (laws_FnPlaces.calls k _ _ l0 true w (Kd.C_of_reads (d := (0 : Int)) (h1 := fun _ => rfl) hr0) hc0 h).mono ?_
 rintro e w' ⟨rfl, hd⟩
 exact ⟨rfl, hd⟩

end Go.Proofs.Ytonlhgkpmjefkaa.XFnPlaces
