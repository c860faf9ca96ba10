/- Each Go function that the law reaches as a Lean function, and that Go comes to just its answer; written by this session's xprint.py over the kit's printer. -/
import Derived.Test.YtonlhgkpmjefkaaXFnPlacesx0
import Derived.Test.YtonlhgkpmjefkaaXFnPlacesx8
import Derived.Test.YtonlhgkpmjefkaaXFnPlacesx10
namespace Go.Proofs.Ytonlhgkpmjefkaa.XFnPlaces
open Go.RowKit Go.Proofs.YtonlhgkpmjefkaaW.PrintWords Go.Proofs.YtonlhgkpmjefkaaW.PrintLast Go.Proofs.YtonlhgkpmjefkaaW.PrintMore
attribute [local go_sem] max2_int min2_int max_two min_two max_three min_three max_four min_four   -- for this text's walks alone
set_option linter.unusedVariables false
set_option linter.unusedSimpArgs false

theorem att12_0_0 {p : Prop} (h : p := by repeat (first | (with_reducible first | exact HK.out | apply KeepBut.set_ | apply keep_drewN | apply keep_drew | apply keep_alloc | refine keep_far ?_ GW347.out _) | exact HK.out)) : p := h
theorem att12_0_1 {p : Prop} (h : p := by repeat (first | (with_reducible first | exact HK.out | apply KeepBut.set_ | apply keep_drewN | apply keep_drew | apply keep_alloc | refine keep_far ?_ GW347.out _ | refine keep_far ?_ GW356.out _) | exact HK.out)) : p := h
theorem att12_0_2 {p : Prop} (h : p := by (with_reducible repeat (first | refine blk_drewN ?_ _ | refine blk_drew ?_ | refine blk_alloc ?_ _)); exact BK347.out) : p := h
theorem att12_0_3 {p : Prop} (h : p := by repeat (first | (with_reducible first | exact HK.out | apply KeepBut.set_ | apply keep_drewN | apply keep_drew | apply keep_alloc) | exact HK.out)) : p := h
theorem att12_0_4 {p : Prop} (h : p := by (with_reducible repeat (first | refine blk_drewN ?_ _ | refine blk_drew ?_ | refine blk_alloc ?_ _)); refine blk_far ?_ NB347_356.out _; (with_reducible repeat (first | refine blk_drewN ?_ _ | refine blk_drew ?_ | refine blk_alloc ?_ _)); refine blk_far ?_ NB347_356.out _; (with_reducible repeat (first | refine blk_drewN ?_ _ | refine blk_drew ?_ | refine blk_alloc ?_ _)); exact BK347.out) : p := h
theorem att12_0_5 {p : Prop} (h : p := by (try simp only [List.map_toArray, List.map_cons, List.map_nil]); first | done | rfl | (simp only [List.length_drop, List.length_take]; rfl)) : p := h
theorem att12_0_6 {p : Prop} (h : p := by (with_reducible repeat (first | apply Kd.R_alloc | apply Kd.R_drewN | apply Kd.R_drew)); exact HO350.out) : p := h
theorem att12_0_7 {p : Prop} (h : p := by (with_reducible repeat (first | apply Kd.S_alloc | apply Kd.S_drewN | apply Kd.S_drew)); exact HO353.out) : p := h
theorem att12_0_8 {p : Prop} (h : p := by repeat (first | (with_reducible first | exact HI0.out | apply IsS170.alloc | apply IsS170.drewN | apply IsS170.drew | apply IsS170.set_1 | apply IsS170.set_2 | refine IsS170.far ?_ NB0_347.out _) | exact HI0.out)) : p := h
theorem att12_0_9 {p : Prop} (h : p := by repeat (first | (with_reducible first | exact HB.out | apply below_alloc | apply pw_below_drewN | apply below_drew1 | refine below_set ?_ (IsS170.ge HI0.out) | refine below_set ?_ GE347.out) | exact HB.out)) : p := h
theorem att12_0_10 {p : Prop} (h : p := by repeat (first | (with_reducible first | exact HI0.out | apply IsS170.alloc | apply IsS170.drewN | apply IsS170.drew | apply IsS170.set_1 | apply IsS170.set_2) | exact HI0.out)) : p := h
theorem att12_0_11 {p : Prop} (h : p := by repeat (first | (with_reducible first | exact HB.out | apply below_alloc | apply pw_below_drewN | apply below_drew1 | refine below_set ?_ (IsS170.ge HI0.out)) | exact HB.out)) : p := h
theorem att12_0_12 {p : Prop} (h : p := by repeat (first | (with_reducible first | exact HI0.out | apply IsS170.alloc | apply IsS170.drewN | apply IsS170.drew | apply IsS170.set_1 | apply IsS170.set_2 | refine IsS170.far ?_ NB0_347.out _ | refine IsS170.far ?_ NB0_356.out _) | exact HI0.out)) : p := h
theorem att12_0_13 {p : Prop} (h : p := by repeat (first | (with_reducible first | exact HB.out | apply below_alloc | apply pw_below_drewN | apply below_drew1 | refine below_set ?_ (IsS170.ge HI0.out) | refine below_set ?_ GE347.out | refine below_set ?_ GE356.out) | exact HB.out)) : p := h
theorem att12_0_14 {p : Prop} (h : p := by (with_reducible repeat (first | refine blk_drewN ?_ _ | refine blk_drew ?_ | refine blk_alloc ?_ _)); exact BK356.out) : p := h
theorem att12_0_15 {p : Prop} (h : p := by first | (with_reducible assumption) | assumption) : p := h
theorem att12_0_16 {p : Prop} (h : p := by have h_ := Kd.R_ne HL367_0.out BK356.out (by decide); intro e_; exact h_ (by rw [e_]; rfl)) : p := h
theorem att12_0_17 {p : Prop} (h : p := by have h_ := Kd.R_ne HL367_0.out BK347.out (by decide); intro e_; exact h_ (by rw [e_]; rfl)) : p := h
theorem att12_0_18 {p : Prop} (h : p := by (with_reducible repeat (first | apply Kd.R_alloc | apply Kd.R_drewN | apply Kd.R_drew)); exact HO382.out) : p := h
theorem att12_1_0 {p : Prop} (h : p := by have h_ : (0 : Int) < (((rd_L3 t351 0).length : Int) : Int) := of_decide_eq_true att12_0_15; first | exact h_ | (have e_ := (Kd.R_reads' HR367_0.out).1; omega) | simpa using h_) : p := h
/-! ### spec_l1Draw: function 135 -/
def spec_l1Draw.f (k : Nat) (s0_0 : List Int) (s0_1 : Int) (s0_2 : Int) : Option (List Int × (List (List (S37))) × Int × Int) := (spec_l1DrawRight.f k s0_0 s0_1 s0_2).bind fun bt348 => ((spec_l1Below.f s0_0 bt348.2.2.1 bt348.2.2.2 20).bind fun bt357 => (if bt357.1 = 0 then ((spec_l1PickInt.f s0_0 bt357.2.1 bt357.2.2 (([0, 5] : List Int))).bind fun bt363 => (if 0 < (bt348.1.length : Int) then (some ((bt348.1.set (0 : Int).toNat bt363.1), bt348.2.1, bt363.2.1, bt363.2.2)) else (none))) else (if bt357.1 = 1 then (if 0 < (bt348.2.1.length : Int) then (if 0 < ((rd_L3 bt348.2.1 0).length : Int) then ((spec_l1Spoil.f s0_0 bt357.2.1 bt357.2.2 ((rd_T37 (rd_L3 bt348.2.1 0) 0).f0) ((rd_T37 (rd_L3 bt348.2.1 0) 0).f1) ((rd_T37 (rd_L3 bt348.2.1 0) 0).f2) ((rd_T37 (rd_L3 bt348.2.1 0) 0).f3) ((rd_T37 (rd_L3 bt348.2.1 0) 0).f4)).bind fun bt370 => (some (bt348.1, (bt348.2.1.set (0 : Int).toNat ((rd_L3 bt348.2.1 0).set (0 : Int).toNat (⟨bt370.1, bt370.2.1, bt370.2.2.1, bt370.2.2.2.1, bt370.2.2.2.2.1⟩ : S37))), bt370.2.2.2.2.2.1, bt370.2.2.2.2.2.2))) else (none)) else (none)) else (if bt357.1 = 2 then (some (bt348.1, ([] : List (List (S37))), bt357.2.1, bt357.2.2)) else (if bt357.1 = 3 then ((some (([1, 1, 1] : List Int) : List Int)).bind fun y380 => (if bt348.1.length + y380.length < 17592186044416 then (some ((bt348.1 ++ y380), bt348.2.1, bt357.2.1, bt357.2.2)) else (none))) else (some (bt348.1, bt348.2.1, bt357.2.1, bt357.2.2)))))))
theorem spec_l1Draw.mono : ∀ a0 a1 a2 k, LeO (spec_l1Draw.f k a0 a1 a2) (spec_l1Draw.f (k + 1) a0 a1 a2) := by
 intro a0 a1 a2 k
 unfold spec_l1Draw.f
 repeat' first
   | (with_reducible exact spec_l1DrawRight.mono _ _ _ _)
   | (with_reducible exact LeO.refl _)
   | (with_reducible exact LeO.none _)
   | (with_reducible refine LeO.ite ?_ ?_)
   | (with_reducible refine LeO.bind ?_ (fun _ => ?_))
   | exact spec_l1DrawRight.mono _ _ _ _
   | exact LeO.none _
   | refine LeO.ite ?_ ?_
   | refine LeO.bind ?_ (fun _ => ?_)
def spec_l1Draw.T6 : Bool × List (List Nat × List Nat) := (true, [([], []), ([0], [0]), ([1], [1]), ([2], [2]), ([], []), ([], []), ([5], [5]), ([6], [6]), ([7], [7]), ([8], [8]), ([9], [9]), ([4, 10], [4, 10]), ([3, 0, 1, 2, 3, 4, 5, 6, 7, 8, 9, 10, 11], [3]), ([12, 11, 11, 0, 1, 2, 3, 4, 5, 6, 7, 8, 9, 10, 11], [11, 12])])
def spec_l1Draw.B6 : List Nat := [0, 1, 3, 7, 0, 0, 32, 96, 224, 480, 992, 2032, 4095, 8191]
theorem spec_l1Draw.tab6 : rtab .any (opsOf Try.f135 6) = spec_l1Draw.T6 := by kernel_rfl
theorem spec_l1Draw.bits6 : waitsOk spec_l1Draw.T6.2 spec_l1Draw.B6 = true := by kernel_rfl
set_option maxHeartbeats 80000000 in
set_option maxRecDepth 100000 in
theorem spec_l1Draw.calls (k : Nat) (g : Nat) (s0_0 : List Int) (s0_1 : Int) (s0_2 : Int) (r1 : List Int) (r2 : List (List (S37))) (r3 : Int) (r4 : Int) (w0 w : World) (hI : IsS170 w0 w g s0_0 s0_1 s0_2) (hB : Below w0.heap.size w0 w) (h : spec_l1Draw.f k s0_0 s0_1 s0_2 = some (r1, r2, r3, r4)) :
  Calls Try.prog 135 #[.pointer (some ⟨g, 0, none⟩)] w fun e w' => ∃ v0_ v1_ : Value, e = .returned (.agg #[v0_, v1_]) ∧ Kd.R (Kd.int .i64) 3 w' w.heap.size (fun _ => True) v0_ r1 ∧ Kd.S (Kd.slice 37 k37) 51 w' w.heap.size (fun _ => True) v1_ r2 ∧ IsS170 w0 w' g s0_0 r3 r4 ∧ Below w0.heap.size w0 w' ∧ KeepBut w w' g none := by
 have hu30 := Try.underlying30
 have hu37 := Try.underlying37
 have HI0 := Aside0.mk hI
 have HK := Aside0.mk (KeepBut.refl w g none)
 have HL := Aside0.mk hB.size
 clear hI
 have HW0 := Aside0.mk hB.size
 have HB := Aside0.mk hB
 clear hB
 have H : ((spec_l1DrawRight.f k s0_0 s0_1 s0_2).bind fun bt348 => ((spec_l1Below.f s0_0 bt348.2.2.1 bt348.2.2.2 20).bind fun bt357 => (if bt357.1 = 0 then ((spec_l1PickInt.f s0_0 bt357.2.1 bt357.2.2 (([0, 5] : List Int))).bind fun bt363 => (if 0 < (bt348.1.length : Int) then (some ((bt348.1.set (0 : Int).toNat bt363.1), bt348.2.1, bt363.2.1, bt363.2.2)) else (none))) else (if bt357.1 = 1 then (if 0 < (bt348.2.1.length : Int) then (if 0 < ((rd_L3 bt348.2.1 0).length : Int) then ((spec_l1Spoil.f s0_0 bt357.2.1 bt357.2.2 ((rd_T37 (rd_L3 bt348.2.1 0) 0).f0) ((rd_T37 (rd_L3 bt348.2.1 0) 0).f1) ((rd_T37 (rd_L3 bt348.2.1 0) 0).f2) ((rd_T37 (rd_L3 bt348.2.1 0) 0).f3) ((rd_T37 (rd_L3 bt348.2.1 0) 0).f4)).bind fun bt370 => (some (bt348.1, (bt348.2.1.set (0 : Int).toNat ((rd_L3 bt348.2.1 0).set (0 : Int).toNat (⟨bt370.1, bt370.2.1, bt370.2.2.1, bt370.2.2.2.1, bt370.2.2.2.2.1⟩ : S37))), bt370.2.2.2.2.2.1, bt370.2.2.2.2.2.2))) else (none)) else (none)) else (if bt357.1 = 2 then (some (bt348.1, ([] : List (List (S37))), bt357.2.1, bt357.2.2)) else (if bt357.1 = 3 then ((some (([1, 1, 1] : List Int) : List Int)).bind fun y380 => (if bt348.1.length + y380.length < 17592186044416 then (some ((bt348.1 ++ y380), bt348.2.1, bt357.2.1, bt357.2.2)) else (none))) else (some (bt348.1, bt348.2.1, bt357.2.1, bt357.2.2)))))))) = some (r1, r2, r3, r4) := h
 clear h
 replace H := Option.bind_eq_some_iff.mp H
 obtain ⟨⟨t348, t351, t354, t355⟩, A20, H⟩ := H
 replace H : ((spec_l1Below.f s0_0 t354 t355 20).bind fun bt357 => (if bt357.1 = 0 then ((spec_l1PickInt.f s0_0 bt357.2.1 bt357.2.2 (([0, 5] : List Int))).bind fun bt363 => (if 0 < (t348.length : Int) then (some ((t348.set (0 : Int).toNat bt363.1), t351, bt363.2.1, bt363.2.2)) else (none))) else (if bt357.1 = 1 then (if 0 < (t351.length : Int) then (if 0 < ((rd_L3 t351 0).length : Int) then ((spec_l1Spoil.f s0_0 bt357.2.1 bt357.2.2 ((rd_T37 (rd_L3 t351 0) 0).f0) ((rd_T37 (rd_L3 t351 0) 0).f1) ((rd_T37 (rd_L3 t351 0) 0).f2) ((rd_T37 (rd_L3 t351 0) 0).f3) ((rd_T37 (rd_L3 t351 0) 0).f4)).bind fun bt370 => (some (t348, (t351.set (0 : Int).toNat ((rd_L3 t351 0).set (0 : Int).toNat (⟨bt370.1, bt370.2.1, bt370.2.2.1, bt370.2.2.2.1, bt370.2.2.2.2.1⟩ : S37))), bt370.2.2.2.2.2.1, bt370.2.2.2.2.2.2))) else (none)) else (none)) else (if bt357.1 = 2 then (some (t348, ([] : List (List (S37))), bt357.2.1, bt357.2.2)) else (if bt357.1 = 3 then ((some (([1, 1, 1] : List Int) : List Int)).bind fun y380 => (if t348.length + y380.length < 17592186044416 then (some ((t348 ++ y380), t351, bt357.2.1, bt357.2.2)) else (none))) else (some (t348, t351, bt357.2.1, bt357.2.2))))))) = some (r1, r2, r3, r4) := H
 have A2 := Aside0.mk A20
 clear A20
 replace H := Option.bind_eq_some_iff.mp H
 obtain ⟨⟨t357, t358, t359⟩, A30, H⟩ := H
 replace H : (if t357 = 0 then ((spec_l1PickInt.f s0_0 t358 t359 (([0, 5] : List Int))).bind fun bt363 => (if 0 < (t348.length : Int) then (some ((t348.set (0 : Int).toNat bt363.1), t351, bt363.2.1, bt363.2.2)) else (none))) else (if t357 = 1 then (if 0 < (t351.length : Int) then (if 0 < ((rd_L3 t351 0).length : Int) then ((spec_l1Spoil.f s0_0 t358 t359 ((rd_T37 (rd_L3 t351 0) 0).f0) ((rd_T37 (rd_L3 t351 0) 0).f1) ((rd_T37 (rd_L3 t351 0) 0).f2) ((rd_T37 (rd_L3 t351 0) 0).f3) ((rd_T37 (rd_L3 t351 0) 0).f4)).bind fun bt370 => (some (t348, (t351.set (0 : Int).toNat ((rd_L3 t351 0).set (0 : Int).toNat (⟨bt370.1, bt370.2.1, bt370.2.2.1, bt370.2.2.2.1, bt370.2.2.2.2.1⟩ : S37))), bt370.2.2.2.2.2.1, bt370.2.2.2.2.2.2))) else (none)) else (none)) else (if t357 = 2 then (some (t348, ([] : List (List (S37))), t358, t359)) else (if t357 = 3 then ((some (([1, 1, 1] : List Int) : List Int)).bind fun y380 => (if t348.length + y380.length < 17592186044416 then (some ((t348 ++ y380), t351, t358, t359)) else (none))) else (some (t348, t351, t358, t359)))))) = some (r1, r2, r3, r4) := H
 have A3 := Aside0.mk A30
 clear A30
 by_cases c4 : t357 = 0
 ·rw [if_pos c4] at H
  have c4b0 : (t357 == 0) = true := beq_iff_eq.mpr c4
  have c4b1 : (t357 != 0) = false := bne_eq_false_iff_eq.mpr c4
  clear c4
  obtain ⟨y360, hy360⟩ : ∃ y_ : List Int, y_ = (([0, 5] : List Int)) := ⟨_, rfl⟩
  replace H : ((spec_l1PickInt.f s0_0 t358 t359 y360).bind fun bt363 => (if 0 < (t348.length : Int) then (some ((t348.set (0 : Int).toNat bt363.1), t351, bt363.2.1, bt363.2.2)) else (none))) = some (r1, r2, r3, r4) := by first | (rw [hy360]; with_reducible exact H) | (have H2_ := (Option.bind_some _ _).symm.trans H; rw [hy360]; with_reducible exact H2_) | (have H2_ := (Option.bind_some _ _).symm.trans H; with_reducible exact H2_) | with_reducible exact H | (rw [hy360]; exact H) | exact H
  have Ny360 := Aside0.mk hy360
  clear hy360
  replace H := Option.bind_eq_some_iff.mp H
  obtain ⟨⟨t363, t364, t365⟩, A50, H⟩ := H
  replace H : (if 0 < (t348.length : Int) then (some ((t348.set (0 : Int).toNat t363), t351, t364, t365)) else (none)) = some (r1, r2, r3, r4) := H
  have A5 := Aside0.mk A50
  clear A50
  by_cases c6 : 0 < (t348.length : Int)
  ·rw [if_pos c6] at H
   have c6b0 : decide (0 < (t348.length : Int)) = true := decide_eq_true c6
   have c6b1 : decide (0 < t348.length) = true := decide_eq_true (by omega)
   clear c6
   obtain ⟨y366, hy366⟩ : ∃ y_ : List Int, y_ = (t348.set (0 : Int).toNat t363) := ⟨_, rfl⟩
   replace H : (some (y366, t351, t364, t365)) = some (r1, r2, r3, r4) := by first | (rw [hy366]; with_reducible exact H) | (have H2_ := (Option.bind_some _ _).symm.trans H; rw [hy366]; with_reducible exact H2_) | (have H2_ := (Option.bind_some _ _).symm.trans H; with_reducible exact H2_) | with_reducible exact H | (rw [hy366]; exact H) | exact H
   have Ny366 := Aside0.mk hy366
   clear hy366
   simp only [Option.some.injEq, Prod.mk.injEq] at H
   obtain ⟨rfl, rfl, rfl, rfl⟩ := H
   go_enter Try.func135, Try.ntmps135
   try go_wp2_with (first | ((with_reducible refine gate_dst (N := 2) rfl ?_); refine box_event ?hg (N := 2) ?hd (cs := #[.slice none 0 0, .slice none 0 0]) (t := 30) ?hr ?_; (case hd => rfl); (case hg => rfl); (case hr => first | (go_simp; done) | (go_simp; rfl)); intro gb347 hg w8 hbox hb; have n0_ := Aside0.mk (IsS170.below att12_0_10 hb); have n1_ := Aside0.mk (KeepBut.trans att12_0_3 (KeepBut.of_below hb g none) (.inl rfl)); have n2_ := Aside0.mk (below_step att12_0_11 hb); have n3_ := Aside0.mk (hbox); have n4_ := Aside0.mk ((by rw [hg]; exact (keep_size (w := w) (g := g) (row := none) att12_0_3) : w.heap.size ≤ gb347)); have n5_ := Aside0.mk ((Nat.le_trans HW0.out (by rw [hg]; exact (keep_size (w := w) (g := g) (row := none) att12_0_3) : w.heap.size ≤ gb347) : w0.heap.size ≤ gb347)); have n6_ := Aside0.mk ((by rw [hg]; exact Nat.ne_of_lt (IsS170.lt (show IsS170 w0 _ g s0_0 s0_1 s0_2 from by repeat (first | (with_reducible first | exact HI0.out | apply IsS170.alloc | apply IsS170.drewN | apply IsS170.drew | apply IsS170.set_1 | apply IsS170.set_2) | exact HI0.out))) : g ≠ gb347)); have n7_ := Aside0.mk ((by rw [hg]; exact Nat.ne_of_gt (IsS170.lt (show IsS170 w0 _ g s0_0 s0_1 s0_2 from by repeat (first | (with_reducible first | exact HI0.out | apply IsS170.alloc | apply IsS170.drewN | apply IsS170.drew | apply IsS170.set_1 | apply IsS170.set_2) | exact HI0.out))) : gb347 ≠ g)); clear HI0; clear HK; clear HB; have HI0 := n0_; have HK := n1_; have HB := n2_; have BK347 := n3_; have GW347 := n4_; have GE347 := n5_; have NB0_347 := n6_; have NB347_0 := n7_; clear n0_ n1_ n2_ n3_ n4_ n5_ n6_ n7_; clear hb hbox hg) | ((with_reducible refine gate_callee (f := 181) rfl ?_); refine goesL_ (some 5) rfl rfl Try.func181 (by kernel_rfl) rfl #[.pointer (some ⟨g, 0, none⟩)] rfl att12_0_5 ?_; (with_reducible refine (spec_l1DrawRight.calls k g s0_0 s0_1 s0_2 t348 t351 t354 t355 w0 _ ?side1 ?side2 A2.out).mono ?_); (case side1 => repeat (first | (with_reducible first | exact HI0.out | apply IsS170.alloc | apply IsS170.drewN | apply IsS170.drew | apply IsS170.set_1 | apply IsS170.set_2 | refine IsS170.far ?_ NB0_347.out _) | exact HI0.out)); (case side2 => repeat (first | (with_reducible first | exact HB.out | apply below_alloc | apply pw_below_drewN | apply below_drew1 | refine below_set ?_ (IsS170.ge HI0.out) | refine below_set ?_ GE347.out) | exact HB.out)); rintro e w9 ⟨v349, v352, rfl, ho0, ho1, hi, hb, hk⟩; refine ⟨_, rfl, ?_⟩; have n0_ := Aside0.mk (KeepBut.blk hk (g' := gb347) (o := .cells #[.slice none 0 0, .slice none 0 0] 30 (0, 0)) att12_0_2 NB347_0.out (by simp)); have n1_ := Aside0.mk (Kd.R_lower ho0 (keep_size (w := w) (g := g) (row := none) att12_0_0)); have n2_ := Aside0.mk (Kd.S_lower ho1 (keep_size (w := w) (g := g) (row := none) att12_0_0)); have n3_ := Aside0.mk (KeepBut.trans att12_0_0 hk (.inl rfl)); have n4_ := Aside0.mk (hb); have n5_ := Aside0.mk (hi); clear BK347; clear HK; clear HB; clear HI0; have BK347 := n0_; have HO350 := n1_; have HO353 := n2_; have HK := n3_; have HB := n4_; have HI0 := n5_; clear n0_ n1_ n2_ n3_ n4_ n5_; (try clear hb); (try clear hb2); (try clear hk); (try clear hi); (try clear ho0); (try clear ho1)) | ((with_reducible refine gate_dst (N := 3) rfl ?_); refine box_event ?hg (N := 3) ?hd (cs := #[.slice none 0 0, .slice none 0 0]) (t := 30) ?hr ?_; (case hd => rfl); (case hg => rfl); (case hr => first | (go_simp; done) | (go_simp; rfl)); intro gb356 hg w10 hbox hb; have n0_ := Aside0.mk (Kd.R_below att12_0_6 hb); have n1_ := Aside0.mk (Kd.S_below att12_0_7 hb); have n2_ := Aside0.mk (IsS170.below att12_0_8 hb); have n3_ := Aside0.mk (blk_below (g := gb347) (o := .cells #[.slice none 0 0, .slice none 0 0] 30 (0, 0)) att12_0_2 hb); have n4_ := Aside0.mk (KeepBut.trans att12_0_0 (KeepBut.of_below hb g none) (.inl rfl)); have n5_ := Aside0.mk (below_step att12_0_9 hb); have n6_ := Aside0.mk (hbox); have n7_ := Aside0.mk ((by rw [hg]; exact (keep_size (w := w) (g := g) (row := none) att12_0_0) : w.heap.size ≤ gb356)); have n8_ := Aside0.mk ((Nat.le_trans HW0.out (by rw [hg]; exact (keep_size (w := w) (g := g) (row := none) att12_0_0) : w.heap.size ≤ gb356) : w0.heap.size ≤ gb356)); have n9_ := Aside0.mk ((by rw [hg]; exact Nat.ne_of_lt (blk_lt (g := gb347) (o := .cells #[.slice none 0 0, .slice none 0 0] 30 (0, 0)) att12_0_2) : gb347 ≠ gb356)); have n10_ := Aside0.mk ((by rw [hg]; exact Nat.ne_of_gt (blk_lt (g := gb347) (o := .cells #[.slice none 0 0, .slice none 0 0] 30 (0, 0)) att12_0_2) : gb356 ≠ gb347)); have n11_ := Aside0.mk ((by rw [hg]; exact Nat.ne_of_lt (IsS170.lt (show IsS170 w0 _ g s0_0 t354 t355 from by repeat (first | (with_reducible first | exact HI0.out | apply IsS170.alloc | apply IsS170.drewN | apply IsS170.drew | apply IsS170.set_1 | apply IsS170.set_2 | refine IsS170.far ?_ NB0_347.out _) | exact HI0.out))) : g ≠ gb356)); have n12_ := Aside0.mk ((by rw [hg]; exact Nat.ne_of_gt (IsS170.lt (show IsS170 w0 _ g s0_0 t354 t355 from by repeat (first | (with_reducible first | exact HI0.out | apply IsS170.alloc | apply IsS170.drewN | apply IsS170.drew | apply IsS170.set_1 | apply IsS170.set_2 | refine IsS170.far ?_ NB0_347.out _) | exact HI0.out))) : gb356 ≠ g)); clear HO350; clear HO353; clear HI0; clear BK347; clear HK; clear HB; have HO350 := n0_; have HO353 := n1_; have HI0 := n2_; have BK347 := n3_; have HK := n4_; have HB := n5_; have BK356 := n6_; have GW356 := n7_; have GE356 := n8_; have NB347_356 := n9_; have NB356_347 := n10_; have NB0_356 := n11_; have NB356_0 := n12_; clear n0_ n1_ n2_ n3_ n4_ n5_ n6_ n7_ n8_ n9_ n10_ n11_ n12_; clear hb hbox hg; obtain ⟨Ao11, co11, eo11⟩ := Kd.R_slice HO350.out; subst eo11; have hnb12 := NB356_347.out; have hnc12 := NB347_356.out; have hnb13 := NB356_0.out; have hnc13 := NB0_356.out; have hcz14_0 : w10.cell? ⟨gb356, 0, none⟩ = some (.slice none 0 0) := (blk_cell BK356.out 0).trans rfl; have hcz14_1 : w10.cell? ⟨gb356, 1, none⟩ = some (.slice none 0 0) := (blk_cell BK356.out 1).trans rfl; have hfz14_0 := blk_frozen BK356.out 0; have hfz14_1 := blk_frozen BK356.out 1; obtain ⟨Ao15, co15, eo15⟩ := Kd.S_slice HO353.out; subst eo15) | ((with_reducible refine gate_callee (f := 97) rfl ?_); refine goesL_ (some 7) rfl rfl Try.func97 (by kernel_rfl) rfl #[.pointer (some ⟨g, 0, none⟩), .int .i64 20] rfl att12_0_5 ?_; (with_reducible refine (spec_l1Below.calls g s0_0 t354 t355 20 t357 t358 t359 w0 _ ?side1 ?side2 A3.out).mono ?_); (case side1 => repeat (first | (with_reducible first | exact HI0.out | apply IsS170.alloc | apply IsS170.drewN | apply IsS170.drew | apply IsS170.set_1 | apply IsS170.set_2 | refine IsS170.far ?_ NB0_347.out _ | refine IsS170.far ?_ NB0_356.out _) | exact HI0.out)); (case side2 => repeat (first | (with_reducible first | exact HB.out | apply below_alloc | apply pw_below_drewN | apply below_drew1 | refine below_set ?_ (IsS170.ge HI0.out) | refine below_set ?_ GE347.out | refine below_set ?_ GE356.out) | exact HB.out)); rintro e w16 ⟨rfl, hi, hb, hk⟩; refine ⟨_, rfl, ?_⟩; have n0_ := Aside0.mk (KeepBut.blk hk (g' := gb347) (o := .cells #[.slice none 0 0, .slice none 0 0] 30 (0, 0)) att12_0_4 NB347_0.out (by simp)); have n1_ := Aside0.mk (Kd.R_mono (Kd.R_keep (IsS170.apart (show IsS170 w0 _ g s0_0 t354 t355 from by repeat (first | (with_reducible first | exact HI0.out | apply IsS170.alloc | apply IsS170.drewN | apply IsS170.drew | apply IsS170.set_1 | apply IsS170.set_2 | refine IsS170.far ?_ NB0_347.out _ | refine IsS170.far ?_ NB0_356.out _) | exact HI0.out)) (by (with_reducible repeat (first | apply Kd.R_alloc | apply Kd.R_drewN | apply Kd.R_drew)); exact (Kd.R_mono (Kd.R_far (p := ⟨gb356, 1, none⟩) (Kd.R_far (p := ⟨gb356, 0, none⟩) (Kd.R_types HO350.out BK356.out (by decide)) (fun _ hk => hk.2) (.slice Ao11 t348.length co11)) (fun _ hk => hk.2) (.slice Ao15 t351.length co15)) (fun _ h_ => h_.1))) (by decide)) hk (fun _ h => h.2)) (fun _ h => h.1)); have n2_ := Aside0.mk (Kd.S_mono (Kd.S_keep (IsS170.apartS (show IsS170 w0 _ g s0_0 t354 t355 from by repeat (first | (with_reducible first | exact HI0.out | apply IsS170.alloc | apply IsS170.drewN | apply IsS170.drew | apply IsS170.set_1 | apply IsS170.set_2 | refine IsS170.far ?_ NB0_347.out _ | refine IsS170.far ?_ NB0_356.out _) | exact HI0.out)) (by (with_reducible repeat (first | apply Kd.S_alloc | apply Kd.S_drewN | apply Kd.S_drew)); exact (Kd.S_mono (Kd.S_far (p := ⟨gb356, 1, none⟩) (Kd.S_far (p := ⟨gb356, 0, none⟩) (Kd.S_types HO353.out BK356.out (by decide)) (fun _ hk => hk.2) (.slice Ao11 t348.length co11)) (fun _ hk => hk.2) (.slice Ao15 t351.length co15)) (fun _ h_ => h_.1))) (by decide)) hk (fun _ h => h.2)) (fun _ h => h.1)); have n3_ := Aside0.mk (KeepBut.blk hk (g' := gb356) (o := .cells #[.slice Ao11 t348.length co11, .slice Ao15 t351.length co15] 30 (0, 0)) (by (with_reducible repeat (first | refine blk_drewN ?_ _ | refine blk_drew ?_ | refine blk_alloc ?_ _)); refine blk_put (cs := #[.slice Ao11 t348.length co11, .slice none 0 0]) ?_ 1 _ rfl; (with_reducible repeat (first | refine blk_drewN ?_ _ | refine blk_drew ?_ | refine blk_alloc ?_ _)); refine blk_put (cs := #[.slice none 0 0, .slice none 0 0]) ?_ 0 _ rfl; (with_reducible repeat (first | refine blk_drewN ?_ _ | refine blk_drew ?_ | refine blk_alloc ?_ _)); exact BK356.out) NB356_0.out (by simp)); have n4_ := Aside0.mk (KeepBut.trans att12_0_1 hk (.inl rfl)); have n5_ := Aside0.mk (hb); have n6_ := Aside0.mk (hi); clear BK347; clear HO350; clear HO353; clear BK356; clear HK; clear HB; clear HI0; have BK347 := n0_; have HO350 := n1_; have HO353 := n2_; have BK356 := n3_; have HK := n4_; have HB := n5_; have HI0 := n6_; clear n0_ n1_ n2_ n3_ n4_ n5_ n6_; (try clear hb); (try clear hb2); (try clear hk); (try clear hi)))
   have n0_ := Aside0.mk (Kd.R_drew HO350.out)
   have n1_ := Aside0.mk (Kd.S_drew HO353.out)
   have n2_ := Aside0.mk (blk_drew BK347.out)
   have n3_ := Aside0.mk (blk_drew BK356.out)
   have n4_ := Aside0.mk (IsS170.drew HI0.out)
   have n5_ := Aside0.mk (keep_drew HK.out)
   have n6_ := Aside0.mk (below_drew1 HB.out)
   clear HO350
   clear HO353
   clear BK347
   clear BK356
   clear HI0
   clear HK
   clear HB
   have HO350 := n0_
   have HO353 := n1_
   have BK347 := n2_
   have BK356 := n3_
   have HI0 := n4_
   have HK := n5_
   have HB := n6_
   clear n0_ n1_ n2_ n3_ n4_ n5_ n6_
   refine start_ (n := 7) (S := fun w' => w'.cell? ⟨gb356, 0, none⟩ = some (.slice Ao11 t348.length co11) ∧ w'.cell? ⟨gb356, 1, none⟩ = some (.slice Ao15 t351.length co15)) (ds := [6]) (tf_ 0 7) (by kernel_rfl) rfl rfl ⟨(blk_cell BK356.out 0).trans rfl, (blk_cell BK356.out 1).trans rfl⟩ (fun hHeld => ?_)
   generalize w16.drew = w17 at HO350 HO353 BK347 BK356 HI0 HK HB hHeld ⊢
   refine pure_ (i := 0) (N := some 10) (v := ?_) (a' := ?_) (tf_ 1 6) rfl rfl (by kernel_rfl) (fun _ _ _ h => h) (Or.inl ⟨by rfl, ?_⟩) ?_ ?_
   rotate_left
   ·intro w'
    go_simp
    with_reducible rfl
   rotate_left
   ·simp only [Act.put, List.setIfInBounds_toArray, List.set_cons_zero, List.set_cons_succ, i64_w, i32_w]
    rfl
   refine pure_ (i := 2) (N := some 12) (v := ?_) (a' := ?_) #[true, false, true, false, false, false, false] rfl rfl (by kernel_rfl) (fun _ _ _ h => h) (Or.inl ⟨by rfl, ?_⟩) ?_ ?_
   rotate_left
   ·intro w'
    go_simp
    with_reducible rfl
   rotate_left
   ·simp only [Act.put, List.setIfInBounds_toArray, List.set_cons_zero, List.set_cons_succ, i64_w, i32_w]
    rfl
   refine take_ (i := 1) (N := some 11) (v := ?_) (a' := ?_) (tf_ 3 4) rfl rfl (by kernel_rfl) (fun _ _ _ h => h) (Or.inl ⟨by rfl, ?_⟩) hHeld ?_ ?_
   rotate_left
   ·rintro w' ⟨s0, s1⟩
    go_simp
    with_reducible rfl
   rotate_left
   ·simp only [Act.put, List.setIfInBounds_toArray, List.set_cons_zero, List.set_cons_succ, i64_w, i32_w]
    rfl
   refine one_ (i := 3) (N := some 13) (tf_ 4 3) rfl rfl (by kernel_rfl) (by decide) (fun K hK => ?_)
   refine Kd.R_lit_step (Kd.int .i64) _ 3 ?hg (N := 13) ?hd (xs := ([0, 5] : List Int)) (inner := [.int .i64 0, .int .i64 5]) (ok := fun _ => True) (okp := fun _ => True) ?hr ?hp (fun _ hk => hk) trivial (Below.refl _ _) (Nat.le_refl _) (by simp) ?_; (case hd => rfl); (case hg => rfl); (case hr => first | (go_simp; done) | (go_simp; rfl)); (case hp => exact (Reps.one (show Kd.M (Kd.int .i64) _ _ _ 0 [.int .i64 0] from rfl) (Reps.one (show Kd.M (Kd.int .i64) _ _ _ 5 [.int .i64 5] from rfl) (Reps.none _ _))))
   intro v361 w18 ho19 hb hg_ hnew_
   clear hg_ hnew_
   (first | rw [← Ny360.out] at ho19 | (simp only [Int.reduceToNat] at ho19; rw [← Ny360.out] at ho19))
   have n0_ := Aside0.mk (Kd.R_elder' att12_0_6 (Kd.R_base ho19) hb)
   have n1_ := Aside0.mk (Kd.S_below att12_0_7 hb)
   have n2_ := Aside0.mk (Kd.R_lower (Kd.R_new' ho19 (Kd.R_lt att12_0_6)) (keep_size (w := w) (g := g) (row := none) att12_0_1))
   have n3_ := Aside0.mk (IsS170.below att12_0_12 hb)
   have n4_ := Aside0.mk (blk_below (g := gb347) (o := .cells #[.slice none 0 0, .slice none 0 0] 30 (0, 0)) att12_0_2 hb)
   have n5_ := Aside0.mk (blk_below (g := gb356) (o := .cells #[.slice Ao11 t348.length co11, .slice Ao15 t351.length co15] 30 (0, 0)) att12_0_14 hb)
   have n6_ := Aside0.mk (KeepBut.trans att12_0_1 (KeepBut.of_below hb g none) (.inl rfl))
   have n7_ := Aside0.mk (below_step att12_0_13 hb)
   clear HO350
   clear HO353
   clear HI0
   clear BK347
   clear BK356
   clear HK
   clear HB
   have HO350 := n0_
   have HO353 := n1_
   have HO362 := n2_
   have HI0 := n3_
   have BK347 := n4_
   have BK356 := n5_
   have HK := n6_
   have HB := n7_
   clear n0_ n1_ n2_ n3_ n4_ n5_ n6_ n7_
   clear hb ho19
   obtain ⟨Ao20, co20, eo20⟩ := Kd.R_slice HO362.out
   (first | subst eo20 | (injection eo20 with f1_ f2_ f3_; have f4_ := f1_.symm; have f5_ := f3_.symm; clear f1_ f2_ f3_; subst f4_; subst f5_))
   refine hK.out _ _ ⟨(blk_cell BK356.out 0).trans rfl, (blk_cell BK356.out 1).trans rfl⟩ (fun hHeld => ?_)
   clear hK K
   refine norm_ (a' := ?_) ?_ ?_
   rotate_left
   ·show Act.put _ (some 13) _ = _
    simp only [Act.put, List.setIfInBounds_toArray, List.set_cons_zero, List.set_cons_succ, i64_w, i32_w]
    rfl
   refine one_ (i := 4) (N := some 14) (tf_ 5 2) rfl rfl (by kernel_rfl) (by decide) (fun K hK => ?_)
   refine goes_ Try.func161 (by kernel_rfl) rfl #[.pointer (some ⟨g, 0, none⟩), .slice Ao20 y360.length co20] (by rfl) rfl rfl att12_0_5 ?_
   with_reducible refine (spec_l1PickInt.calls g s0_0 t358 t359 _ _ y360 t363 t364 t365 w0 _ ?side1 ?side2 ?side3 ?side4 ?side5 A5.out).mono ?_
   (case side1 => repeat (first | (with_reducible first | exact HI0.out | apply IsS170.alloc | apply IsS170.drewN | apply IsS170.drew | apply IsS170.set_1 | apply IsS170.set_2 | refine IsS170.far ?_ NB0_347.out _ | refine IsS170.far ?_ NB0_356.out _) | exact HI0.out))
   (case side2 => repeat (first | (with_reducible first | exact HB.out | apply below_alloc | apply pw_below_drewN | apply below_drew1 | refine below_set ?_ (IsS170.ge HI0.out) | refine below_set ?_ GE347.out | refine below_set ?_ GE356.out) | exact HB.out))
   (case side3 => repeat (first | exact (Kd.R_reads' HO362.out).2.2 | (with_reducible refine Kd.C_alloc ?_ _) | (with_reducible refine Kd.C_drewN ?_ _) | (with_reducible refine Kd.C_drew ?_)))
   (case side4 => exact (Kd.R_reads' HO362.out).2.1)
   (case side5 => exact far_slice (IsS170.own_ne HI0.out HO362.out (by decide)))
   rintro e w21 ⟨rfl, hi, hb, hk⟩
   refine ⟨_, rfl, ?_⟩
   have n0_ := Aside0.mk (KeepBut.blk hk (g' := gb347) (o := .cells #[.slice none 0 0, .slice none 0 0] 30 (0, 0)) att12_0_2 NB347_0.out (by simp))
   have n1_ := Aside0.mk (Kd.R_mono (Kd.R_keep (IsS170.apart (show IsS170 w0 _ g s0_0 t358 t359 from by repeat (first | (with_reducible first | exact HI0.out | apply IsS170.alloc | apply IsS170.drewN | apply IsS170.drew | apply IsS170.set_1 | apply IsS170.set_2 | refine IsS170.far ?_ NB0_347.out _ | refine IsS170.far ?_ NB0_356.out _) | exact HI0.out)) att12_0_6 (by decide)) hk (fun _ h => h.2)) (fun _ h => h.1))
   have n2_ := Aside0.mk (Kd.S_mono (Kd.S_keep (IsS170.apartS (show IsS170 w0 _ g s0_0 t358 t359 from by repeat (first | (with_reducible first | exact HI0.out | apply IsS170.alloc | apply IsS170.drewN | apply IsS170.drew | apply IsS170.set_1 | apply IsS170.set_2 | refine IsS170.far ?_ NB0_347.out _ | refine IsS170.far ?_ NB0_356.out _) | exact HI0.out)) att12_0_7 (by decide)) hk (fun _ h => h.2)) (fun _ h => h.1))
   have n3_ := Aside0.mk (KeepBut.blk hk (g' := gb356) (o := .cells #[.slice Ao11 t348.length co11, .slice Ao15 t351.length co15] 30 (0, 0)) att12_0_14 NB356_0.out (by simp))
   have n4_ := Aside0.mk (Kd.R_mono (Kd.R_keep (IsS170.apart (show IsS170 w0 _ g s0_0 t358 t359 from by repeat (first | (with_reducible first | exact HI0.out | apply IsS170.alloc | apply IsS170.drewN | apply IsS170.drew | apply IsS170.set_1 | apply IsS170.set_2 | refine IsS170.far ?_ NB0_347.out _ | refine IsS170.far ?_ NB0_356.out _) | exact HI0.out)) (by (with_reducible repeat (first | apply Kd.R_alloc | apply Kd.R_drewN | apply Kd.R_drew)); exact HO362.out) (by decide)) hk (fun _ h => h.2)) (fun _ h => h.1))
   have n5_ := Aside0.mk (KeepBut.trans att12_0_1 hk (.inl rfl))
   have n6_ := Aside0.mk (hb)
   have n7_ := Aside0.mk (hi)
   clear BK347
   clear HO350
   clear HO353
   clear BK356
   clear HO362
   clear HK
   clear HB
   clear HI0
   have BK347 := n0_
   have HO350 := n1_
   have HO353 := n2_
   have BK356 := n3_
   have HO362 := n4_
   have HK := n5_
   have HB := n6_
   have HI0 := n7_
   clear n0_ n1_ n2_ n3_ n4_ n5_ n6_ n7_
   (try clear hb)
   (try clear hb2)
   (try clear hk)
   (try clear hi)
   have p7 : 0 ≤ (0 : Int) := (by omega)
   have q7 : (0 : Int) < ((t348.length : Int) : Int) := of_decide_eq_true att12_0_15
   have qi7 : (0 < t348.length) = True := eq_true (by omega)
   obtain ⟨go7, co7, eo7, gb7, gl7, cl7, HG7⟩ := Kd.R_form HO350.out (by omega)
   (first | cases eo7 | (injection eo7 with ea_ en_ ec_; (first | subst ea_ | (injection ea_ with ea_; subst ea_)); subst ec_; clear en_))
   have GB7 := Aside0.mk gb7
   have GG7 := Aside0.mk HG7
   clear gb7 gl7 HG7
   obtain ⟨hx7_0, hf7_0⟩ := Kd.R_celln 0 HO350.out (0 : Int) p7 q7
   (try rw [show ((0 : Int)).toNat = 0 from rfl] at hx7_0)
   (try simp only [Nat.reduceMul, Nat.zero_mul, Nat.zero_add, Nat.reduceAdd] at hx7_0)
   (try rw [show ((0 : Int)).toNat = 0 from rfl] at hf7_0)
   (try simp only [Nat.reduceMul, Nat.zero_mul, Nat.zero_add, Nat.reduceAdd] at hf7_0)
   replace p7 := eq_true p7
   replace q7 := eq_true q7
   have HN0_go7 := Aside0.mk (show g ≠ go7 from by have h_ := IsS170.own_ne HI0.out HO350.out (by decide); intro e_; exact h_ (by rw [e_]; rfl))
   have HP22 := Kd.R_putn HO350.out (0 : Int) t363
   rw [← Ny366.out] at HP22
   have HQ22 := Aside0.mk HP22
   clear HP22
   refine hK.out _ _ ⟨(blk_cell BK356.out 0).trans rfl, (blk_cell BK356.out 1).trans rfl⟩ (fun hHeld => ?_)
   clear hK K
   refine norm_ (a' := ?_) ?_ ?_
   rotate_left
   ·show Act.put _ (some 14) _ = _
    simp only [Act.put, List.setIfInBounds_toArray, List.set_cons_zero, List.set_cons_succ, i64_w, i32_w]
    rfl
   refine pure_ (i := 5) (N := some 15) (v := ?_) (a' := ?_) (tf_ 6 1) rfl rfl (by kernel_rfl) (fun _ _ _ h => h) (Or.inl ⟨by rfl, ?_⟩) ?_ ?_
   rotate_left
   ·intro w'
    go_simp
    with_reducible rfl
   rotate_left
   ·simp only [Act.put, List.setIfInBounds_toArray, List.set_cons_zero, List.set_cons_succ, i64_w, i32_w]
    rfl
   refine last_ (i := 6) (N := none) (tf_ 7 0) rfl rfl (by kernel_rfl) (by decide) (fun K hK => ?_)
   refine skip_ (w1 := ?_) (by rfl) rfl ?_ ?_
   rotate_left
   ·go_simp
    rfl
   refine hK.out _ _ ?_
   clear hK K
   refine done_ (by kernel_rfl) ?_
   have n0_ : Aside0 (Kd.R (Kd.int .i64) 3 (w21.setCell ⟨go7, 0, none⟩ (.int .i64 t363)) w.heap.size (fun k_ => some k_ ≠ (.slice Ao20 y360.length co20 : Value).ownBlock) (.slice (some ⟨go7, 0, none⟩) t348.length co11) y366) := ⟨by (with_reducible repeat (first | apply Kd.R_alloc | apply Kd.R_drewN | apply Kd.R_drew)); exact Kd.R_mono HQ22.out (fun _ hk => hk.2)⟩
   have n1_ : Aside0 (Kd.S (Kd.slice 37 k37) 51 (w21.setCell ⟨go7, 0, none⟩ (.int .i64 t363)) w.heap.size (fun _ => True) (.slice Ao15 t351.length co15) t351) := ⟨by (with_reducible repeat (first | apply Kd.S_alloc | apply Kd.S_drewN | apply Kd.S_drew)); exact Kd.S_mono (Kd.S_far (p := ⟨go7, 0, none⟩) (Kd.S_types HO353.out GG7.out (by decide)) (fun _ hk => hk.2) (.int .i64 t363)) (fun _ hk => trivial)⟩
   have n2_ : Aside0 (Kd.R (Kd.int .i64) 3 (w21.setCell ⟨go7, 0, none⟩ (.int .i64 t363)) w.heap.size (fun k_ => some k_ ≠ (.slice (some ⟨go7, 0, none⟩) t348.length co11 : Value).ownBlock) (.slice Ao20 y360.length co20) y360) := ⟨by (with_reducible repeat (first | apply Kd.R_alloc | apply Kd.R_drewN | apply Kd.R_drew)); exact Kd.R_mono (Kd.R_far (p := ⟨go7, 0, none⟩) (Kd.R_mono HO362.out (fun k_ hk => (⟨hk, fun e_ => hk.2 (by rw [e_]; rfl)⟩ : _ ∧ k_ ≠ go7))) (fun _ hk => hk.2) (.int .i64 t363)) (fun _ hk => hk.1.2)⟩
   have n3_ : Aside0 ((w21.setCell ⟨go7, 0, none⟩ (.int .i64 t363)).heap[gb347]? = some (.cells #[.slice none 0 0, .slice none 0 0] 30 (0, 0))) := ⟨by (with_reducible repeat (first | refine blk_drewN ?_ _ | refine blk_drew ?_ | refine blk_alloc ?_ _)); refine blk_far ?_ (by have h_ := Kd.R_ne HO350.out BK347.out (by decide); intro e_; exact h_ (by rw [e_]; rfl)) _; (with_reducible repeat (first | refine blk_drewN ?_ _ | refine blk_drew ?_ | refine blk_alloc ?_ _)); exact BK347.out⟩
   have n4_ : Aside0 ((w21.setCell ⟨go7, 0, none⟩ (.int .i64 t363)).heap[gb356]? = some (.cells #[.slice (some ⟨go7, 0, none⟩) t348.length co11, .slice Ao15 t351.length co15] 30 (0, 0))) := ⟨by (with_reducible repeat (first | refine blk_drewN ?_ _ | refine blk_drew ?_ | refine blk_alloc ?_ _)); refine blk_far ?_ (by have h_ := Kd.R_ne HO350.out BK356.out (by decide); intro e_; exact h_ (by rw [e_]; rfl)) _; (with_reducible repeat (first | refine blk_drewN ?_ _ | refine blk_drew ?_ | refine blk_alloc ?_ _)); exact BK356.out⟩
   have n5_ : Aside0 (IsS170 w0 (w21.setCell ⟨go7, 0, none⟩ (.int .i64 t363)) g s0_0 t364 t365) := ⟨by repeat (first | (with_reducible first | exact HI0.out | apply IsS170.alloc | apply IsS170.drewN | apply IsS170.drew | apply IsS170.set_1 | apply IsS170.set_2 | refine IsS170.far ?_ HN0_go7.out _ | refine IsS170.far ?_ NB0_347.out _ | refine IsS170.far ?_ NB0_356.out _) | exact HI0.out)⟩
   have n6_ : Aside0 (KeepBut w (w21.setCell ⟨go7, 0, none⟩ (.int .i64 t363)) g none) := ⟨by repeat (first | (with_reducible first | exact HK.out | apply KeepBut.set_ | apply keep_drewN | apply keep_drew | apply keep_alloc | refine keep_far ?_ GB7.out _ | refine keep_far ?_ GW347.out _ | refine keep_far ?_ GW356.out _) | exact HK.out)⟩
   have n7_ : Aside0 (Below w0.heap.size w0 (w21.setCell ⟨go7, 0, none⟩ (.int .i64 t363))) := ⟨by repeat (first | (with_reducible first | exact HB.out | apply below_alloc | apply pw_below_drewN | apply below_drew1 | refine below_set ?_ (Nat.le_trans HL.out GB7.out) | refine below_set ?_ (IsS170.ge HI0.out) | refine below_set ?_ GE347.out | refine below_set ?_ GE356.out) | exact HB.out)⟩
   (try clear HO350)
   (try clear HO353)
   (try clear HO362)
   (try clear BK347)
   (try clear BK356)
   (try clear HI0)
   (try clear HK)
   (try clear HB)
   generalize (w21.setCell ⟨go7, 0, none⟩ (.int .i64 t363)) = w23 at n0_ n1_ n2_ n3_ n4_ n5_ n6_ n7_ ⊢
   have HO350 := n0_
   have HO353 := n1_
   have HO362 := n2_
   have BK347 := n3_
   have BK356 := n4_
   have HI0 := n5_
   have HK := n6_
   have HB := n7_
   clear n0_ n1_ n2_ n3_ n4_ n5_ n6_ n7_
   have hcz24_0 : w23.cell? ⟨gb356, 0, none⟩ = some (.slice (some ⟨go7, 0, none⟩) t348.length co11) := (blk_cell BK356.out 0).trans rfl
   have hcz24_1 : w23.cell? ⟨gb356, 1, none⟩ = some (.slice Ao15 t351.length co15) := (blk_cell BK356.out 1).trans rfl
   have hfz24_0 := blk_frozen BK356.out 0
   have hfz24_1 := blk_frozen BK356.out 1
   have hnb25 := NB347_0.out
   have hnc25 := NB0_347.out
   have hcz26_0 : w23.cell? ⟨gb347, 0, none⟩ = some (.slice none 0 0) := (blk_cell BK347.out 0).trans rfl
   have hcz26_1 : w23.cell? ⟨gb347, 1, none⟩ = some (.slice none 0 0) := (blk_cell BK347.out 1).trans rfl
   have hfz26_0 := blk_frozen BK347.out 0
   have hfz26_1 := blk_frozen BK347.out 1
   try go_wp2
   refine bodyPost_ret (results_cell_row rfl _ _ gb347 30 #[.slice (some ⟨go7, 0, none⟩) t348.length co11, .slice Ao15 t351.length co15] (0, 0) _ rfl (by (with_reducible repeat (first | refine blk_drewN ?_ _ | refine blk_drew ?_ | refine blk_alloc ?_ _)); refine blk_put (cs := #[.slice (some ⟨go7, 0, none⟩) t348.length co11, .slice none 0 0]) ?_ 1 _ rfl; (with_reducible repeat (first | refine blk_drewN ?_ _ | refine blk_drew ?_ | refine blk_alloc ?_ _)); refine blk_put (cs := #[.slice none 0 0, .slice none 0 0]) ?_ 0 _ rfl; (with_reducible repeat (first | refine blk_drewN ?_ _ | refine blk_drew ?_ | refine blk_alloc ?_ _)); exact BK347.out) Try.underlying30 rfl (by kernel_rfl)) rfl ?_
   exact ⟨_, _, by first | rfl | (simp [errW_none, errW_some] <;> rfl) | (simp [*, errW_none, errW_some] <;> rfl), by (with_reducible repeat (first | apply Kd.R_alloc | apply Kd.R_drewN | apply Kd.R_drew)); exact Kd.R_mono (Kd.R_far (p := ⟨gb347, 1, none⟩) (Kd.R_far (p := ⟨gb347, 0, none⟩) (Kd.R_types HO350.out BK347.out (by decide)) (fun _ hk => hk.2) (.slice (some ⟨go7, 0, none⟩) t348.length co11)) (fun _ hk => hk.2) (.slice Ao15 t351.length co15)) (fun _ hk => trivial), by (with_reducible repeat (first | apply Kd.S_alloc | apply Kd.S_drewN | apply Kd.S_drew)); exact Kd.S_mono (Kd.S_far (p := ⟨gb347, 1, none⟩) (Kd.S_far (p := ⟨gb347, 0, none⟩) (Kd.S_types HO353.out BK347.out (by decide)) (fun _ hk => hk.2) (.slice (some ⟨go7, 0, none⟩) t348.length co11)) (fun _ hk => hk.2) (.slice Ao15 t351.length co15)) (fun _ hk => trivial), by repeat (first | (with_reducible first | exact HI0.out | apply IsS170.alloc | apply IsS170.drewN | apply IsS170.drew | apply IsS170.set_1 | apply IsS170.set_2 | refine IsS170.far ?_ NB0_347.out _ | refine IsS170.far ?_ NB0_356.out _) | exact HI0.out), by repeat (first | (with_reducible first | exact HB.out | apply below_alloc | apply pw_below_drewN | apply below_drew1 | refine below_set ?_ (IsS170.ge HI0.out) | refine below_set ?_ GE347.out | refine below_set ?_ GE356.out) | exact HB.out), att12_0_1⟩
  ·rw [if_neg c6] at H
   exact absurd H (by simp)
 ·rw [if_neg c4] at H
  have c4b0 : (t357 == 0) = false := beq_eq_false_iff_ne.mpr c4
  have c4b1 : (t357 != 0) = true := bne_iff_ne.mpr c4
  by_cases c27 : t357 = 1
  ·rw [if_pos c27] at H
   have c27b0 : (t357 == 1) = true := beq_iff_eq.mpr c27
   have c27b1 : (t357 != 1) = false := bne_eq_false_iff_eq.mpr c27
   clear c27
   by_cases c28 : 0 < (t351.length : Int)
   ·rw [if_pos c28] at H
    have c28b0 : decide (0 < (t351.length : Int)) = true := decide_eq_true c28
    have c28b1 : decide (0 < t351.length) = true := decide_eq_true (by omega)
    clear c28
    by_cases c29 : 0 < ((rd_L3 t351 0).length : Int)
    ·rw [if_pos c29] at H
     have c29b0 : decide (0 < ((rd_L3 t351 0).length : Int)) = true := decide_eq_true c29
     have c29b1 : decide (0 < (rd_L3 t351 0).length) = true := decide_eq_true (by omega)
     clear c29
     replace H := Option.bind_eq_some_iff.mp H
     obtain ⟨⟨t370, t371, t372, t373, t374, t375, t376⟩, A300, H⟩ := H
     replace H : (some (t348, (t351.set (0 : Int).toNat ((rd_L3 t351 0).set (0 : Int).toNat (⟨t370, t371, t372, t373, t374⟩ : S37))), t375, t376)) = some (r1, r2, r3, r4) := H
     have A30 := Aside0.mk A300
     clear A300
     obtain ⟨y377, hy377⟩ : ∃ y_ : List (S37), y_ = ((rd_L3 t351 0).set (0 : Int).toNat (⟨t370, t371, t372, t373, t374⟩ : S37)) := ⟨_, rfl⟩
     replace H : (some (t348, (t351.set (0 : Int).toNat y377), t375, t376)) = some (r1, r2, r3, r4) := by first | (rw [hy377]; with_reducible exact H) | (have H2_ := (Option.bind_some _ _).symm.trans H; rw [hy377]; with_reducible exact H2_) | (have H2_ := (Option.bind_some _ _).symm.trans H; with_reducible exact H2_) | with_reducible exact H | (rw [hy377]; exact H) | exact H
     have Ny377 := Aside0.mk hy377
     clear hy377
     obtain ⟨y379, hy379⟩ : ∃ y_ : List (List (S37)), y_ = (t351.set (0 : Int).toNat y377) := ⟨_, rfl⟩
     replace H : (some (t348, y379, t375, t376)) = some (r1, r2, r3, r4) := by first | (rw [hy379]; with_reducible exact H) | (have H2_ := (Option.bind_some _ _).symm.trans H; rw [hy379]; with_reducible exact H2_) | (have H2_ := (Option.bind_some _ _).symm.trans H; with_reducible exact H2_) | with_reducible exact H | (rw [hy379]; exact H) | exact H
     have Ny379 := Aside0.mk hy379
     clear hy379
     simp only [Option.some.injEq, Prod.mk.injEq] at H
     obtain ⟨rfl, rfl, rfl, rfl⟩ := H
     go_enter Try.func135, Try.ntmps135
     try go_wp2_with (first | ((with_reducible refine gate_dst (N := 2) rfl ?_); refine box_event ?hg (N := 2) ?hd (cs := #[.slice none 0 0, .slice none 0 0]) (t := 30) ?hr ?_; (case hd => rfl); (case hg => rfl); (case hr => first | (go_simp; done) | (go_simp; rfl)); intro gb347 hg w32 hbox hb; have n0_ := Aside0.mk (IsS170.below att12_0_10 hb); have n1_ := Aside0.mk (KeepBut.trans att12_0_3 (KeepBut.of_below hb g none) (.inl rfl)); have n2_ := Aside0.mk (below_step att12_0_11 hb); have n3_ := Aside0.mk (hbox); have n4_ := Aside0.mk ((by rw [hg]; exact (keep_size (w := w) (g := g) (row := none) att12_0_3) : w.heap.size ≤ gb347)); have n5_ := Aside0.mk ((Nat.le_trans HW0.out (by rw [hg]; exact (keep_size (w := w) (g := g) (row := none) att12_0_3) : w.heap.size ≤ gb347) : w0.heap.size ≤ gb347)); have n6_ := Aside0.mk ((by rw [hg]; exact Nat.ne_of_lt (IsS170.lt (show IsS170 w0 _ g s0_0 s0_1 s0_2 from by repeat (first | (with_reducible first | exact HI0.out | apply IsS170.alloc | apply IsS170.drewN | apply IsS170.drew | apply IsS170.set_1 | apply IsS170.set_2) | exact HI0.out))) : g ≠ gb347)); have n7_ := Aside0.mk ((by rw [hg]; exact Nat.ne_of_gt (IsS170.lt (show IsS170 w0 _ g s0_0 s0_1 s0_2 from by repeat (first | (with_reducible first | exact HI0.out | apply IsS170.alloc | apply IsS170.drewN | apply IsS170.drew | apply IsS170.set_1 | apply IsS170.set_2) | exact HI0.out))) : gb347 ≠ g)); clear HI0; clear HK; clear HB; have HI0 := n0_; have HK := n1_; have HB := n2_; have BK347 := n3_; have GW347 := n4_; have GE347 := n5_; have NB0_347 := n6_; have NB347_0 := n7_; clear n0_ n1_ n2_ n3_ n4_ n5_ n6_ n7_; clear hb hbox hg) | ((with_reducible refine gate_callee (f := 181) rfl ?_); refine goesL_ (some 5) rfl rfl Try.func181 (by kernel_rfl) rfl #[.pointer (some ⟨g, 0, none⟩)] rfl att12_0_5 ?_; (with_reducible refine (spec_l1DrawRight.calls k g s0_0 s0_1 s0_2 t348 t351 t354 t355 w0 _ ?side1 ?side2 A2.out).mono ?_); (case side1 => repeat (first | (with_reducible first | exact HI0.out | apply IsS170.alloc | apply IsS170.drewN | apply IsS170.drew | apply IsS170.set_1 | apply IsS170.set_2 | refine IsS170.far ?_ NB0_347.out _) | exact HI0.out)); (case side2 => repeat (first | (with_reducible first | exact HB.out | apply below_alloc | apply pw_below_drewN | apply below_drew1 | refine below_set ?_ (IsS170.ge HI0.out) | refine below_set ?_ GE347.out) | exact HB.out)); rintro e w33 ⟨v349, v352, rfl, ho0, ho1, hi, hb, hk⟩; refine ⟨_, rfl, ?_⟩; have n0_ := Aside0.mk (KeepBut.blk hk (g' := gb347) (o := .cells #[.slice none 0 0, .slice none 0 0] 30 (0, 0)) att12_0_2 NB347_0.out (by simp)); have n1_ := Aside0.mk (Kd.R_lower ho0 (keep_size (w := w) (g := g) (row := none) att12_0_0)); have n2_ := Aside0.mk (Kd.S_lower ho1 (keep_size (w := w) (g := g) (row := none) att12_0_0)); have n3_ := Aside0.mk (KeepBut.trans att12_0_0 hk (.inl rfl)); have n4_ := Aside0.mk (hb); have n5_ := Aside0.mk (hi); clear BK347; clear HK; clear HB; clear HI0; have BK347 := n0_; have HO350 := n1_; have HO353 := n2_; have HK := n3_; have HB := n4_; have HI0 := n5_; clear n0_ n1_ n2_ n3_ n4_ n5_; (try clear hb); (try clear hb2); (try clear hk); (try clear hi); (try clear ho0); (try clear ho1)) | ((with_reducible refine gate_dst (N := 3) rfl ?_); refine box_event ?hg (N := 3) ?hd (cs := #[.slice none 0 0, .slice none 0 0]) (t := 30) ?hr ?_; (case hd => rfl); (case hg => rfl); (case hr => first | (go_simp; done) | (go_simp; rfl)); intro gb356 hg w34 hbox hb; have n0_ := Aside0.mk (Kd.R_below att12_0_6 hb); have n1_ := Aside0.mk (Kd.S_below att12_0_7 hb); have n2_ := Aside0.mk (IsS170.below att12_0_8 hb); have n3_ := Aside0.mk (blk_below (g := gb347) (o := .cells #[.slice none 0 0, .slice none 0 0] 30 (0, 0)) att12_0_2 hb); have n4_ := Aside0.mk (KeepBut.trans att12_0_0 (KeepBut.of_below hb g none) (.inl rfl)); have n5_ := Aside0.mk (below_step att12_0_9 hb); have n6_ := Aside0.mk (hbox); have n7_ := Aside0.mk ((by rw [hg]; exact (keep_size (w := w) (g := g) (row := none) att12_0_0) : w.heap.size ≤ gb356)); have n8_ := Aside0.mk ((Nat.le_trans HW0.out (by rw [hg]; exact (keep_size (w := w) (g := g) (row := none) att12_0_0) : w.heap.size ≤ gb356) : w0.heap.size ≤ gb356)); have n9_ := Aside0.mk ((by rw [hg]; exact Nat.ne_of_lt (blk_lt (g := gb347) (o := .cells #[.slice none 0 0, .slice none 0 0] 30 (0, 0)) att12_0_2) : gb347 ≠ gb356)); have n10_ := Aside0.mk ((by rw [hg]; exact Nat.ne_of_gt (blk_lt (g := gb347) (o := .cells #[.slice none 0 0, .slice none 0 0] 30 (0, 0)) att12_0_2) : gb356 ≠ gb347)); have n11_ := Aside0.mk ((by rw [hg]; exact Nat.ne_of_lt (IsS170.lt (show IsS170 w0 _ g s0_0 t354 t355 from by repeat (first | (with_reducible first | exact HI0.out | apply IsS170.alloc | apply IsS170.drewN | apply IsS170.drew | apply IsS170.set_1 | apply IsS170.set_2 | refine IsS170.far ?_ NB0_347.out _) | exact HI0.out))) : g ≠ gb356)); have n12_ := Aside0.mk ((by rw [hg]; exact Nat.ne_of_gt (IsS170.lt (show IsS170 w0 _ g s0_0 t354 t355 from by repeat (first | (with_reducible first | exact HI0.out | apply IsS170.alloc | apply IsS170.drewN | apply IsS170.drew | apply IsS170.set_1 | apply IsS170.set_2 | refine IsS170.far ?_ NB0_347.out _) | exact HI0.out))) : gb356 ≠ g)); clear HO350; clear HO353; clear HI0; clear BK347; clear HK; clear HB; have HO350 := n0_; have HO353 := n1_; have HI0 := n2_; have BK347 := n3_; have HK := n4_; have HB := n5_; have BK356 := n6_; have GW356 := n7_; have GE356 := n8_; have NB347_356 := n9_; have NB356_347 := n10_; have NB0_356 := n11_; have NB356_0 := n12_; clear n0_ n1_ n2_ n3_ n4_ n5_ n6_ n7_ n8_ n9_ n10_ n11_ n12_; clear hb hbox hg; obtain ⟨Ao35, co35, eo35⟩ := Kd.R_slice HO350.out; subst eo35; have hnb36 := NB356_347.out; have hnc36 := NB347_356.out; have hnb37 := NB356_0.out; have hnc37 := NB0_356.out; have hcz38_0 : w34.cell? ⟨gb356, 0, none⟩ = some (.slice none 0 0) := (blk_cell BK356.out 0).trans rfl; have hcz38_1 : w34.cell? ⟨gb356, 1, none⟩ = some (.slice none 0 0) := (blk_cell BK356.out 1).trans rfl; have hfz38_0 := blk_frozen BK356.out 0; have hfz38_1 := blk_frozen BK356.out 1; obtain ⟨Ao39, co39, eo39⟩ := Kd.S_slice HO353.out; subst eo39) | ((with_reducible refine gate_callee (f := 97) rfl ?_); refine goesL_ (some 7) rfl rfl Try.func97 (by kernel_rfl) rfl #[.pointer (some ⟨g, 0, none⟩), .int .i64 20] rfl att12_0_5 ?_; (with_reducible refine (spec_l1Below.calls g s0_0 t354 t355 20 t357 t358 t359 w0 _ ?side1 ?side2 A3.out).mono ?_); (case side1 => repeat (first | (with_reducible first | exact HI0.out | apply IsS170.alloc | apply IsS170.drewN | apply IsS170.drew | apply IsS170.set_1 | apply IsS170.set_2 | refine IsS170.far ?_ NB0_347.out _ | refine IsS170.far ?_ NB0_356.out _) | exact HI0.out)); (case side2 => repeat (first | (with_reducible first | exact HB.out | apply below_alloc | apply pw_below_drewN | apply below_drew1 | refine below_set ?_ (IsS170.ge HI0.out) | refine below_set ?_ GE347.out | refine below_set ?_ GE356.out) | exact HB.out)); rintro e w40 ⟨rfl, hi, hb, hk⟩; refine ⟨_, rfl, ?_⟩; have n0_ := Aside0.mk (KeepBut.blk hk (g' := gb347) (o := .cells #[.slice none 0 0, .slice none 0 0] 30 (0, 0)) att12_0_4 NB347_0.out (by simp)); have n1_ := Aside0.mk (Kd.R_mono (Kd.R_keep (IsS170.apart (show IsS170 w0 _ g s0_0 t354 t355 from by repeat (first | (with_reducible first | exact HI0.out | apply IsS170.alloc | apply IsS170.drewN | apply IsS170.drew | apply IsS170.set_1 | apply IsS170.set_2 | refine IsS170.far ?_ NB0_347.out _ | refine IsS170.far ?_ NB0_356.out _) | exact HI0.out)) (by (with_reducible repeat (first | apply Kd.R_alloc | apply Kd.R_drewN | apply Kd.R_drew)); exact (Kd.R_mono (Kd.R_far (p := ⟨gb356, 1, none⟩) (Kd.R_far (p := ⟨gb356, 0, none⟩) (Kd.R_types HO350.out BK356.out (by decide)) (fun _ hk => hk.2) (.slice Ao35 t348.length co35)) (fun _ hk => hk.2) (.slice Ao39 t351.length co39)) (fun _ h_ => h_.1))) (by decide)) hk (fun _ h => h.2)) (fun _ h => h.1)); have n2_ := Aside0.mk (Kd.S_mono (Kd.S_keep (IsS170.apartS (show IsS170 w0 _ g s0_0 t354 t355 from by repeat (first | (with_reducible first | exact HI0.out | apply IsS170.alloc | apply IsS170.drewN | apply IsS170.drew | apply IsS170.set_1 | apply IsS170.set_2 | refine IsS170.far ?_ NB0_347.out _ | refine IsS170.far ?_ NB0_356.out _) | exact HI0.out)) (by (with_reducible repeat (first | apply Kd.S_alloc | apply Kd.S_drewN | apply Kd.S_drew)); exact (Kd.S_mono (Kd.S_far (p := ⟨gb356, 1, none⟩) (Kd.S_far (p := ⟨gb356, 0, none⟩) (Kd.S_types HO353.out BK356.out (by decide)) (fun _ hk => hk.2) (.slice Ao35 t348.length co35)) (fun _ hk => hk.2) (.slice Ao39 t351.length co39)) (fun _ h_ => h_.1))) (by decide)) hk (fun _ h => h.2)) (fun _ h => h.1)); have n3_ := Aside0.mk (KeepBut.blk hk (g' := gb356) (o := .cells #[.slice Ao35 t348.length co35, .slice Ao39 t351.length co39] 30 (0, 0)) (by (with_reducible repeat (first | refine blk_drewN ?_ _ | refine blk_drew ?_ | refine blk_alloc ?_ _)); refine blk_put (cs := #[.slice Ao35 t348.length co35, .slice none 0 0]) ?_ 1 _ rfl; (with_reducible repeat (first | refine blk_drewN ?_ _ | refine blk_drew ?_ | refine blk_alloc ?_ _)); refine blk_put (cs := #[.slice none 0 0, .slice none 0 0]) ?_ 0 _ rfl; (with_reducible repeat (first | refine blk_drewN ?_ _ | refine blk_drew ?_ | refine blk_alloc ?_ _)); exact BK356.out) NB356_0.out (by simp)); have n4_ := Aside0.mk (KeepBut.trans att12_0_1 hk (.inl rfl)); have n5_ := Aside0.mk (hb); have n6_ := Aside0.mk (hi); clear BK347; clear HO350; clear HO353; clear BK356; clear HK; clear HB; clear HI0; have BK347 := n0_; have HO350 := n1_; have HO353 := n2_; have BK356 := n3_; have HK := n4_; have HB := n5_; have HI0 := n6_; clear n0_ n1_ n2_ n3_ n4_ n5_ n6_; (try clear hb); (try clear hb2); (try clear hk); (try clear hi)))
     have n0_ := Aside0.mk (Kd.R_drew HO350.out)
     have n1_ := Aside0.mk (Kd.S_drew HO353.out)
     have n2_ := Aside0.mk (blk_drew BK347.out)
     have n3_ := Aside0.mk (blk_drew BK356.out)
     have n4_ := Aside0.mk (IsS170.drew HI0.out)
     have n5_ := Aside0.mk (keep_drew HK.out)
     have n6_ := Aside0.mk (below_drew1 HB.out)
     clear HO350
     clear HO353
     clear BK347
     clear BK356
     clear HI0
     clear HK
     clear HB
     have HO350 := n0_
     have HO353 := n1_
     have BK347 := n2_
     have BK356 := n3_
     have HI0 := n4_
     have HK := n5_
     have HB := n6_
     clear n0_ n1_ n2_ n3_ n4_ n5_ n6_
     have p367 : 0 ≤ (0 : Int) := (by omega)
     have q367 : 0 < (t351.length : Int) := of_decide_eq_true att12_0_15
     obtain ⟨ad367, A367_0, c367_0, e367, hx367_0, hl367_0, hi367_0⟩ := at_L3 (Kd.S_reads' HO353.out).2.2 0 p367 q367
     cases e367
     obtain ⟨ce367, hce367, hMe367, hcc367⟩ := Kd.S_get HO353.out [] 0 p367 (by first | exact q367 | exact of_decide_eq_true att12_0_15 | (have e_ := (Kd.S_reads' HO353.out).1; omega))
     obtain ⟨ve367_0, rfl, ge367_0⟩ := hMe367
     have hv367_0 := hcc367 0 _ rfl
     rw [Nat.add_zero, show ((Kd.slice 37 k37)).sz = 1 from rfl, Nat.mul_one] at hv367_0
     replace hv367_0 := Option.some.inj (hv367_0.symm.trans hx367_0)
     rw [hv367_0] at ge367_0
     have HL367_0 := Aside0.mk (show Kd.R k37 37 _ _ _ _ (rd_L3 t351 0) from ge367_0)
     clear hv367_0 ge367_0
     have HX367_0 := Aside0.mk hx367_0
     clear hcc367 hce367
     have qi367 : (0 < t351.length) = True := eq_true (by omega)
     (try rw [show ((0 : Int)).toNat = 0 from rfl] at hx367_0)
     (try rw [Addr.add_zero'] at hx367_0)
     have HR367_0 := Aside0.mk hi367_0
     have HC367_0 := Aside0.mk hl367_0
     clear hi367_0 hl367_0
     replace p367 := eq_true p367
     replace q367 := eq_true q367
     have p368 : 0 ≤ (0 : Int) := (by omega)
     have q368 : 0 < (t351.length : Int) := of_decide_eq_true att12_0_15
     obtain ⟨ad368, A368_0, c368_0, e368, hx368_0, hl368_0, hi368_0⟩ := at_L3 (Kd.S_reads' HO353.out).2.2 0 p368 q368
     obtain rfl : ad367 = ad368 := (by injection e368)
     obtain ⟨ce368, hce368, hMe368, hcc368⟩ := Kd.S_get HO353.out [] 0 p368 (by first | exact q368 | exact of_decide_eq_true att12_0_15 | (have e_ := (Kd.S_reads' HO353.out).1; omega))
     obtain ⟨ve368_0, rfl, ge368_0⟩ := hMe368
     have hv368_0 := hcc368 0 _ rfl
     rw [Nat.add_zero, show ((Kd.slice 37 k37)).sz = 1 from rfl, Nat.mul_one] at hv368_0
     replace hv368_0 := Option.some.inj (hv368_0.symm.trans hx368_0)
     rw [hv368_0] at ge368_0
     have HL368_0 := Aside0.mk (show Kd.R k37 37 _ _ _ _ (rd_L3 t351 0) from ge368_0)
     clear hv368_0 ge368_0
     have HX368_0 := Aside0.mk hx368_0
     clear hcc368 hce368
     have qi368 : (0 < t351.length) = True := eq_true (by omega)
     (try rw [show ((0 : Int)).toNat = 0 from rfl] at hx368_0)
     (try rw [Addr.add_zero'] at hx368_0)
     have HR368_0 := Aside0.mk hi368_0
     have HC368_0 := Aside0.mk hl368_0
     clear hi368_0 hl368_0
     replace p368 := eq_true p368
     replace q368 := eq_true q368
     have ea_ := Option.some.inj (hx367_0.symm.trans hx368_0)
     injection ea_ with ea_ en_ ec_
     subst ea_
     subst ec_
     clear en_
     have p369 : 0 ≤ (0 : Int) := (by omega)
     have q369 : 0 < ((rd_L3 t351 0).length : Int) := of_decide_eq_true att12_0_15
     obtain ⟨ad369, e369, hx369_0, hx369_1, hx369_2, hx369_3, hx369_4⟩ := at_T37 (by repeat (first | (with_reducible exact HR368_0.out) | (with_reducible refine Kd.C_alloc ?_ _) | (with_reducible refine Kd.C_drewN ?_ _) | (with_reducible refine Kd.C_drew ?_) | exact HR368_0.out)) 0 p369 q369
     cases e369
     have qi369 : (0 < (rd_L3 t351 0).length) = True := eq_true (by omega)
     (try rw [show ((0 : Int)).toNat = 0 from rfl] at hx369_0)
     (try rw [show 0 * 5 = 0 from rfl] at hx369_0)
     (try rw [Addr.add_zero'] at hx369_0)
     (try rw [show ((0 : Int)).toNat = 0 from rfl] at hx369_1)
     (try rw [show 0 * 5 = 0 from rfl] at hx369_1)
     (try rw [Addr.add_zero'] at hx369_1)
     (try rw [show ((0 : Int)).toNat = 0 from rfl] at hx369_2)
     (try rw [show 0 * 5 = 0 from rfl] at hx369_2)
     (try rw [Addr.add_zero'] at hx369_2)
     (try rw [show ((0 : Int)).toNat = 0 from rfl] at hx369_3)
     (try rw [show 0 * 5 = 0 from rfl] at hx369_3)
     (try rw [Addr.add_zero'] at hx369_3)
     (try rw [show ((0 : Int)).toNat = 0 from rfl] at hx369_4)
     (try rw [show 0 * 5 = 0 from rfl] at hx369_4)
     (try rw [Addr.add_zero'] at hx369_4)
     replace p369 := eq_true p369
     replace q369 := eq_true q369
     refine start_ (n := 14) (S := fun w' => w'.cell? ⟨gb356, 0, none⟩ = some (.slice Ao35 t348.length co35) ∧ w'.cell? ⟨gb356, 1, none⟩ = some (.slice (some ad367) t351.length co39) ∧ w'.cell? ad367 = some (.slice (some ad369) (rd_L3 t351 0).length c367_0) ∧ w'.cell? ad367 = some (.slice (some ad369) (rd_L3 t351 0).length c367_0) ∧ w'.cell? ad369 = some (.int .i64 ((rd_T37 (rd_L3 t351 0) 0).f0)) ∧ w'.cell? ⟨ad369.block, ad369.off + 1, none⟩ = some (.int .i64 ((rd_T37 (rd_L3 t351 0) 0).f1)) ∧ w'.cell? ⟨ad369.block, ad369.off + 2, none⟩ = some (.int .i64 ((rd_T37 (rd_L3 t351 0) 0).f2)) ∧ w'.cell? ⟨ad369.block, ad369.off + 3, none⟩ = some (.int .i64 ((rd_T37 (rd_L3 t351 0) 0).f3)) ∧ w'.cell? ⟨ad369.block, ad369.off + 4, none⟩ = some (.int .i64 ((rd_T37 (rd_L3 t351 0) 0).f4))) (ds := [13]) (tf_ 0 14) (by kernel_rfl) rfl rfl ⟨(blk_cell BK356.out 0).trans rfl, (blk_cell BK356.out 1).trans rfl, hx367_0, hx368_0, hx369_0, hx369_1, hx369_2, hx369_3, hx369_4⟩ (fun hHeld => ?_); refine with_tabW spec_l1Draw.tab6 spec_l1Draw.bits6 (fun HT_ HW_ => ?_)
     generalize w40.drew = w41 at HO350 HO353 BK347 BK356 HI0 HK HB HL367_0 HL368_0 HR367_0 HR368_0 HX367_0 HX368_0 hx367_0 hx368_0 hx369_0 hx369_1 hx369_2 hx369_3 hx369_4 hHeld ⊢
     refine pure_ (i := 0) (N := some 18) (v := ?_) (a' := ?_) (tf_ 1 13) rfl rfl (any_of HT_.out (by kernel_rfl)) (fun _ _ _ h => h) (Or.inl ⟨by rfl, ?_⟩) ?_ ?_
     rotate_left
     ·intro w'
      go_simp
      with_reducible rfl
     rotate_left
     ·simp only [Act.put, List.setIfInBounds_toArray, List.set_cons_zero, List.set_cons_succ, i64_w, i32_w]
      rfl
     refine pure_ (i := 4) (N := some 22) (v := ?_) (a' := ?_) #[true, false, false, false, true, false, false, false, false, false, false, false, false, false] rfl rfl (any_of HT_.out (by kernel_rfl)) (fun _ _ _ h => h) (Or.inl ⟨by rfl, ?_⟩) ?_ ?_
     rotate_left
     ·intro w'
      go_simp
      with_reducible rfl
     rotate_left
     ·simp only [Act.put, List.setIfInBounds_toArray, List.set_cons_zero, List.set_cons_succ, i64_w, i32_w]
      rfl
     refine pure_ (i := 5) (N := some 23) (v := ?_) (a' := ?_) #[true, false, false, false, true, true, false, false, false, false, false, false, false, false] rfl rfl (any_of HT_.out (by kernel_rfl)) (fun _ _ _ h => h) (Or.inl ⟨by rfl, ?_⟩) ?_ ?_
     rotate_left
     ·intro w'
      go_simp
      with_reducible rfl
     rotate_left
     ·simp only [Act.put, List.setIfInBounds_toArray, List.set_cons_zero, List.set_cons_succ, i64_w, i32_w]
      rfl
     refine take_ (i := 1) (N := some 19) (v := ?_) (a' := ?_) #[true, true, false, false, true, true, false, false, false, false, false, false, false, false] rfl rfl (take_ofW HT_.out HW_.out (by kernel_rfl)) (fun _ _ _ h => h) (Or.inl ⟨by rfl, ?_⟩) hHeld ?_ ?_
     rotate_left
     ·rintro w' ⟨s0, s1, s2, s3, s4, s5, s6, s7, s8⟩
      go_simp
      with_reducible rfl
     rotate_left
     ·simp only [Act.put, List.setIfInBounds_toArray, List.set_cons_zero, List.set_cons_succ, i64_w, i32_w]
      rfl
     refine pure_ (i := 2) (N := some 20) (v := ?_) (a' := ?_) #[true, true, true, false, true, true, false, false, false, false, false, false, false, false] rfl rfl (any_of HT_.out (by kernel_rfl)) (fun _ _ _ h => h) (Or.inl ⟨by rfl, ?_⟩) ?_ ?_
     rotate_left
     ·intro w'
      go_simp
      with_reducible rfl
     rotate_left
     ·simp only [Act.put, List.setIfInBounds_toArray, List.set_cons_zero, List.set_cons_succ, i64_w, i32_w]
      rfl
     refine take_ (i := 3) (N := some 21) (v := ?_) (a' := ?_) (tf_ 6 8) rfl rfl (take_ofW HT_.out HW_.out (by kernel_rfl)) (fun _ _ _ h => h) (Or.inl ⟨by rfl, ?_⟩) hHeld ?_ ?_
     rotate_left
     ·rintro w' ⟨s0, s1, s2, s3, s4, s5, s6, s7, s8⟩
      go_simp
      with_reducible rfl
     rotate_left
     ·simp only [Act.put, List.setIfInBounds_toArray, List.set_cons_zero, List.set_cons_succ, i64_w, i32_w]
      rfl
     refine take_ (i := 6) (N := some 24) (v := ?_) (a' := ?_) (tf_ 7 7) rfl rfl (take_ofW HT_.out HW_.out (by kernel_rfl)) (fun _ _ _ h => h) (Or.inl ⟨by rfl, ?_⟩) hHeld ?_ ?_
     rotate_left
     ·rintro w' ⟨s0, s1, s2, s3, s4, s5, s6, s7, s8⟩
      go_simp
      with_reducible rfl
     rotate_left
     ·simp only [Act.put, List.setIfInBounds_toArray, List.set_cons_zero, List.set_cons_succ, i64_w, i32_w]
      rfl
     refine pure_ (i := 7) (N := some 25) (v := ?_) (a' := ?_) (tf_ 8 6) rfl rfl (any_of HT_.out (by kernel_rfl)) (fun _ _ _ h => h) (Or.inl ⟨by rfl, ?_⟩) ?_ ?_
     rotate_left
     ·intro w'
      go_simp
      with_reducible rfl
     rotate_left
     ·simp only [Act.put, List.setIfInBounds_toArray, List.set_cons_zero, List.set_cons_succ, i64_w, i32_w]
      rfl
     refine take_ (i := 8) (N := some 26) (v := ?_) (a' := ?_) (tf_ 9 5) rfl rfl (take_ofW HT_.out HW_.out (by kernel_rfl)) (fun _ _ _ h => h) (Or.inl ⟨by rfl, ?_⟩) hHeld ?_ ?_
     rotate_left
     ·rintro w' ⟨s0, s1, s2, s3, s4, s5, s6, s7, s8⟩
      go_simp
      with_reducible rfl
     rotate_left
     ·simp only [Act.put, List.setIfInBounds_toArray, List.set_cons_zero, List.set_cons_succ, i64_w, i32_w]
      rfl
     refine pure_ (i := 9) (N := some 27) (v := ?_) (a' := ?_) (tf_ 10 4) rfl rfl (any_of HT_.out (by kernel_rfl)) (fun _ _ _ h => h) (Or.inl ⟨by rfl, ?_⟩) ?_ ?_
     rotate_left
     ·intro w'
      go_simp
      with_reducible rfl
     rotate_left
     ·simp only [Act.put, List.setIfInBounds_toArray, List.set_cons_zero, List.set_cons_succ, i64_w, i32_w]
      rfl
     refine take_ (i := 10) (N := some 28) (v := ?_) (a' := ?_) (tf_ 11 3) rfl rfl (take_ofW HT_.out HW_.out (by kernel_rfl)) (fun _ _ _ h => h) (Or.inl ⟨by rfl, ?_⟩) hHeld ?_ ?_
     rotate_left
     ·rintro w' ⟨s0, s1, s2, s3, s4, s5, s6, s7, s8⟩
      go_simp
      with_reducible rfl
     rotate_left
     ·simp only [Act.put, List.setIfInBounds_toArray, List.set_cons_zero, List.set_cons_succ, i64_w, i32_w]
      rfl
     refine one_ (i := 11) (N := some 29) (tf_ 12 2) rfl rfl (one_of HT_.out (by kernel_rfl)) (by decide) (fun K hK => ?_)
     refine goes_ Try.func96 (by kernel_rfl) rfl #[.pointer (some ⟨g, 0, none⟩), .agg #[.int .i64 ((rd_T37 (rd_L3 t351 0) 0).f0), .int .i64 ((rd_T37 (rd_L3 t351 0) 0).f1), .int .i64 ((rd_T37 (rd_L3 t351 0) 0).f2), .int .i64 ((rd_T37 (rd_L3 t351 0) 0).f3), .int .i64 ((rd_T37 (rd_L3 t351 0) 0).f4)]] (by rfl) rfl rfl att12_0_5 ?_
     with_reducible refine (spec_l1Spoil.calls g s0_0 t358 t359 ((rd_T37 (rd_L3 t351 0) 0).f0) ((rd_T37 (rd_L3 t351 0) 0).f1) ((rd_T37 (rd_L3 t351 0) 0).f2) ((rd_T37 (rd_L3 t351 0) 0).f3) ((rd_T37 (rd_L3 t351 0) 0).f4) t370 t371 t372 t373 t374 t375 t376 w0 _ ?side1 ?side2 A30.out).mono ?_
     (case side1 => repeat (first | (with_reducible first | exact HI0.out | apply IsS170.alloc | apply IsS170.drewN | apply IsS170.drew | apply IsS170.set_1 | apply IsS170.set_2 | refine IsS170.far ?_ NB0_347.out _ | refine IsS170.far ?_ NB0_356.out _) | exact HI0.out))
     (case side2 => repeat (first | (with_reducible first | exact HB.out | apply below_alloc | apply pw_below_drewN | apply below_drew1 | refine below_set ?_ (IsS170.ge HI0.out) | refine below_set ?_ GE347.out | refine below_set ?_ GE356.out) | exact HB.out))
     rintro e w42 ⟨rfl, hi, hb, hk⟩
     have HS2_ := keep_cell hk (hHeld.2.2.1) (by have h_ := Kd.own_blk (IsS170.own_neS HI0.out HO353.out (by decide)); first | exact h_ | (rw [add_block]; exact h_) | (show (Addr.add _ _).block ≠ _; rw [add_block]; exact h_))
     have HS3_ := keep_cell hk (hHeld.2.2.2.1) (by have h_ := Kd.own_blk (IsS170.own_neS HI0.out HO353.out (by decide)); first | exact h_ | (rw [add_block]; exact h_) | (show (Addr.add _ _).block ≠ _; rw [add_block]; exact h_))
     have HS4_ := keep_cell hk (hHeld.2.2.2.2.1) (by have h_ := Kd.own_blk (IsS170.own_ne HI0.out HL368_0.out (by decide)); first | exact h_ | (rw [add_block]; exact h_) | (show (Addr.add _ _).block ≠ _; rw [add_block]; exact h_))
     have HS5_ := keep_cell hk (hHeld.2.2.2.2.2.1) (by have h_ := Kd.own_blk (IsS170.own_ne HI0.out HL368_0.out (by decide)); first | exact h_ | (rw [add_block]; exact h_) | (show (Addr.add _ _).block ≠ _; rw [add_block]; exact h_))
     have HS6_ := keep_cell hk (hHeld.2.2.2.2.2.2.1) (by have h_ := Kd.own_blk (IsS170.own_ne HI0.out HL368_0.out (by decide)); first | exact h_ | (rw [add_block]; exact h_) | (show (Addr.add _ _).block ≠ _; rw [add_block]; exact h_))
     have HS7_ := keep_cell hk (hHeld.2.2.2.2.2.2.2.1) (by have h_ := Kd.own_blk (IsS170.own_ne HI0.out HL368_0.out (by decide)); first | exact h_ | (rw [add_block]; exact h_) | (show (Addr.add _ _).block ≠ _; rw [add_block]; exact h_))
     have HS8_ := keep_cell hk (hHeld.2.2.2.2.2.2.2.2) (by have h_ := Kd.own_blk (IsS170.own_ne HI0.out HL368_0.out (by decide)); first | exact h_ | (rw [add_block]; exact h_) | (show (Addr.add _ _).block ≠ _; rw [add_block]; exact h_))
     refine ⟨_, rfl, ?_⟩
     have n0_ := Aside0.mk (KeepBut.blk hk (g' := gb347) (o := .cells #[.slice none 0 0, .slice none 0 0] 30 (0, 0)) att12_0_2 NB347_0.out (by simp))
     have n1_ := Aside0.mk (Kd.R_mono (Kd.R_keep (IsS170.apart (show IsS170 w0 _ g s0_0 t358 t359 from by repeat (first | (with_reducible first | exact HI0.out | apply IsS170.alloc | apply IsS170.drewN | apply IsS170.drew | apply IsS170.set_1 | apply IsS170.set_2 | refine IsS170.far ?_ NB0_347.out _ | refine IsS170.far ?_ NB0_356.out _) | exact HI0.out)) att12_0_6 (by decide)) hk (fun _ h => h.2)) (fun _ h => h.1))
     have n2_ := Aside0.mk (Kd.S_mono (Kd.S_keep (IsS170.apartS (show IsS170 w0 _ g s0_0 t358 t359 from by repeat (first | (with_reducible first | exact HI0.out | apply IsS170.alloc | apply IsS170.drewN | apply IsS170.drew | apply IsS170.set_1 | apply IsS170.set_2 | refine IsS170.far ?_ NB0_347.out _ | refine IsS170.far ?_ NB0_356.out _) | exact HI0.out)) att12_0_7 (by decide)) hk (fun _ h => h.2)) (fun _ h => h.1))
     have n3_ := Aside0.mk (KeepBut.blk hk (g' := gb356) (o := .cells #[.slice Ao35 t348.length co35, .slice (some ad367) t351.length co39] 30 (0, 0)) att12_0_14 NB356_0.out (by simp))
     have n4_ := Aside0.mk (Kd.R_mono (Kd.R_keep (IsS170.apart (show IsS170 w0 _ g s0_0 t358 t359 from by repeat (first | (with_reducible first | exact HI0.out | apply IsS170.alloc | apply IsS170.drewN | apply IsS170.drew | apply IsS170.set_1 | apply IsS170.set_2 | refine IsS170.far ?_ NB0_347.out _ | refine IsS170.far ?_ NB0_356.out _) | exact HI0.out)) (by (with_reducible repeat (first | apply Kd.R_alloc | apply Kd.R_drewN | apply Kd.R_drew)); exact HL367_0.out) (by decide)) hk (fun _ h => h.2)) (fun _ h => h.1))
     have n5_ := Aside0.mk (keep_cell hk HX367_0.out (by first | (rw [add_block]; exact Kd.own_blk (IsS170.own_neS HI0.out HO353.out (by decide))) | (show (Addr.add _ _).block ≠ _; rw [add_block]; exact Kd.own_blk (IsS170.own_neS HI0.out HO353.out (by decide))) | exact Kd.own_blk (IsS170.own_neS HI0.out HO353.out (by decide)) | (dsimp only; exact Kd.own_blk (IsS170.own_neS HI0.out HO353.out (by decide)))))
     have n6_ := Aside0.mk (Kd.R_mono (Kd.R_keep (IsS170.apart (show IsS170 w0 _ g s0_0 t358 t359 from by repeat (first | (with_reducible first | exact HI0.out | apply IsS170.alloc | apply IsS170.drewN | apply IsS170.drew | apply IsS170.set_1 | apply IsS170.set_2 | refine IsS170.far ?_ NB0_347.out _ | refine IsS170.far ?_ NB0_356.out _) | exact HI0.out)) (by (with_reducible repeat (first | apply Kd.R_alloc | apply Kd.R_drewN | apply Kd.R_drew)); exact HL368_0.out) (by decide)) hk (fun _ h => h.2)) (fun _ h => h.1))
     have n7_ := Aside0.mk (keep_cell hk HX368_0.out (by first | (rw [add_block]; exact Kd.own_blk (IsS170.own_neS HI0.out HO353.out (by decide))) | (show (Addr.add _ _).block ≠ _; rw [add_block]; exact Kd.own_blk (IsS170.own_neS HI0.out HO353.out (by decide))) | exact Kd.own_blk (IsS170.own_neS HI0.out HO353.out (by decide)) | (dsimp only; exact Kd.own_blk (IsS170.own_neS HI0.out HO353.out (by decide)))))
     have n8_ := Aside0.mk (KeepBut.trans att12_0_1 hk (.inl rfl))
     have n9_ := Aside0.mk (hb)
     have n10_ := Aside0.mk (hi)
     clear BK347
     clear HO350
     clear HO353
     clear BK356
     clear HL367_0
     clear HX367_0
     clear HL368_0
     clear HX368_0
     clear HK
     clear HB
     clear HI0
     have BK347 := n0_
     have HO350 := n1_
     have HO353 := n2_
     have BK356 := n3_
     have HL367_0 := n4_
     have HX367_0 := n5_
     have HL368_0 := n6_
     have HX368_0 := n7_
     have HK := n8_
     have HB := n9_
     have HI0 := n10_
     clear n0_ n1_ n2_ n3_ n4_ n5_ n6_ n7_ n8_ n9_ n10_
     (try clear hb)
     (try clear hb2)
     (try clear hk)
     (try clear hi)
     have p31 : 0 ≤ (0 : Int) := (by omega)
     have q31 : (0 : Int) < (((rd_L3 t351 0).length : Int) : Int) := of_decide_eq_true att12_0_15
     have qi31 : (0 < (rd_L3 t351 0).length) = True := eq_true (by omega)
     obtain ⟨go31, co31, eo31, gb31, gl31, cl31, HG31⟩ := Kd.R_form HL367_0.out (by omega)
     (first | cases eo31 | (injection eo31 with ea_ en_ ec_; (first | subst ea_ | (injection ea_ with ea_; subst ea_)); subst ec_; clear en_))
     have GB31 := Aside0.mk gb31
     have GG31 := Aside0.mk HG31
     clear gb31 gl31 HG31
     (first | simp only [add_plain] at hx369_0 | skip)
     (first | simp only [add_plain] at hx369_1 | skip)
     (first | simp only [add_plain] at hx369_2 | skip)
     (first | simp only [add_plain] at hx369_3 | skip)
     (first | simp only [add_plain] at hx369_4 | skip)
     obtain ⟨ce31, hcl31, hM31, hcc31, hfr31⟩ := Kd.R_elem HL367_0.out z37 (0 : Int) p31 q31
     obtain rfl := k37_openM hM31
     have hx31_0 : World.cell? _ ⟨go31, (0 : Int).toNat * 5, none⟩ = some (.int .i64 ((rd_T37 (rd_L3 t351 0) 0).f0)) := hcc31 0 _ rfl
     have hx31_1 : World.cell? _ ⟨go31, (0 : Int).toNat * 5 + 1, none⟩ = some (.int .i64 ((rd_T37 (rd_L3 t351 0) 0).f1)) := hcc31 1 _ rfl
     have hx31_2 : World.cell? _ ⟨go31, (0 : Int).toNat * 5 + 2, none⟩ = some (.int .i64 ((rd_T37 (rd_L3 t351 0) 0).f2)) := hcc31 2 _ rfl
     have hx31_3 : World.cell? _ ⟨go31, (0 : Int).toNat * 5 + 3, none⟩ = some (.int .i64 ((rd_T37 (rd_L3 t351 0) 0).f3)) := hcc31 3 _ rfl
     have hx31_4 : World.cell? _ ⟨go31, (0 : Int).toNat * 5 + 4, none⟩ = some (.int .i64 ((rd_T37 (rd_L3 t351 0) 0).f4)) := hcc31 4 _ rfl
     have hf31_0 : World.frozen? _ ⟨go31, (0 : Int).toNat * 5, none⟩ = false := hfr31 0
     have hf31_1 : World.frozen? _ ⟨go31, (0 : Int).toNat * 5 + 1, none⟩ = false := hfr31 1
     have hf31_2 : World.frozen? _ ⟨go31, (0 : Int).toNat * 5 + 2, none⟩ = false := hfr31 2
     have hf31_3 : World.frozen? _ ⟨go31, (0 : Int).toNat * 5 + 3, none⟩ = false := hfr31 3
     have hf31_4 : World.frozen? _ ⟨go31, (0 : Int).toNat * 5 + 4, none⟩ = false := hfr31 4
     clear hcl31 hcc31 hfr31 hM31
     (try rw [show ((0 : Int)).toNat = 0 from rfl] at hx31_0)
     (try simp only [Nat.reduceMul, Nat.zero_mul, Nat.zero_add, Nat.reduceAdd] at hx31_0)
     (try rw [show ((0 : Int)).toNat = 0 from rfl] at hf31_0)
     (try simp only [Nat.reduceMul, Nat.zero_mul, Nat.zero_add, Nat.reduceAdd] at hf31_0)
     (try rw [show ((0 : Int)).toNat = 0 from rfl] at hx31_1)
     (try simp only [Nat.reduceMul, Nat.zero_mul, Nat.zero_add, Nat.reduceAdd] at hx31_1)
     (try rw [show ((0 : Int)).toNat = 0 from rfl] at hf31_1)
     (try simp only [Nat.reduceMul, Nat.zero_mul, Nat.zero_add, Nat.reduceAdd] at hf31_1)
     (try rw [show ((0 : Int)).toNat = 0 from rfl] at hx31_2)
     (try simp only [Nat.reduceMul, Nat.zero_mul, Nat.zero_add, Nat.reduceAdd] at hx31_2)
     (try rw [show ((0 : Int)).toNat = 0 from rfl] at hf31_2)
     (try simp only [Nat.reduceMul, Nat.zero_mul, Nat.zero_add, Nat.reduceAdd] at hf31_2)
     (try rw [show ((0 : Int)).toNat = 0 from rfl] at hx31_3)
     (try simp only [Nat.reduceMul, Nat.zero_mul, Nat.zero_add, Nat.reduceAdd] at hx31_3)
     (try rw [show ((0 : Int)).toNat = 0 from rfl] at hf31_3)
     (try simp only [Nat.reduceMul, Nat.zero_mul, Nat.zero_add, Nat.reduceAdd] at hf31_3)
     (try rw [show ((0 : Int)).toNat = 0 from rfl] at hx31_4)
     (try simp only [Nat.reduceMul, Nat.zero_mul, Nat.zero_add, Nat.reduceAdd] at hx31_4)
     (try rw [show ((0 : Int)).toNat = 0 from rfl] at hf31_4)
     (try simp only [Nat.reduceMul, Nat.zero_mul, Nat.zero_add, Nat.reduceAdd] at hf31_4)
     replace p31 := eq_true p31
     replace q31 := eq_true q31
     have hq43 : (0 : Int) < (t351.length : Int) := (by have h_ : (0 : Int) < ((t351.length : Int) : Int) := of_decide_eq_true att12_0_15; first | exact h_ | (have e_ := (Kd.S_reads' HO353.out).1; omega) | simpa only [List.length_set, List.length_set] using h_)
     obtain ⟨oki43, ce43, hcl43, hM43, hcc43, hok43, hbk43⟩ := Kd.S_borrow HO353.out [] (0 : Int) (by omega) hq43
     obtain ⟨ve43_0, rfl, ge43_0⟩ := hM43
     have hv43 := hcc43 0 _ rfl
     rw [Nat.add_zero, show ((Kd.slice 37 k37)).sz = 1 from rfl, Nat.mul_one] at hv43
     replace hv43 := Option.some.inj (hv43.symm.trans HX367_0.out)
     subst hv43
     clear hcc43 hcl43
     replace ge43_0 := (show Kd.R k37 37 _ _ _ _ (rd_L3 t351 0) from ge43_0)
     obtain ⟨cf43, hcl43, hN43, hcc43, hfr43⟩ := Kd.R_elem ge43_0 z37 (0 : Int) (by omega) att12_1_0
     obtain rfl := k37_openM hN43
     have HP43 := Kd.R_seg ge43_0 (0 : Int) (by omega) att12_1_0 (seg := [.int .i64 t370, .int .i64 t371, .int .i64 t372, .int .i64 t373, .int .i64 t374]) (j := 0) hcl43 hcc43 (show 5 ≤ 5 from by decide) (x' := (⟨t370, t371, t372, t373, t374⟩ : S37)) (k37_mkM _ _ _ (⟨t370, t371, t372, t373, t374⟩ : S37)) (fun _ hk => hk)
     clear hcl43 hcc43 hfr43 hN43
     have HN0_go31 := Aside0.mk (show g ≠ go31 from by have h_ := IsS170.own_ne HI0.out HL367_0.out (by decide); intro e_; exact h_ (by rw [e_]; rfl))
     rw [← Ny377.out] at HP43
     have HS43 := hbk43 HP43.2 (fun k_ e_ => by injection e_ with e_; subst e_; exact ge43_0.1 _ rfl) (x' := y377) (Kd.M_row HP43.1)
     rw [← Ny379.out] at HS43
     have HQ43 := Aside0.mk HS43
     clear HP43 HS43 hbk43 hok43
     refine hK.out _ _ ⟨(blk_cell BK356.out 0).trans rfl, (blk_cell BK356.out 1).trans rfl, HS2_, HS3_, HS4_, HS5_, HS6_, HS7_, HS8_⟩ (fun hHeld => ?_)
     clear hK K
     refine norm_ (a' := ?_) ?_ ?_
     rotate_left
     ·show Act.put _ (some 29) _ = _
      simp only [Act.put, List.setIfInBounds_toArray, List.set_cons_zero, List.set_cons_succ, i64_w, i32_w]
      rfl
     refine pure_ (i := 12) (N := some 30) (v := ?_) (a' := ?_) (tf_ 13 1) rfl rfl (any_of HT_.out (by kernel_rfl)) (fun _ _ _ h => h) (Or.inl ⟨by rfl, ?_⟩) ?_ ?_
     rotate_left
     ·intro w'
      go_simp
      with_reducible rfl
     rotate_left
     ·simp only [Act.put, List.setIfInBounds_toArray, List.set_cons_zero, List.set_cons_succ, i64_w, i32_w]
      rfl
     refine last_ (i := 13) (N := none) (tf_ 14 0) rfl rfl (one_of HT_.out (by kernel_rfl)) (by decide) (fun K hK => ?_)
     refine skip_ (w1 := ?_) (by rfl) rfl ?_ ?_
     rotate_left
     ·go_simp
      rfl
     refine hK.out _ _ ?_
     clear hK K
     refine done_ (done_of HT_.out (by kernel_rfl)) ?_
     have n0_ : Aside0 (Kd.R (Kd.int .i64) 3 (((((w42.setCell ⟨go31, 0, none⟩ (.int .i64 t370)).setCell ⟨go31, 1, none⟩ (.int .i64 t371)).setCell ⟨go31, 2, none⟩ (.int .i64 t372)).setCell ⟨go31, 3, none⟩ (.int .i64 t373)).setCell ⟨go31, 4, none⟩ (.int .i64 t374)) w.heap.size (fun _ => True) (.slice Ao35 t348.length co35) t348) := ⟨by (with_reducible repeat (first | apply Kd.R_alloc | apply Kd.R_drewN | apply Kd.R_drew)); exact Kd.R_mono (Kd.R_far (p := ⟨go31, 4, none⟩) (Kd.R_far (p := ⟨go31, 3, none⟩) (Kd.R_far (p := ⟨go31, 2, none⟩) (Kd.R_far (p := ⟨go31, 1, none⟩) (Kd.R_far (p := ⟨go31, 0, none⟩) (Kd.R_types HO350.out GG31.out (by decide)) (fun _ hk => hk.2) (.int .i64 t370)) (fun _ hk => hk.2) (.int .i64 t371)) (fun _ hk => hk.2) (.int .i64 t372)) (fun _ hk => hk.2) (.int .i64 t373)) (fun _ hk => hk.2) (.int .i64 t374)) (fun _ hk => trivial)⟩
     have n1_ : Aside0 (Kd.S (Kd.slice 37 k37) 51 (((((w42.setCell ⟨go31, 0, none⟩ (.int .i64 t370)).setCell ⟨go31, 1, none⟩ (.int .i64 t371)).setCell ⟨go31, 2, none⟩ (.int .i64 t372)).setCell ⟨go31, 3, none⟩ (.int .i64 t373)).setCell ⟨go31, 4, none⟩ (.int .i64 t374)) w.heap.size (fun _ => True) (.slice (some ad367) t351.length co39) y379) := ⟨by (with_reducible repeat (first | apply Kd.S_alloc | apply Kd.S_drewN | apply Kd.S_drew)); exact HQ43.out⟩
     have n2_ : Aside0 ((((((w42.setCell ⟨go31, 0, none⟩ (.int .i64 t370)).setCell ⟨go31, 1, none⟩ (.int .i64 t371)).setCell ⟨go31, 2, none⟩ (.int .i64 t372)).setCell ⟨go31, 3, none⟩ (.int .i64 t373)).setCell ⟨go31, 4, none⟩ (.int .i64 t374)).heap[gb347]? = some (.cells #[.slice none 0 0, .slice none 0 0] 30 (0, 0))) := ⟨by (with_reducible repeat (first | refine blk_drewN ?_ _ | refine blk_drew ?_ | refine blk_alloc ?_ _)); refine blk_far ?_ att12_0_17 _; (with_reducible repeat (first | refine blk_drewN ?_ _ | refine blk_drew ?_ | refine blk_alloc ?_ _)); refine blk_far ?_ att12_0_17 _; (with_reducible repeat (first | refine blk_drewN ?_ _ | refine blk_drew ?_ | refine blk_alloc ?_ _)); refine blk_far ?_ att12_0_17 _; (with_reducible repeat (first | refine blk_drewN ?_ _ | refine blk_drew ?_ | refine blk_alloc ?_ _)); refine blk_far ?_ att12_0_17 _; (with_reducible repeat (first | refine blk_drewN ?_ _ | refine blk_drew ?_ | refine blk_alloc ?_ _)); refine blk_far ?_ att12_0_17 _; (with_reducible repeat (first | refine blk_drewN ?_ _ | refine blk_drew ?_ | refine blk_alloc ?_ _)); exact BK347.out⟩
     have n3_ : Aside0 ((((((w42.setCell ⟨go31, 0, none⟩ (.int .i64 t370)).setCell ⟨go31, 1, none⟩ (.int .i64 t371)).setCell ⟨go31, 2, none⟩ (.int .i64 t372)).setCell ⟨go31, 3, none⟩ (.int .i64 t373)).setCell ⟨go31, 4, none⟩ (.int .i64 t374)).heap[gb356]? = some (.cells #[.slice Ao35 t348.length co35, .slice (some ad367) t351.length co39] 30 (0, 0))) := ⟨by (with_reducible repeat (first | refine blk_drewN ?_ _ | refine blk_drew ?_ | refine blk_alloc ?_ _)); refine blk_far ?_ att12_0_16 _; (with_reducible repeat (first | refine blk_drewN ?_ _ | refine blk_drew ?_ | refine blk_alloc ?_ _)); refine blk_far ?_ att12_0_16 _; (with_reducible repeat (first | refine blk_drewN ?_ _ | refine blk_drew ?_ | refine blk_alloc ?_ _)); refine blk_far ?_ att12_0_16 _; (with_reducible repeat (first | refine blk_drewN ?_ _ | refine blk_drew ?_ | refine blk_alloc ?_ _)); refine blk_far ?_ att12_0_16 _; (with_reducible repeat (first | refine blk_drewN ?_ _ | refine blk_drew ?_ | refine blk_alloc ?_ _)); refine blk_far ?_ att12_0_16 _; (with_reducible repeat (first | refine blk_drewN ?_ _ | refine blk_drew ?_ | refine blk_alloc ?_ _)); exact BK356.out⟩
     have n4_ : Aside0 (IsS170 w0 (((((w42.setCell ⟨go31, 0, none⟩ (.int .i64 t370)).setCell ⟨go31, 1, none⟩ (.int .i64 t371)).setCell ⟨go31, 2, none⟩ (.int .i64 t372)).setCell ⟨go31, 3, none⟩ (.int .i64 t373)).setCell ⟨go31, 4, none⟩ (.int .i64 t374)) g s0_0 t375 t376) := ⟨by repeat (first | (with_reducible first | exact HI0.out | apply IsS170.alloc | apply IsS170.drewN | apply IsS170.drew | apply IsS170.set_1 | apply IsS170.set_2 | refine IsS170.far ?_ HN0_go31.out _ | refine IsS170.far ?_ HN0_go31.out _ | refine IsS170.far ?_ HN0_go31.out _ | refine IsS170.far ?_ HN0_go31.out _ | refine IsS170.far ?_ HN0_go31.out _ | refine IsS170.far ?_ NB0_347.out _ | refine IsS170.far ?_ NB0_356.out _) | exact HI0.out)⟩
     have n5_ : Aside0 (KeepBut w (((((w42.setCell ⟨go31, 0, none⟩ (.int .i64 t370)).setCell ⟨go31, 1, none⟩ (.int .i64 t371)).setCell ⟨go31, 2, none⟩ (.int .i64 t372)).setCell ⟨go31, 3, none⟩ (.int .i64 t373)).setCell ⟨go31, 4, none⟩ (.int .i64 t374)) g none) := ⟨by repeat (first | (with_reducible first | exact HK.out | apply KeepBut.set_ | apply keep_drewN | apply keep_drew | apply keep_alloc | refine keep_far ?_ GB31.out _ | refine keep_far ?_ GB31.out _ | refine keep_far ?_ GB31.out _ | refine keep_far ?_ GB31.out _ | refine keep_far ?_ GB31.out _ | refine keep_far ?_ GW347.out _ | refine keep_far ?_ GW356.out _) | exact HK.out)⟩
     have n6_ : Aside0 (Below w0.heap.size w0 (((((w42.setCell ⟨go31, 0, none⟩ (.int .i64 t370)).setCell ⟨go31, 1, none⟩ (.int .i64 t371)).setCell ⟨go31, 2, none⟩ (.int .i64 t372)).setCell ⟨go31, 3, none⟩ (.int .i64 t373)).setCell ⟨go31, 4, none⟩ (.int .i64 t374))) := ⟨by repeat (first | (with_reducible first | exact HB.out | apply below_alloc | apply pw_below_drewN | apply below_drew1 | refine below_set ?_ (Nat.le_trans HL.out GB31.out) | refine below_set ?_ (Nat.le_trans HL.out GB31.out) | refine below_set ?_ (Nat.le_trans HL.out GB31.out) | refine below_set ?_ (Nat.le_trans HL.out GB31.out) | refine below_set ?_ (Nat.le_trans HL.out GB31.out) | refine below_set ?_ (IsS170.ge HI0.out) | refine below_set ?_ GE347.out | refine below_set ?_ GE356.out) | exact HB.out)⟩
     (try clear HO350)
     (try clear HO353)
     (try clear BK347)
     (try clear BK356)
     (try clear HI0)
     (try clear HK)
     (try clear HB)
     generalize (((((w42.setCell ⟨go31, 0, none⟩ (.int .i64 t370)).setCell ⟨go31, 1, none⟩ (.int .i64 t371)).setCell ⟨go31, 2, none⟩ (.int .i64 t372)).setCell ⟨go31, 3, none⟩ (.int .i64 t373)).setCell ⟨go31, 4, none⟩ (.int .i64 t374)) = w45 at n0_ n1_ n2_ n3_ n4_ n5_ n6_ ⊢
     have HO350 := n0_
     have HO353 := n1_
     have BK347 := n2_
     have BK356 := n3_
     have HI0 := n4_
     have HK := n5_
     have HB := n6_
     clear n0_ n1_ n2_ n3_ n4_ n5_ n6_
     have hcz46_0 : w45.cell? ⟨gb356, 0, none⟩ = some (.slice Ao35 t348.length co35) := (blk_cell BK356.out 0).trans rfl
     have hcz46_1 : w45.cell? ⟨gb356, 1, none⟩ = some (.slice (some ad367) t351.length co39) := (blk_cell BK356.out 1).trans rfl
     have hfz46_0 := blk_frozen BK356.out 0
     have hfz46_1 := blk_frozen BK356.out 1
     have hnb47 := NB347_0.out
     have hnc47 := NB0_347.out
     have hcz48_0 : w45.cell? ⟨gb347, 0, none⟩ = some (.slice none 0 0) := (blk_cell BK347.out 0).trans rfl
     have hcz48_1 : w45.cell? ⟨gb347, 1, none⟩ = some (.slice none 0 0) := (blk_cell BK347.out 1).trans rfl
     have hfz48_0 := blk_frozen BK347.out 0
     have hfz48_1 := blk_frozen BK347.out 1
     try go_wp2
     refine bodyPost_ret (results_cell_row rfl _ _ gb347 30 #[.slice Ao35 t348.length co35, .slice (some ad367) t351.length co39] (0, 0) _ rfl (by (with_reducible repeat (first | refine blk_drewN ?_ _ | refine blk_drew ?_ | refine blk_alloc ?_ _)); refine blk_put (cs := #[.slice Ao35 t348.length co35, .slice none 0 0]) ?_ 1 _ rfl; (with_reducible repeat (first | refine blk_drewN ?_ _ | refine blk_drew ?_ | refine blk_alloc ?_ _)); refine blk_put (cs := #[.slice none 0 0, .slice none 0 0]) ?_ 0 _ rfl; (with_reducible repeat (first | refine blk_drewN ?_ _ | refine blk_drew ?_ | refine blk_alloc ?_ _)); exact BK347.out) Try.underlying30 rfl (by kernel_rfl)) rfl ?_
     exact ⟨_, _, by first | rfl | (simp [errW_none, errW_some] <;> rfl) | (simp [*, errW_none, errW_some] <;> rfl), by (with_reducible repeat (first | apply Kd.R_alloc | apply Kd.R_drewN | apply Kd.R_drew)); exact Kd.R_mono (Kd.R_far (p := ⟨gb347, 1, none⟩) (Kd.R_far (p := ⟨gb347, 0, none⟩) (Kd.R_types HO350.out BK347.out (by decide)) (fun _ hk => hk.2) (.slice Ao35 t348.length co35)) (fun _ hk => hk.2) (.slice (some ad367) t351.length co39)) (fun _ hk => trivial), by (with_reducible repeat (first | apply Kd.S_alloc | apply Kd.S_drewN | apply Kd.S_drew)); exact Kd.S_mono (Kd.S_far (p := ⟨gb347, 1, none⟩) (Kd.S_far (p := ⟨gb347, 0, none⟩) (Kd.S_types HO353.out BK347.out (by decide)) (fun _ hk => hk.2) (.slice Ao35 t348.length co35)) (fun _ hk => hk.2) (.slice (some ad367) t351.length co39)) (fun _ hk => trivial), by repeat (first | (with_reducible first | exact HI0.out | apply IsS170.alloc | apply IsS170.drewN | apply IsS170.drew | apply IsS170.set_1 | apply IsS170.set_2 | refine IsS170.far ?_ NB0_347.out _ | refine IsS170.far ?_ NB0_356.out _) | exact HI0.out), by repeat (first | (with_reducible first | exact HB.out | apply below_alloc | apply pw_below_drewN | apply below_drew1 | refine below_set ?_ (IsS170.ge HI0.out) | refine below_set ?_ GE347.out | refine below_set ?_ GE356.out) | exact HB.out), att12_0_1⟩
    ·rw [if_neg c29] at H
     exact absurd H (by simp)
   ·rw [if_neg c28] at H
    exact absurd H (by simp)
  ·rw [if_neg c27] at H
   have c27b0 : (t357 == 1) = false := beq_eq_false_iff_ne.mpr c27
   have c27b1 : (t357 != 1) = true := bne_iff_ne.mpr c27
   by_cases c49 : t357 = 2
   ·rw [if_pos c49] at H
    have c49b0 : (t357 == 2) = true := beq_iff_eq.mpr c49
    have c49b1 : (t357 != 2) = false := bne_eq_false_iff_eq.mpr c49
    clear c49
    simp only [Option.some.injEq, Prod.mk.injEq] at H
    obtain ⟨rfl, rfl, rfl, rfl⟩ := H
    go_enter Try.func135, Try.ntmps135
    go_wp2_with (first | ((with_reducible refine gate_dst (N := 2) rfl ?_); refine box_event ?hg (N := 2) ?hd (cs := #[.slice none 0 0, .slice none 0 0]) (t := 30) ?hr ?_; (case hd => rfl); (case hg => rfl); (case hr => first | (go_simp; done) | (go_simp; rfl)); intro gb347 hg w50 hbox hb; have n0_ := Aside0.mk (IsS170.below att12_0_10 hb); have n1_ := Aside0.mk (KeepBut.trans att12_0_3 (KeepBut.of_below hb g none) (.inl rfl)); have n2_ := Aside0.mk (below_step att12_0_11 hb); have n3_ := Aside0.mk (hbox); have n4_ := Aside0.mk ((by rw [hg]; exact (keep_size (w := w) (g := g) (row := none) att12_0_3) : w.heap.size ≤ gb347)); have n5_ := Aside0.mk ((Nat.le_trans HW0.out (by rw [hg]; exact (keep_size (w := w) (g := g) (row := none) att12_0_3) : w.heap.size ≤ gb347) : w0.heap.size ≤ gb347)); have n6_ := Aside0.mk ((by rw [hg]; exact Nat.ne_of_lt (IsS170.lt (show IsS170 w0 _ g s0_0 s0_1 s0_2 from by repeat (first | (with_reducible first | exact HI0.out | apply IsS170.alloc | apply IsS170.drewN | apply IsS170.drew | apply IsS170.set_1 | apply IsS170.set_2) | exact HI0.out))) : g ≠ gb347)); have n7_ := Aside0.mk ((by rw [hg]; exact Nat.ne_of_gt (IsS170.lt (show IsS170 w0 _ g s0_0 s0_1 s0_2 from by repeat (first | (with_reducible first | exact HI0.out | apply IsS170.alloc | apply IsS170.drewN | apply IsS170.drew | apply IsS170.set_1 | apply IsS170.set_2) | exact HI0.out))) : gb347 ≠ g)); clear HI0; clear HK; clear HB; have HI0 := n0_; have HK := n1_; have HB := n2_; have BK347 := n3_; have GW347 := n4_; have GE347 := n5_; have NB0_347 := n6_; have NB347_0 := n7_; clear n0_ n1_ n2_ n3_ n4_ n5_ n6_ n7_; clear hb hbox hg) | ((with_reducible refine gate_callee (f := 181) rfl ?_); refine goesL_ (some 5) rfl rfl Try.func181 (by kernel_rfl) rfl #[.pointer (some ⟨g, 0, none⟩)] rfl att12_0_5 ?_; (with_reducible refine (spec_l1DrawRight.calls k g s0_0 s0_1 s0_2 t348 t351 t354 t355 w0 _ ?side1 ?side2 A2.out).mono ?_); (case side1 => repeat (first | (with_reducible first | exact HI0.out | apply IsS170.alloc | apply IsS170.drewN | apply IsS170.drew | apply IsS170.set_1 | apply IsS170.set_2 | refine IsS170.far ?_ NB0_347.out _) | exact HI0.out)); (case side2 => repeat (first | (with_reducible first | exact HB.out | apply below_alloc | apply pw_below_drewN | apply below_drew1 | refine below_set ?_ (IsS170.ge HI0.out) | refine below_set ?_ GE347.out) | exact HB.out)); rintro e w51 ⟨v349, v352, rfl, ho0, ho1, hi, hb, hk⟩; refine ⟨_, rfl, ?_⟩; have n0_ := Aside0.mk (KeepBut.blk hk (g' := gb347) (o := .cells #[.slice none 0 0, .slice none 0 0] 30 (0, 0)) att12_0_2 NB347_0.out (by simp)); have n1_ := Aside0.mk (Kd.R_lower ho0 (keep_size (w := w) (g := g) (row := none) att12_0_0)); have n2_ := Aside0.mk (Kd.S_lower ho1 (keep_size (w := w) (g := g) (row := none) att12_0_0)); have n3_ := Aside0.mk (KeepBut.trans att12_0_0 hk (.inl rfl)); have n4_ := Aside0.mk (hb); have n5_ := Aside0.mk (hi); clear BK347; clear HK; clear HB; clear HI0; have BK347 := n0_; have HO350 := n1_; have HO353 := n2_; have HK := n3_; have HB := n4_; have HI0 := n5_; clear n0_ n1_ n2_ n3_ n4_ n5_; (try clear hb); (try clear hb2); (try clear hk); (try clear hi); (try clear ho0); (try clear ho1)) | ((with_reducible refine gate_dst (N := 3) rfl ?_); refine box_event ?hg (N := 3) ?hd (cs := #[.slice none 0 0, .slice none 0 0]) (t := 30) ?hr ?_; (case hd => rfl); (case hg => rfl); (case hr => first | (go_simp; done) | (go_simp; rfl)); intro gb356 hg w52 hbox hb; have n0_ := Aside0.mk (Kd.R_below att12_0_6 hb); have n1_ := Aside0.mk (Kd.S_below att12_0_7 hb); have n2_ := Aside0.mk (IsS170.below att12_0_8 hb); have n3_ := Aside0.mk (blk_below (g := gb347) (o := .cells #[.slice none 0 0, .slice none 0 0] 30 (0, 0)) att12_0_2 hb); have n4_ := Aside0.mk (KeepBut.trans att12_0_0 (KeepBut.of_below hb g none) (.inl rfl)); have n5_ := Aside0.mk (below_step att12_0_9 hb); have n6_ := Aside0.mk (hbox); have n7_ := Aside0.mk ((by rw [hg]; exact (keep_size (w := w) (g := g) (row := none) att12_0_0) : w.heap.size ≤ gb356)); have n8_ := Aside0.mk ((Nat.le_trans HW0.out (by rw [hg]; exact (keep_size (w := w) (g := g) (row := none) att12_0_0) : w.heap.size ≤ gb356) : w0.heap.size ≤ gb356)); have n9_ := Aside0.mk ((by rw [hg]; exact Nat.ne_of_lt (blk_lt (g := gb347) (o := .cells #[.slice none 0 0, .slice none 0 0] 30 (0, 0)) att12_0_2) : gb347 ≠ gb356)); have n10_ := Aside0.mk ((by rw [hg]; exact Nat.ne_of_gt (blk_lt (g := gb347) (o := .cells #[.slice none 0 0, .slice none 0 0] 30 (0, 0)) att12_0_2) : gb356 ≠ gb347)); have n11_ := Aside0.mk ((by rw [hg]; exact Nat.ne_of_lt (IsS170.lt (show IsS170 w0 _ g s0_0 t354 t355 from by repeat (first | (with_reducible first | exact HI0.out | apply IsS170.alloc | apply IsS170.drewN | apply IsS170.drew | apply IsS170.set_1 | apply IsS170.set_2 | refine IsS170.far ?_ NB0_347.out _) | exact HI0.out))) : g ≠ gb356)); have n12_ := Aside0.mk ((by rw [hg]; exact Nat.ne_of_gt (IsS170.lt (show IsS170 w0 _ g s0_0 t354 t355 from by repeat (first | (with_reducible first | exact HI0.out | apply IsS170.alloc | apply IsS170.drewN | apply IsS170.drew | apply IsS170.set_1 | apply IsS170.set_2 | refine IsS170.far ?_ NB0_347.out _) | exact HI0.out))) : gb356 ≠ g)); clear HO350; clear HO353; clear HI0; clear BK347; clear HK; clear HB; have HO350 := n0_; have HO353 := n1_; have HI0 := n2_; have BK347 := n3_; have HK := n4_; have HB := n5_; have BK356 := n6_; have GW356 := n7_; have GE356 := n8_; have NB347_356 := n9_; have NB356_347 := n10_; have NB0_356 := n11_; have NB356_0 := n12_; clear n0_ n1_ n2_ n3_ n4_ n5_ n6_ n7_ n8_ n9_ n10_ n11_ n12_; clear hb hbox hg; obtain ⟨Ao53, co53, eo53⟩ := Kd.R_slice HO350.out; subst eo53; have hnb54 := NB356_347.out; have hnc54 := NB347_356.out; have hnb55 := NB356_0.out; have hnc55 := NB0_356.out; have hcz56_0 : w52.cell? ⟨gb356, 0, none⟩ = some (.slice none 0 0) := (blk_cell BK356.out 0).trans rfl; have hcz56_1 : w52.cell? ⟨gb356, 1, none⟩ = some (.slice none 0 0) := (blk_cell BK356.out 1).trans rfl; have hfz56_0 := blk_frozen BK356.out 0; have hfz56_1 := blk_frozen BK356.out 1; obtain ⟨Ao57, co57, eo57⟩ := Kd.S_slice HO353.out; subst eo57) | ((with_reducible refine gate_callee (f := 97) rfl ?_); refine goesL_ (some 7) rfl rfl Try.func97 (by kernel_rfl) rfl #[.pointer (some ⟨g, 0, none⟩), .int .i64 20] rfl att12_0_5 ?_; (with_reducible refine (spec_l1Below.calls g s0_0 t354 t355 20 t357 t358 t359 w0 _ ?side1 ?side2 A3.out).mono ?_); (case side1 => repeat (first | (with_reducible first | exact HI0.out | apply IsS170.alloc | apply IsS170.drewN | apply IsS170.drew | apply IsS170.set_1 | apply IsS170.set_2 | refine IsS170.far ?_ NB0_347.out _ | refine IsS170.far ?_ NB0_356.out _) | exact HI0.out)); (case side2 => repeat (first | (with_reducible first | exact HB.out | apply below_alloc | apply pw_below_drewN | apply below_drew1 | refine below_set ?_ (IsS170.ge HI0.out) | refine below_set ?_ GE347.out | refine below_set ?_ GE356.out) | exact HB.out)); rintro e w58 ⟨rfl, hi, hb, hk⟩; refine ⟨_, rfl, ?_⟩; have n0_ := Aside0.mk (KeepBut.blk hk (g' := gb347) (o := .cells #[.slice none 0 0, .slice none 0 0] 30 (0, 0)) att12_0_4 NB347_0.out (by simp)); have n1_ := Aside0.mk (Kd.R_mono (Kd.R_keep (IsS170.apart (show IsS170 w0 _ g s0_0 t354 t355 from by repeat (first | (with_reducible first | exact HI0.out | apply IsS170.alloc | apply IsS170.drewN | apply IsS170.drew | apply IsS170.set_1 | apply IsS170.set_2 | refine IsS170.far ?_ NB0_347.out _ | refine IsS170.far ?_ NB0_356.out _) | exact HI0.out)) (by (with_reducible repeat (first | apply Kd.R_alloc | apply Kd.R_drewN | apply Kd.R_drew)); exact (Kd.R_mono (Kd.R_far (p := ⟨gb356, 1, none⟩) (Kd.R_far (p := ⟨gb356, 0, none⟩) (Kd.R_types HO350.out BK356.out (by decide)) (fun _ hk => hk.2) (.slice Ao53 t348.length co53)) (fun _ hk => hk.2) (.slice Ao57 t351.length co57)) (fun _ h_ => h_.1))) (by decide)) hk (fun _ h => h.2)) (fun _ h => h.1)); have n2_ := Aside0.mk (Kd.S_mono (Kd.S_keep (IsS170.apartS (show IsS170 w0 _ g s0_0 t354 t355 from by repeat (first | (with_reducible first | exact HI0.out | apply IsS170.alloc | apply IsS170.drewN | apply IsS170.drew | apply IsS170.set_1 | apply IsS170.set_2 | refine IsS170.far ?_ NB0_347.out _ | refine IsS170.far ?_ NB0_356.out _) | exact HI0.out)) (by (with_reducible repeat (first | apply Kd.S_alloc | apply Kd.S_drewN | apply Kd.S_drew)); exact (Kd.S_mono (Kd.S_far (p := ⟨gb356, 1, none⟩) (Kd.S_far (p := ⟨gb356, 0, none⟩) (Kd.S_types HO353.out BK356.out (by decide)) (fun _ hk => hk.2) (.slice Ao53 t348.length co53)) (fun _ hk => hk.2) (.slice Ao57 t351.length co57)) (fun _ h_ => h_.1))) (by decide)) hk (fun _ h => h.2)) (fun _ h => h.1)); have n3_ := Aside0.mk (KeepBut.blk hk (g' := gb356) (o := .cells #[.slice Ao53 t348.length co53, .slice Ao57 t351.length co57] 30 (0, 0)) (by (with_reducible repeat (first | refine blk_drewN ?_ _ | refine blk_drew ?_ | refine blk_alloc ?_ _)); refine blk_put (cs := #[.slice Ao53 t348.length co53, .slice none 0 0]) ?_ 1 _ rfl; (with_reducible repeat (first | refine blk_drewN ?_ _ | refine blk_drew ?_ | refine blk_alloc ?_ _)); refine blk_put (cs := #[.slice none 0 0, .slice none 0 0]) ?_ 0 _ rfl; (with_reducible repeat (first | refine blk_drewN ?_ _ | refine blk_drew ?_ | refine blk_alloc ?_ _)); exact BK356.out) NB356_0.out (by simp)); have n4_ := Aside0.mk (KeepBut.trans att12_0_1 hk (.inl rfl)); have n5_ := Aside0.mk (hb); have n6_ := Aside0.mk (hi); clear BK347; clear HO350; clear HO353; clear BK356; clear HK; clear HB; clear HI0; have BK347 := n0_; have HO350 := n1_; have HO353 := n2_; have BK356 := n3_; have HK := n4_; have HB := n5_; have HI0 := n6_; clear n0_ n1_ n2_ n3_ n4_ n5_ n6_; (try clear hb); (try clear hb2); (try clear hk); (try clear hi); have hcz59_0 : w58.cell? ⟨gb356, 0, none⟩ = some (.slice Ao53 t348.length co53) := (blk_cell BK356.out 0).trans rfl; have hcz59_1 : w58.cell? ⟨gb356, 1, none⟩ = some (.slice Ao57 t351.length co57) := (blk_cell BK356.out 1).trans rfl; have hfz59_0 := blk_frozen BK356.out 0; have hfz59_1 := blk_frozen BK356.out 1; have hnb60 := NB347_0.out; have hnc60 := NB0_347.out; have hcz61_0 : w58.cell? ⟨gb347, 0, none⟩ = some (.slice none 0 0) := (blk_cell BK347.out 0).trans rfl; have hcz61_1 : w58.cell? ⟨gb347, 1, none⟩ = some (.slice none 0 0) := (blk_cell BK347.out 1).trans rfl; have hfz61_0 := blk_frozen BK347.out 0; have hfz61_1 := blk_frozen BK347.out 1))
    refine bodyPost_ret (results_cell_row rfl _ _ gb347 30 #[.slice Ao53 t348.length co53, .slice none 0 0] (0, 0) _ rfl (by (with_reducible repeat (first | refine blk_drewN ?_ _ | refine blk_drew ?_ | refine blk_alloc ?_ _)); refine blk_put (cs := #[.slice Ao53 t348.length co53, .slice none 0 0]) ?_ 1 _ rfl; (with_reducible repeat (first | refine blk_drewN ?_ _ | refine blk_drew ?_ | refine blk_alloc ?_ _)); refine blk_put (cs := #[.slice none 0 0, .slice none 0 0]) ?_ 0 _ rfl; (with_reducible repeat (first | refine blk_drewN ?_ _ | refine blk_drew ?_ | refine blk_alloc ?_ _)); refine blk_far ?_ NB347_356.out _; (with_reducible repeat (first | refine blk_drewN ?_ _ | refine blk_drew ?_ | refine blk_alloc ?_ _)); exact BK347.out) Try.underlying30 rfl (by kernel_rfl)) rfl ?_
    exact ⟨_, _, by first | rfl | (simp [errW_none, errW_some] <;> rfl) | (simp [*, errW_none, errW_some] <;> rfl), by (with_reducible repeat (first | apply Kd.R_alloc | apply Kd.R_drewN | apply Kd.R_drew)); exact Kd.R_mono (Kd.R_far (p := ⟨gb347, 1, none⟩) (Kd.R_far (p := ⟨gb347, 0, none⟩) (Kd.R_far (p := ⟨gb356, 1, none⟩) (Kd.R_types (Kd.R_types HO350.out BK356.out (by decide)) BK347.out (by decide)) (fun _ hk => hk.1.2) (.slice none 0 0)) (fun _ hk => hk.2) (.slice Ao53 t348.length co53)) (fun _ hk => hk.2) (.slice none 0 0)) (fun _ hk => trivial), by first | exact Kd.S_nil _ _ _ _ _ | exact Kd.N_nil _ _ _ _ _ | exact Kd.V_nil _ _ _ _ _ | exact Kd.Q_nil _ _ _ _ _ | exact Kd.R_nil _ _ _ _ _, by repeat (first | (with_reducible first | exact HI0.out | apply IsS170.alloc | apply IsS170.drewN | apply IsS170.drew | apply IsS170.set_1 | apply IsS170.set_2 | refine IsS170.far ?_ NB0_347.out _ | refine IsS170.far ?_ NB0_356.out _) | exact HI0.out), by repeat (first | (with_reducible first | exact HB.out | apply below_alloc | apply pw_below_drewN | apply below_drew1 | refine below_set ?_ (IsS170.ge HI0.out) | refine below_set ?_ GE347.out | refine below_set ?_ GE356.out) | exact HB.out), att12_0_1⟩
   ·rw [if_neg c49] at H
    have c49b0 : (t357 == 2) = false := beq_eq_false_iff_ne.mpr c49
    have c49b1 : (t357 != 2) = true := bne_iff_ne.mpr c49
    by_cases c62 : t357 = 3
    ·rw [if_pos c62] at H
     have c62b0 : (t357 == 3) = true := beq_iff_eq.mpr c62
     have c62b1 : (t357 != 3) = false := bne_eq_false_iff_eq.mpr c62
     clear c62
     obtain ⟨y380, hy380⟩ : ∃ y_ : List Int, y_ = (([1, 1, 1] : List Int)) := ⟨_, rfl⟩
     replace H : (if t348.length + y380.length < 17592186044416 then (some ((t348 ++ y380), t351, t358, t359)) else (none)) = some (r1, r2, r3, r4) := by first | (rw [hy380]; with_reducible exact H) | (have H2_ := (Option.bind_some _ _).symm.trans H; rw [hy380]; with_reducible exact H2_) | (have H2_ := (Option.bind_some _ _).symm.trans H; with_reducible exact H2_) | with_reducible exact H | (rw [hy380]; exact H) | exact H
     have Ny380 := Aside0.mk hy380
     clear hy380
     by_cases c63 : t348.length + y380.length < 17592186044416
     ·rw [if_pos c63] at H
      have LMc63 := Aside0.mk c63
      clear c63
      obtain ⟨y383, hy383⟩ : ∃ y_ : List Int, y_ = (t348 ++ y380) := ⟨_, rfl⟩
      replace H : (some (y383, t351, t358, t359)) = some (r1, r2, r3, r4) := by first | (rw [hy383]; with_reducible exact H) | (have H2_ := (Option.bind_some _ _).symm.trans H; rw [hy383]; with_reducible exact H2_) | (have H2_ := (Option.bind_some _ _).symm.trans H; with_reducible exact H2_) | with_reducible exact H | (rw [hy383]; exact H) | exact H
      have Ny383 := Aside0.mk hy383
      clear hy383
      simp only [Option.some.injEq, Prod.mk.injEq] at H
      obtain ⟨rfl, rfl, rfl, rfl⟩ := H
      go_enter Try.func135, Try.ntmps135
      go_wp2_with (first | ((with_reducible refine gate_dst (N := 2) rfl ?_); refine box_event ?hg (N := 2) ?hd (cs := #[.slice none 0 0, .slice none 0 0]) (t := 30) ?hr ?_; (case hd => rfl); (case hg => rfl); (case hr => first | (go_simp; done) | (go_simp; rfl)); intro gb347 hg w64 hbox hb; have n0_ := Aside0.mk (IsS170.below att12_0_10 hb); have n1_ := Aside0.mk (KeepBut.trans att12_0_3 (KeepBut.of_below hb g none) (.inl rfl)); have n2_ := Aside0.mk (below_step att12_0_11 hb); have n3_ := Aside0.mk (hbox); have n4_ := Aside0.mk ((by rw [hg]; exact (keep_size (w := w) (g := g) (row := none) att12_0_3) : w.heap.size ≤ gb347)); have n5_ := Aside0.mk ((Nat.le_trans HW0.out (by rw [hg]; exact (keep_size (w := w) (g := g) (row := none) att12_0_3) : w.heap.size ≤ gb347) : w0.heap.size ≤ gb347)); have n6_ := Aside0.mk ((by rw [hg]; exact Nat.ne_of_lt (IsS170.lt (show IsS170 w0 _ g s0_0 s0_1 s0_2 from by repeat (first | (with_reducible first | exact HI0.out | apply IsS170.alloc | apply IsS170.drewN | apply IsS170.drew | apply IsS170.set_1 | apply IsS170.set_2) | exact HI0.out))) : g ≠ gb347)); have n7_ := Aside0.mk ((by rw [hg]; exact Nat.ne_of_gt (IsS170.lt (show IsS170 w0 _ g s0_0 s0_1 s0_2 from by repeat (first | (with_reducible first | exact HI0.out | apply IsS170.alloc | apply IsS170.drewN | apply IsS170.drew | apply IsS170.set_1 | apply IsS170.set_2) | exact HI0.out))) : gb347 ≠ g)); clear HI0; clear HK; clear HB; have HI0 := n0_; have HK := n1_; have HB := n2_; have BK347 := n3_; have GW347 := n4_; have GE347 := n5_; have NB0_347 := n6_; have NB347_0 := n7_; clear n0_ n1_ n2_ n3_ n4_ n5_ n6_ n7_; clear hb hbox hg) | ((with_reducible refine gate_callee (f := 181) rfl ?_); refine goesL_ (some 5) rfl rfl Try.func181 (by kernel_rfl) rfl #[.pointer (some ⟨g, 0, none⟩)] rfl att12_0_5 ?_; (with_reducible refine (spec_l1DrawRight.calls k g s0_0 s0_1 s0_2 t348 t351 t354 t355 w0 _ ?side1 ?side2 A2.out).mono ?_); (case side1 => repeat (first | (with_reducible first | exact HI0.out | apply IsS170.alloc | apply IsS170.drewN | apply IsS170.drew | apply IsS170.set_1 | apply IsS170.set_2 | refine IsS170.far ?_ NB0_347.out _) | exact HI0.out)); (case side2 => repeat (first | (with_reducible first | exact HB.out | apply below_alloc | apply pw_below_drewN | apply below_drew1 | refine below_set ?_ (IsS170.ge HI0.out) | refine below_set ?_ GE347.out) | exact HB.out)); rintro e w65 ⟨v349, v352, rfl, ho0, ho1, hi, hb, hk⟩; refine ⟨_, rfl, ?_⟩; have n0_ := Aside0.mk (KeepBut.blk hk (g' := gb347) (o := .cells #[.slice none 0 0, .slice none 0 0] 30 (0, 0)) att12_0_2 NB347_0.out (by simp)); have n1_ := Aside0.mk (Kd.R_lower ho0 (keep_size (w := w) (g := g) (row := none) att12_0_0)); have n2_ := Aside0.mk (Kd.S_lower ho1 (keep_size (w := w) (g := g) (row := none) att12_0_0)); have n3_ := Aside0.mk (KeepBut.trans att12_0_0 hk (.inl rfl)); have n4_ := Aside0.mk (hb); have n5_ := Aside0.mk (hi); clear BK347; clear HK; clear HB; clear HI0; have BK347 := n0_; have HO350 := n1_; have HO353 := n2_; have HK := n3_; have HB := n4_; have HI0 := n5_; clear n0_ n1_ n2_ n3_ n4_ n5_; (try clear hb); (try clear hb2); (try clear hk); (try clear hi); (try clear ho0); (try clear ho1)) | ((with_reducible refine gate_dst (N := 3) rfl ?_); refine box_event ?hg (N := 3) ?hd (cs := #[.slice none 0 0, .slice none 0 0]) (t := 30) ?hr ?_; (case hd => rfl); (case hg => rfl); (case hr => first | (go_simp; done) | (go_simp; rfl)); intro gb356 hg w66 hbox hb; have n0_ := Aside0.mk (Kd.R_below att12_0_6 hb); have n1_ := Aside0.mk (Kd.S_below att12_0_7 hb); have n2_ := Aside0.mk (IsS170.below att12_0_8 hb); have n3_ := Aside0.mk (blk_below (g := gb347) (o := .cells #[.slice none 0 0, .slice none 0 0] 30 (0, 0)) att12_0_2 hb); have n4_ := Aside0.mk (KeepBut.trans att12_0_0 (KeepBut.of_below hb g none) (.inl rfl)); have n5_ := Aside0.mk (below_step att12_0_9 hb); have n6_ := Aside0.mk (hbox); have n7_ := Aside0.mk ((by rw [hg]; exact (keep_size (w := w) (g := g) (row := none) att12_0_0) : w.heap.size ≤ gb356)); have n8_ := Aside0.mk ((Nat.le_trans HW0.out (by rw [hg]; exact (keep_size (w := w) (g := g) (row := none) att12_0_0) : w.heap.size ≤ gb356) : w0.heap.size ≤ gb356)); have n9_ := Aside0.mk ((by rw [hg]; exact Nat.ne_of_lt (blk_lt (g := gb347) (o := .cells #[.slice none 0 0, .slice none 0 0] 30 (0, 0)) att12_0_2) : gb347 ≠ gb356)); have n10_ := Aside0.mk ((by rw [hg]; exact Nat.ne_of_gt (blk_lt (g := gb347) (o := .cells #[.slice none 0 0, .slice none 0 0] 30 (0, 0)) att12_0_2) : gb356 ≠ gb347)); have n11_ := Aside0.mk ((by rw [hg]; exact Nat.ne_of_lt (IsS170.lt (show IsS170 w0 _ g s0_0 t354 t355 from by repeat (first | (with_reducible first | exact HI0.out | apply IsS170.alloc | apply IsS170.drewN | apply IsS170.drew | apply IsS170.set_1 | apply IsS170.set_2 | refine IsS170.far ?_ NB0_347.out _) | exact HI0.out))) : g ≠ gb356)); have n12_ := Aside0.mk ((by rw [hg]; exact Nat.ne_of_gt (IsS170.lt (show IsS170 w0 _ g s0_0 t354 t355 from by repeat (first | (with_reducible first | exact HI0.out | apply IsS170.alloc | apply IsS170.drewN | apply IsS170.drew | apply IsS170.set_1 | apply IsS170.set_2 | refine IsS170.far ?_ NB0_347.out _) | exact HI0.out))) : gb356 ≠ g)); clear HO350; clear HO353; clear HI0; clear BK347; clear HK; clear HB; have HO350 := n0_; have HO353 := n1_; have HI0 := n2_; have BK347 := n3_; have HK := n4_; have HB := n5_; have BK356 := n6_; have GW356 := n7_; have GE356 := n8_; have NB347_356 := n9_; have NB356_347 := n10_; have NB0_356 := n11_; have NB356_0 := n12_; clear n0_ n1_ n2_ n3_ n4_ n5_ n6_ n7_ n8_ n9_ n10_ n11_ n12_; clear hb hbox hg; obtain ⟨Ao67, co67, eo67⟩ := Kd.R_slice HO350.out; subst eo67; have hnb68 := NB356_347.out; have hnc68 := NB347_356.out; have hnb69 := NB356_0.out; have hnc69 := NB0_356.out; have hcz70_0 : w66.cell? ⟨gb356, 0, none⟩ = some (.slice none 0 0) := (blk_cell BK356.out 0).trans rfl; have hcz70_1 : w66.cell? ⟨gb356, 1, none⟩ = some (.slice none 0 0) := (blk_cell BK356.out 1).trans rfl; have hfz70_0 := blk_frozen BK356.out 0; have hfz70_1 := blk_frozen BK356.out 1; obtain ⟨Ao71, co71, eo71⟩ := Kd.S_slice HO353.out; subst eo71) | ((with_reducible refine gate_callee (f := 97) rfl ?_); refine goesL_ (some 7) rfl rfl Try.func97 (by kernel_rfl) rfl #[.pointer (some ⟨g, 0, none⟩), .int .i64 20] rfl att12_0_5 ?_; (with_reducible refine (spec_l1Below.calls g s0_0 t354 t355 20 t357 t358 t359 w0 _ ?side1 ?side2 A3.out).mono ?_); (case side1 => repeat (first | (with_reducible first | exact HI0.out | apply IsS170.alloc | apply IsS170.drewN | apply IsS170.drew | apply IsS170.set_1 | apply IsS170.set_2 | refine IsS170.far ?_ NB0_347.out _ | refine IsS170.far ?_ NB0_356.out _) | exact HI0.out)); (case side2 => repeat (first | (with_reducible first | exact HB.out | apply below_alloc | apply pw_below_drewN | apply below_drew1 | refine below_set ?_ (IsS170.ge HI0.out) | refine below_set ?_ GE347.out | refine below_set ?_ GE356.out) | exact HB.out)); rintro e w72 ⟨rfl, hi, hb, hk⟩; refine ⟨_, rfl, ?_⟩; have n0_ := Aside0.mk (KeepBut.blk hk (g' := gb347) (o := .cells #[.slice none 0 0, .slice none 0 0] 30 (0, 0)) att12_0_4 NB347_0.out (by simp)); have n1_ := Aside0.mk (Kd.R_mono (Kd.R_keep (IsS170.apart (show IsS170 w0 _ g s0_0 t354 t355 from by repeat (first | (with_reducible first | exact HI0.out | apply IsS170.alloc | apply IsS170.drewN | apply IsS170.drew | apply IsS170.set_1 | apply IsS170.set_2 | refine IsS170.far ?_ NB0_347.out _ | refine IsS170.far ?_ NB0_356.out _) | exact HI0.out)) (by (with_reducible repeat (first | apply Kd.R_alloc | apply Kd.R_drewN | apply Kd.R_drew)); exact (Kd.R_mono (Kd.R_far (p := ⟨gb356, 1, none⟩) (Kd.R_far (p := ⟨gb356, 0, none⟩) (Kd.R_types HO350.out BK356.out (by decide)) (fun _ hk => hk.2) (.slice Ao67 t348.length co67)) (fun _ hk => hk.2) (.slice Ao71 t351.length co71)) (fun _ h_ => h_.1))) (by decide)) hk (fun _ h => h.2)) (fun _ h => h.1)); have n2_ := Aside0.mk (Kd.S_mono (Kd.S_keep (IsS170.apartS (show IsS170 w0 _ g s0_0 t354 t355 from by repeat (first | (with_reducible first | exact HI0.out | apply IsS170.alloc | apply IsS170.drewN | apply IsS170.drew | apply IsS170.set_1 | apply IsS170.set_2 | refine IsS170.far ?_ NB0_347.out _ | refine IsS170.far ?_ NB0_356.out _) | exact HI0.out)) (by (with_reducible repeat (first | apply Kd.S_alloc | apply Kd.S_drewN | apply Kd.S_drew)); exact (Kd.S_mono (Kd.S_far (p := ⟨gb356, 1, none⟩) (Kd.S_far (p := ⟨gb356, 0, none⟩) (Kd.S_types HO353.out BK356.out (by decide)) (fun _ hk => hk.2) (.slice Ao67 t348.length co67)) (fun _ hk => hk.2) (.slice Ao71 t351.length co71)) (fun _ h_ => h_.1))) (by decide)) hk (fun _ h => h.2)) (fun _ h => h.1)); have n3_ := Aside0.mk (KeepBut.blk hk (g' := gb356) (o := .cells #[.slice Ao67 t348.length co67, .slice Ao71 t351.length co71] 30 (0, 0)) (by (with_reducible repeat (first | refine blk_drewN ?_ _ | refine blk_drew ?_ | refine blk_alloc ?_ _)); refine blk_put (cs := #[.slice Ao67 t348.length co67, .slice none 0 0]) ?_ 1 _ rfl; (with_reducible repeat (first | refine blk_drewN ?_ _ | refine blk_drew ?_ | refine blk_alloc ?_ _)); refine blk_put (cs := #[.slice none 0 0, .slice none 0 0]) ?_ 0 _ rfl; (with_reducible repeat (first | refine blk_drewN ?_ _ | refine blk_drew ?_ | refine blk_alloc ?_ _)); exact BK356.out) NB356_0.out (by simp)); have n4_ := Aside0.mk (KeepBut.trans att12_0_1 hk (.inl rfl)); have n5_ := Aside0.mk (hb); have n6_ := Aside0.mk (hi); clear BK347; clear HO350; clear HO353; clear BK356; clear HK; clear HB; clear HI0; have BK347 := n0_; have HO350 := n1_; have HO353 := n2_; have BK356 := n3_; have HK := n4_; have HB := n5_; have HI0 := n6_; clear n0_ n1_ n2_ n3_ n4_ n5_ n6_; (try clear hb); (try clear hb2); (try clear hk); (try clear hi); have hcz73_0 : w72.cell? ⟨gb356, 0, none⟩ = some (.slice Ao67 t348.length co67) := (blk_cell BK356.out 0).trans rfl; have hcz73_1 : w72.cell? ⟨gb356, 1, none⟩ = some (.slice Ao71 t351.length co71) := (blk_cell BK356.out 1).trans rfl; have hfz73_0 := blk_frozen BK356.out 0; have hfz73_1 := blk_frozen BK356.out 1) | ((with_reducible refine gate_dst (N := 38) rfl ?_); refine Kd.R_lit (Kd.int .i64) _ 3 ?hg (N := 38) ?hd (xs := ([1, 1, 1] : List Int)) (inner := [.int .i64 1, .int .i64 1, .int .i64 1]) (ok := fun _ => True) (okp := fun _ => True) ?hr ?hp (fun _ hk => hk) trivial (Below.refl _ _) (Nat.le_refl _) (by simp) ?_; (case hd => rfl); (case hg => rfl); (case hr => first | (go_simp; done) | (go_simp; rfl)); (case hp => exact (Reps.one (show Kd.M (Kd.int .i64) _ _ _ 1 [.int .i64 1] from rfl) (Reps.one (show Kd.M (Kd.int .i64) _ _ _ 1 [.int .i64 1] from rfl) (Reps.one (show Kd.M (Kd.int .i64) _ _ _ 1 [.int .i64 1] from rfl) (Reps.none _ _))))); intro v381 w74 ho75 hb hg_ hnew_; clear hg_ hnew_; (first | rw [← Ny380.out] at ho75 | (simp only [Int.reduceToNat] at ho75; rw [← Ny380.out] at ho75)); have n0_ := Aside0.mk (Kd.R_elder' att12_0_6 (Kd.R_base ho75) hb); have n1_ := Aside0.mk (Kd.S_below att12_0_7 hb); have n2_ := Aside0.mk (Kd.R_lower (Kd.R_new' ho75 (Kd.R_lt att12_0_6)) (keep_size (w := w) (g := g) (row := none) att12_0_1)); have n3_ := Aside0.mk (IsS170.below att12_0_12 hb); have n4_ := Aside0.mk (blk_below (g := gb347) (o := .cells #[.slice none 0 0, .slice none 0 0] 30 (0, 0)) att12_0_2 hb); have n5_ := Aside0.mk (blk_below (g := gb356) (o := .cells #[.slice Ao67 t348.length co67, .slice Ao71 t351.length co71] 30 (0, 0)) att12_0_14 hb); have n6_ := Aside0.mk (KeepBut.trans att12_0_1 (KeepBut.of_below hb g none) (.inl rfl)); have n7_ := Aside0.mk (below_step att12_0_13 hb); clear HO350; clear HO353; clear HI0; clear BK347; clear BK356; clear HK; clear HB; have HO350 := n0_; have HO353 := n1_; have HO382 := n2_; have HI0 := n3_; have BK347 := n4_; have BK356 := n5_; have HK := n6_; have HB := n7_; clear n0_ n1_ n2_ n3_ n4_ n5_ n6_ n7_; clear hb ho75; obtain ⟨Ao77, co77, eo77⟩ := Kd.R_slice HO382.out; subst eo77) | ((with_reducible refine gate_builtin (b := .append) (xs := #[.tmp 37, .tmp 38]) rfl ?_); at_builtin; refine Kd.R_append_rows (Kd.int .i64) w.heap.size rfl (.tmp 37) (.tmp 38) 22 3 (.int .i64 0) 8 rfl Try.underlying22 info3 rfl (by decide) (by omega) (.slice Ao67 t348.length co67) t348 y380 _ _ _ (fun k_ => some k_ ≠ (.slice Ao77 y380.length co77 : Value).ownBlock) (fun _ => False) rfl rfl ?aO ?aR (fun _ _ h => h) (fun _ h => h.elim) ?aF (Below.refl _ _) ?aS ?aL ?_; (case aR => repeat (first | exact (Kd.R_reads' HO382.out).2.2 | (with_reducible refine Kd.C_alloc ?_ _) | (with_reducible refine Kd.C_drewN ?_ _) | (with_reducible refine Kd.C_drew ?_))); (case aF => exact (fun k_ hk => Kd.fresh' (Kd.R_lt att12_0_18) k_ hk)); (case aO => exact (by (with_reducible repeat (first | apply Kd.R_alloc | apply Kd.R_drewN | apply Kd.R_drew)); exact Kd.R_mono HO350.out (fun _ hk => hk.2))); (case aS => exact (keep_size (w := w) (g := g) (row := none) att12_0_1)); (case aL => have := LMc63.out; omega); intro v384 w76 ho hb hg hat; rw [← Ny383.out] at ho; have n0_ := Aside0.mk (IsS170.grown att12_0_12 hg (IsS170.own_ne HI0.out HO350.out (by decide))); have n1_ := Aside0.mk (blk_grown (g := gb347) (o := .cells #[.slice none 0 0, .slice none 0 0] 30 (0, 0)) att12_0_2 hg (Kd.R_ne HO350.out BK347.out (by decide))); have n2_ := Aside0.mk (Kd.S_over' att12_0_7 (Kd.R_typed att12_0_6) (by decide) hg); have n3_ := Aside0.mk (blk_grown (g := gb356) (o := .cells #[.slice Ao67 t348.length co67, .slice Ao71 t351.length co71] 30 (0, 0)) att12_0_14 hg (Kd.R_ne HO350.out BK356.out (by decide))); have n4_ := Aside0.mk (Kd.R_after (ok := (fun _ => True)) att12_0_18 hg hat); have n5_ := Aside0.mk (below_weaken att12_0_13 HL.out hb); have n6_ := Aside0.mk (KeepBut.trans att12_0_1 (KeepBut.of_grown hg g) (Kd.R_base2 HO350.out)); have n7_ := Aside0.mk (ho); clear HI0; clear BK347; clear HO353; clear BK356; clear HO382; clear HB; clear HK; clear HO350; have HI0 := n0_; have BK347 := n1_; have HO353 := n2_; have BK356 := n3_; have HO382 := n4_; have HB := n5_; have HK := n6_; have HO385 := n7_; clear n0_ n1_ n2_ n3_ n4_ n5_ n6_ n7_; clear ho hb hg hat; obtain ⟨Ao78, co78, eo78⟩ := Kd.R_slice HO385.out; subst eo78; have hcz79_0 : w76.cell? ⟨gb356, 0, none⟩ = some (.slice Ao67 t348.length co67) := (blk_cell BK356.out 0).trans rfl; have hcz79_1 : w76.cell? ⟨gb356, 1, none⟩ = some (.slice Ao71 t351.length co71) := (blk_cell BK356.out 1).trans rfl; have hfz79_0 := blk_frozen BK356.out 0; have hfz79_1 := blk_frozen BK356.out 1; have hnb80 := NB347_0.out; have hnc80 := NB0_347.out; have hcz81_0 : w76.cell? ⟨gb347, 0, none⟩ = some (.slice none 0 0) := (blk_cell BK347.out 0).trans rfl; have hcz81_1 : w76.cell? ⟨gb347, 1, none⟩ = some (.slice none 0 0) := (blk_cell BK347.out 1).trans rfl; have hfz81_0 := blk_frozen BK347.out 0; have hfz81_1 := blk_frozen BK347.out 1))
      refine bodyPost_ret (results_cell_row rfl _ _ gb347 30 #[.slice Ao78 y383.length co78, .slice Ao71 t351.length co71] (0, 0) _ rfl (by (with_reducible repeat (first | refine blk_drewN ?_ _ | refine blk_drew ?_ | refine blk_alloc ?_ _)); refine blk_put (cs := #[.slice Ao78 y383.length co78, .slice none 0 0]) ?_ 1 _ rfl; (with_reducible repeat (first | refine blk_drewN ?_ _ | refine blk_drew ?_ | refine blk_alloc ?_ _)); refine blk_put (cs := #[.slice none 0 0, .slice none 0 0]) ?_ 0 _ rfl; (with_reducible repeat (first | refine blk_drewN ?_ _ | refine blk_drew ?_ | refine blk_alloc ?_ _)); refine blk_far ?_ NB347_356.out _; (with_reducible repeat (first | refine blk_drewN ?_ _ | refine blk_drew ?_ | refine blk_alloc ?_ _)); exact BK347.out) Try.underlying30 rfl (by kernel_rfl)) rfl ?_
      exact ⟨_, _, by first | rfl | (simp [errW_none, errW_some] <;> rfl) | (simp [*, errW_none, errW_some] <;> rfl), by (with_reducible repeat (first | apply Kd.R_alloc | apply Kd.R_drewN | apply Kd.R_drew)); exact Kd.R_mono (Kd.R_far (p := ⟨gb347, 1, none⟩) (Kd.R_far (p := ⟨gb347, 0, none⟩) (Kd.R_far (p := ⟨gb356, 0, none⟩) (Kd.R_types (Kd.R_types HO385.out BK356.out (by decide)) BK347.out (by decide)) (fun _ hk => hk.1.2) (.slice Ao78 y383.length co78)) (fun _ hk => hk.2) (.slice Ao78 y383.length co78)) (fun _ hk => hk.2) (.slice Ao71 t351.length co71)) (fun _ hk => trivial), by (with_reducible repeat (first | apply Kd.S_alloc | apply Kd.S_drewN | apply Kd.S_drew)); exact Kd.S_mono (Kd.S_far (p := ⟨gb347, 1, none⟩) (Kd.S_far (p := ⟨gb347, 0, none⟩) (Kd.S_far (p := ⟨gb356, 0, none⟩) (Kd.S_types (Kd.S_types HO353.out BK356.out (by decide)) BK347.out (by decide)) (fun _ hk => hk.1.2) (.slice Ao78 y383.length co78)) (fun _ hk => hk.2) (.slice Ao78 y383.length co78)) (fun _ hk => hk.2) (.slice Ao71 t351.length co71)) (fun _ hk => trivial), by repeat (first | (with_reducible first | exact HI0.out | apply IsS170.alloc | apply IsS170.drewN | apply IsS170.drew | apply IsS170.set_1 | apply IsS170.set_2 | refine IsS170.far ?_ NB0_347.out _ | refine IsS170.far ?_ NB0_356.out _) | exact HI0.out), by repeat (first | (with_reducible first | exact HB.out | apply below_alloc | apply pw_below_drewN | apply below_drew1 | refine below_set ?_ (IsS170.ge HI0.out) | refine below_set ?_ GE347.out | refine below_set ?_ GE356.out) | exact HB.out), att12_0_1⟩
     ·rw [if_neg c63] at H
      exact absurd H (by simp)
    ·rw [if_neg c62] at H
     have c62b0 : (t357 == 3) = false := beq_eq_false_iff_ne.mpr c62
     have c62b1 : (t357 != 3) = true := bne_iff_ne.mpr c62
     simp only [Option.some.injEq, Prod.mk.injEq] at H
     obtain ⟨rfl, rfl, rfl, rfl⟩ := H
     go_enter Try.func135, Try.ntmps135
     go_wp2_with (first | ((with_reducible refine gate_dst (N := 2) rfl ?_); refine box_event ?hg (N := 2) ?hd (cs := #[.slice none 0 0, .slice none 0 0]) (t := 30) ?hr ?_; (case hd => rfl); (case hg => rfl); (case hr => first | (go_simp; done) | (go_simp; rfl)); intro gb347 hg w82 hbox hb; have n0_ := Aside0.mk (IsS170.below att12_0_10 hb); have n1_ := Aside0.mk (KeepBut.trans att12_0_3 (KeepBut.of_below hb g none) (.inl rfl)); have n2_ := Aside0.mk (below_step att12_0_11 hb); have n3_ := Aside0.mk (hbox); have n4_ := Aside0.mk ((by rw [hg]; exact (keep_size (w := w) (g := g) (row := none) att12_0_3) : w.heap.size ≤ gb347)); have n5_ := Aside0.mk ((Nat.le_trans HW0.out (by rw [hg]; exact (keep_size (w := w) (g := g) (row := none) att12_0_3) : w.heap.size ≤ gb347) : w0.heap.size ≤ gb347)); have n6_ := Aside0.mk ((by rw [hg]; exact Nat.ne_of_lt (IsS170.lt (show IsS170 w0 _ g s0_0 s0_1 s0_2 from by repeat (first | (with_reducible first | exact HI0.out | apply IsS170.alloc | apply IsS170.drewN | apply IsS170.drew | apply IsS170.set_1 | apply IsS170.set_2) | exact HI0.out))) : g ≠ gb347)); have n7_ := Aside0.mk ((by rw [hg]; exact Nat.ne_of_gt (IsS170.lt (show IsS170 w0 _ g s0_0 s0_1 s0_2 from by repeat (first | (with_reducible first | exact HI0.out | apply IsS170.alloc | apply IsS170.drewN | apply IsS170.drew | apply IsS170.set_1 | apply IsS170.set_2) | exact HI0.out))) : gb347 ≠ g)); clear HI0; clear HK; clear HB; have HI0 := n0_; have HK := n1_; have HB := n2_; have BK347 := n3_; have GW347 := n4_; have GE347 := n5_; have NB0_347 := n6_; have NB347_0 := n7_; clear n0_ n1_ n2_ n3_ n4_ n5_ n6_ n7_; clear hb hbox hg) | ((with_reducible refine gate_callee (f := 181) rfl ?_); refine goesL_ (some 5) rfl rfl Try.func181 (by kernel_rfl) rfl #[.pointer (some ⟨g, 0, none⟩)] rfl att12_0_5 ?_; (with_reducible refine (spec_l1DrawRight.calls k g s0_0 s0_1 s0_2 t348 t351 t354 t355 w0 _ ?side1 ?side2 A2.out).mono ?_); (case side1 => repeat (first | (with_reducible first | exact HI0.out | apply IsS170.alloc | apply IsS170.drewN | apply IsS170.drew | apply IsS170.set_1 | apply IsS170.set_2 | refine IsS170.far ?_ NB0_347.out _) | exact HI0.out)); (case side2 => repeat (first | (with_reducible first | exact HB.out | apply below_alloc | apply pw_below_drewN | apply below_drew1 | refine below_set ?_ (IsS170.ge HI0.out) | refine below_set ?_ GE347.out) | exact HB.out)); rintro e w83 ⟨v349, v352, rfl, ho0, ho1, hi, hb, hk⟩; refine ⟨_, rfl, ?_⟩; have n0_ := Aside0.mk (KeepBut.blk hk (g' := gb347) (o := .cells #[.slice none 0 0, .slice none 0 0] 30 (0, 0)) att12_0_2 NB347_0.out (by simp)); have n1_ := Aside0.mk (Kd.R_lower ho0 (keep_size (w := w) (g := g) (row := none) att12_0_0)); have n2_ := Aside0.mk (Kd.S_lower ho1 (keep_size (w := w) (g := g) (row := none) att12_0_0)); have n3_ := Aside0.mk (KeepBut.trans att12_0_0 hk (.inl rfl)); have n4_ := Aside0.mk (hb); have n5_ := Aside0.mk (hi); clear BK347; clear HK; clear HB; clear HI0; have BK347 := n0_; have HO350 := n1_; have HO353 := n2_; have HK := n3_; have HB := n4_; have HI0 := n5_; clear n0_ n1_ n2_ n3_ n4_ n5_; (try clear hb); (try clear hb2); (try clear hk); (try clear hi); (try clear ho0); (try clear ho1)) | ((with_reducible refine gate_dst (N := 3) rfl ?_); refine box_event ?hg (N := 3) ?hd (cs := #[.slice none 0 0, .slice none 0 0]) (t := 30) ?hr ?_; (case hd => rfl); (case hg => rfl); (case hr => first | (go_simp; done) | (go_simp; rfl)); intro gb356 hg w84 hbox hb; have n0_ := Aside0.mk (Kd.R_below att12_0_6 hb); have n1_ := Aside0.mk (Kd.S_below att12_0_7 hb); have n2_ := Aside0.mk (IsS170.below att12_0_8 hb); have n3_ := Aside0.mk (blk_below (g := gb347) (o := .cells #[.slice none 0 0, .slice none 0 0] 30 (0, 0)) att12_0_2 hb); have n4_ := Aside0.mk (KeepBut.trans att12_0_0 (KeepBut.of_below hb g none) (.inl rfl)); have n5_ := Aside0.mk (below_step att12_0_9 hb); have n6_ := Aside0.mk (hbox); have n7_ := Aside0.mk ((by rw [hg]; exact (keep_size (w := w) (g := g) (row := none) att12_0_0) : w.heap.size ≤ gb356)); have n8_ := Aside0.mk ((Nat.le_trans HW0.out (by rw [hg]; exact (keep_size (w := w) (g := g) (row := none) att12_0_0) : w.heap.size ≤ gb356) : w0.heap.size ≤ gb356)); have n9_ := Aside0.mk ((by rw [hg]; exact Nat.ne_of_lt (blk_lt (g := gb347) (o := .cells #[.slice none 0 0, .slice none 0 0] 30 (0, 0)) att12_0_2) : gb347 ≠ gb356)); have n10_ := Aside0.mk ((by rw [hg]; exact Nat.ne_of_gt (blk_lt (g := gb347) (o := .cells #[.slice none 0 0, .slice none 0 0] 30 (0, 0)) att12_0_2) : gb356 ≠ gb347)); have n11_ := Aside0.mk ((by rw [hg]; exact Nat.ne_of_lt (IsS170.lt (show IsS170 w0 _ g s0_0 t354 t355 from by repeat (first | (with_reducible first | exact HI0.out | apply IsS170.alloc | apply IsS170.drewN | apply IsS170.drew | apply IsS170.set_1 | apply IsS170.set_2 | refine IsS170.far ?_ NB0_347.out _) | exact HI0.out))) : g ≠ gb356)); have n12_ := Aside0.mk ((by rw [hg]; exact Nat.ne_of_gt (IsS170.lt (show IsS170 w0 _ g s0_0 t354 t355 from by repeat (first | (with_reducible first | exact HI0.out | apply IsS170.alloc | apply IsS170.drewN | apply IsS170.drew | apply IsS170.set_1 | apply IsS170.set_2 | refine IsS170.far ?_ NB0_347.out _) | exact HI0.out))) : gb356 ≠ g)); clear HO350; clear HO353; clear HI0; clear BK347; clear HK; clear HB; have HO350 := n0_; have HO353 := n1_; have HI0 := n2_; have BK347 := n3_; have HK := n4_; have HB := n5_; have BK356 := n6_; have GW356 := n7_; have GE356 := n8_; have NB347_356 := n9_; have NB356_347 := n10_; have NB0_356 := n11_; have NB356_0 := n12_; clear n0_ n1_ n2_ n3_ n4_ n5_ n6_ n7_ n8_ n9_ n10_ n11_ n12_; clear hb hbox hg; obtain ⟨Ao85, co85, eo85⟩ := Kd.R_slice HO350.out; subst eo85; have hnb86 := NB356_347.out; have hnc86 := NB347_356.out; have hnb87 := NB356_0.out; have hnc87 := NB0_356.out; have hcz88_0 : w84.cell? ⟨gb356, 0, none⟩ = some (.slice none 0 0) := (blk_cell BK356.out 0).trans rfl; have hcz88_1 : w84.cell? ⟨gb356, 1, none⟩ = some (.slice none 0 0) := (blk_cell BK356.out 1).trans rfl; have hfz88_0 := blk_frozen BK356.out 0; have hfz88_1 := blk_frozen BK356.out 1; obtain ⟨Ao89, co89, eo89⟩ := Kd.S_slice HO353.out; subst eo89) | ((with_reducible refine gate_callee (f := 97) rfl ?_); refine goesL_ (some 7) rfl rfl Try.func97 (by kernel_rfl) rfl #[.pointer (some ⟨g, 0, none⟩), .int .i64 20] rfl att12_0_5 ?_; (with_reducible refine (spec_l1Below.calls g s0_0 t354 t355 20 t357 t358 t359 w0 _ ?side1 ?side2 A3.out).mono ?_); (case side1 => repeat (first | (with_reducible first | exact HI0.out | apply IsS170.alloc | apply IsS170.drewN | apply IsS170.drew | apply IsS170.set_1 | apply IsS170.set_2 | refine IsS170.far ?_ NB0_347.out _ | refine IsS170.far ?_ NB0_356.out _) | exact HI0.out)); (case side2 => repeat (first | (with_reducible first | exact HB.out | apply below_alloc | apply pw_below_drewN | apply below_drew1 | refine below_set ?_ (IsS170.ge HI0.out) | refine below_set ?_ GE347.out | refine below_set ?_ GE356.out) | exact HB.out)); rintro e w90 ⟨rfl, hi, hb, hk⟩; refine ⟨_, rfl, ?_⟩; have n0_ := Aside0.mk (KeepBut.blk hk (g' := gb347) (o := .cells #[.slice none 0 0, .slice none 0 0] 30 (0, 0)) att12_0_4 NB347_0.out (by simp)); have n1_ := Aside0.mk (Kd.R_mono (Kd.R_keep (IsS170.apart (show IsS170 w0 _ g s0_0 t354 t355 from by repeat (first | (with_reducible first | exact HI0.out | apply IsS170.alloc | apply IsS170.drewN | apply IsS170.drew | apply IsS170.set_1 | apply IsS170.set_2 | refine IsS170.far ?_ NB0_347.out _ | refine IsS170.far ?_ NB0_356.out _) | exact HI0.out)) (by (with_reducible repeat (first | apply Kd.R_alloc | apply Kd.R_drewN | apply Kd.R_drew)); exact (Kd.R_mono (Kd.R_far (p := ⟨gb356, 1, none⟩) (Kd.R_far (p := ⟨gb356, 0, none⟩) (Kd.R_types HO350.out BK356.out (by decide)) (fun _ hk => hk.2) (.slice Ao85 t348.length co85)) (fun _ hk => hk.2) (.slice Ao89 t351.length co89)) (fun _ h_ => h_.1))) (by decide)) hk (fun _ h => h.2)) (fun _ h => h.1)); have n2_ := Aside0.mk (Kd.S_mono (Kd.S_keep (IsS170.apartS (show IsS170 w0 _ g s0_0 t354 t355 from by repeat (first | (with_reducible first | exact HI0.out | apply IsS170.alloc | apply IsS170.drewN | apply IsS170.drew | apply IsS170.set_1 | apply IsS170.set_2 | refine IsS170.far ?_ NB0_347.out _ | refine IsS170.far ?_ NB0_356.out _) | exact HI0.out)) (by (with_reducible repeat (first | apply Kd.S_alloc | apply Kd.S_drewN | apply Kd.S_drew)); exact (Kd.S_mono (Kd.S_far (p := ⟨gb356, 1, none⟩) (Kd.S_far (p := ⟨gb356, 0, none⟩) (Kd.S_types HO353.out BK356.out (by decide)) (fun _ hk => hk.2) (.slice Ao85 t348.length co85)) (fun _ hk => hk.2) (.slice Ao89 t351.length co89)) (fun _ h_ => h_.1))) (by decide)) hk (fun _ h => h.2)) (fun _ h => h.1)); have n3_ := Aside0.mk (KeepBut.blk hk (g' := gb356) (o := .cells #[.slice Ao85 t348.length co85, .slice Ao89 t351.length co89] 30 (0, 0)) (by (with_reducible repeat (first | refine blk_drewN ?_ _ | refine blk_drew ?_ | refine blk_alloc ?_ _)); refine blk_put (cs := #[.slice Ao85 t348.length co85, .slice none 0 0]) ?_ 1 _ rfl; (with_reducible repeat (first | refine blk_drewN ?_ _ | refine blk_drew ?_ | refine blk_alloc ?_ _)); refine blk_put (cs := #[.slice none 0 0, .slice none 0 0]) ?_ 0 _ rfl; (with_reducible repeat (first | refine blk_drewN ?_ _ | refine blk_drew ?_ | refine blk_alloc ?_ _)); exact BK356.out) NB356_0.out (by simp)); have n4_ := Aside0.mk (KeepBut.trans att12_0_1 hk (.inl rfl)); have n5_ := Aside0.mk (hb); have n6_ := Aside0.mk (hi); clear BK347; clear HO350; clear HO353; clear BK356; clear HK; clear HB; clear HI0; have BK347 := n0_; have HO350 := n1_; have HO353 := n2_; have BK356 := n3_; have HK := n4_; have HB := n5_; have HI0 := n6_; clear n0_ n1_ n2_ n3_ n4_ n5_ n6_; (try clear hb); (try clear hb2); (try clear hk); (try clear hi); have hcz91_0 : w90.cell? ⟨gb356, 0, none⟩ = some (.slice Ao85 t348.length co85) := (blk_cell BK356.out 0).trans rfl; have hcz91_1 : w90.cell? ⟨gb356, 1, none⟩ = some (.slice Ao89 t351.length co89) := (blk_cell BK356.out 1).trans rfl; have hfz91_0 := blk_frozen BK356.out 0; have hfz91_1 := blk_frozen BK356.out 1; have hnb92 := NB347_0.out; have hnc92 := NB0_347.out; have hcz93_0 : w90.cell? ⟨gb347, 0, none⟩ = some (.slice none 0 0) := (blk_cell BK347.out 0).trans rfl; have hcz93_1 : w90.cell? ⟨gb347, 1, none⟩ = some (.slice none 0 0) := (blk_cell BK347.out 1).trans rfl; have hfz93_0 := blk_frozen BK347.out 0; have hfz93_1 := blk_frozen BK347.out 1))
     refine bodyPost_ret (results_cell_row rfl _ _ gb347 30 #[.slice Ao85 t348.length co85, .slice Ao89 t351.length co89] (0, 0) _ rfl (by (with_reducible repeat (first | refine blk_drewN ?_ _ | refine blk_drew ?_ | refine blk_alloc ?_ _)); refine blk_put (cs := #[.slice Ao85 t348.length co85, .slice none 0 0]) ?_ 1 _ rfl; (with_reducible repeat (first | refine blk_drewN ?_ _ | refine blk_drew ?_ | refine blk_alloc ?_ _)); refine blk_put (cs := #[.slice none 0 0, .slice none 0 0]) ?_ 0 _ rfl; (with_reducible repeat (first | refine blk_drewN ?_ _ | refine blk_drew ?_ | refine blk_alloc ?_ _)); exact BK347.out) Try.underlying30 rfl (by kernel_rfl)) rfl ?_
     exact ⟨_, _, by first | rfl | (simp [errW_none, errW_some] <;> rfl) | (simp [*, errW_none, errW_some] <;> rfl), by (with_reducible repeat (first | apply Kd.R_alloc | apply Kd.R_drewN | apply Kd.R_drew)); exact Kd.R_mono (Kd.R_far (p := ⟨gb347, 1, none⟩) (Kd.R_far (p := ⟨gb347, 0, none⟩) (Kd.R_types HO350.out BK347.out (by decide)) (fun _ hk => hk.2) (.slice Ao85 t348.length co85)) (fun _ hk => hk.2) (.slice Ao89 t351.length co89)) (fun _ hk => trivial), by (with_reducible repeat (first | apply Kd.S_alloc | apply Kd.S_drewN | apply Kd.S_drew)); exact Kd.S_mono (Kd.S_far (p := ⟨gb347, 1, none⟩) (Kd.S_far (p := ⟨gb347, 0, none⟩) (Kd.S_types HO353.out BK347.out (by decide)) (fun _ hk => hk.2) (.slice Ao85 t348.length co85)) (fun _ hk => hk.2) (.slice Ao89 t351.length co89)) (fun _ hk => trivial), by repeat (first | (with_reducible first | exact HI0.out | apply IsS170.alloc | apply IsS170.drewN | apply IsS170.drew | apply IsS170.set_1 | apply IsS170.set_2 | refine IsS170.far ?_ NB0_347.out _ | refine IsS170.far ?_ NB0_356.out _) | exact HI0.out), by repeat (first | (with_reducible first | exact HB.out | apply below_alloc | apply pw_below_drewN | apply below_drew1 | refine below_set ?_ (IsS170.ge HI0.out) | refine below_set ?_ GE347.out | refine below_set ?_ GE356.out) | exact HB.out), att12_0_1⟩

end Go.Proofs.Ytonlhgkpmjefkaa.XFnPlaces
