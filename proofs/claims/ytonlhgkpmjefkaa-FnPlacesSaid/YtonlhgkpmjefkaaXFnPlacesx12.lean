/- Each Go function that the law reaches as a Lean function, and that Go comes to just its answer; written by this session's xprint.py over the kit's printer. -/
import Derived.Test.YtonlhgkpmjefkaaXFnPlacesx0
import Derived.Test.YtonlhgkpmjefkaaXFnPlacesx2
import Derived.Test.YtonlhgkpmjefkaaXFnPlacesx4
import Derived.Test.YtonlhgkpmjefkaaXFnPlacesx5
import Derived.Test.YtonlhgkpmjefkaaXFnPlacesx7
import Derived.Test.YtonlhgkpmjefkaaXFnPlacesx8
import Derived.Test.YtonlhgkpmjefkaaXFnPlacesx11
namespace Go.Proofs.Ytonlhgkpmjefkaa.XFnPlaces
open Go.RowKit Go.Proofs.YtonlhgkpmjefkaaW.PrintWords Go.Proofs.YtonlhgkpmjefkaaW.PrintLast Go.Proofs.YtonlhgkpmjefkaaW.PrintMore
attribute [local go_sem] max2_int min2_int max_two min_two max_three min_three max_four min_four   -- for this text's walks alone
set_option linter.unusedVariables false
set_option linter.unusedSimpArgs false

theorem att13_0_0 {p : Prop} (h : p := by repeat (first | (with_reducible first | exact HB.out | apply below_alloc | apply pw_below_drewN | apply below_drew1) | exact HB.out)) : p := h
theorem att13_0_1 {p : Prop} (h : p := by repeat (first | (with_reducible first | exact HB.out | apply below_alloc | apply pw_below_drewN | apply below_drew1 | refine below_set ?_ GE434.out) | exact HB.out)) : p := h
theorem att13_0_2 {p : Prop} (h : p := by (try simp only [List.map_toArray, List.map_cons, List.map_nil]); first | done | rfl | (simp only [List.length_drop, List.length_take]; rfl)) : p := h
theorem att13_0_3 {p : Prop} (h : p := by repeat (first | (with_reducible first | exact HB.out | apply below_alloc | apply pw_below_drewN | apply below_drew1 | refine below_set ?_ GE425.out) | exact HB.out)) : p := h
theorem att13_0_4 {p : Prop} (h : p := by (with_reducible repeat (first | refine blk_drewN ?_ _ | refine blk_drew ?_ | refine blk_alloc ?_ _)); refine blk_put (cs := #[.slice Ao9 t407.length co9, .slice none 0 0]) ?_ 1 _ rfl; (with_reducible repeat (first | refine blk_drewN ?_ _ | refine blk_drew ?_ | refine blk_alloc ?_ _)); refine blk_put (cs := #[.slice none 0 0, .slice none 0 0]) ?_ 0 _ rfl; (with_reducible repeat (first | refine blk_drewN ?_ _ | refine blk_drew ?_ | refine blk_alloc ?_ _)); exact BK414.out) : p := h
theorem att13_0_5 {p : Prop} (h : p := by (with_reducible repeat (first | refine blk_drewN ?_ _ | refine blk_drew ?_ | refine blk_alloc ?_ _)); exact BK386.out) : p := h
theorem att13_0_6 {p : Prop} (h : p := by repeat (first | (with_reducible first | exact HB.out | apply below_alloc | apply pw_below_drewN | apply below_drew1 | refine below_set ?_ (IsS170.ge HI390.out) | refine below_set ?_ GE386.out) | exact HB.out)) : p := h
theorem att13_0_7 {p : Prop} (h : p := by repeat (first | (with_reducible first | exact HB.out | apply below_alloc | apply pw_below_drewN | apply below_drew1 | refine below_set ?_ GE406.out) | exact HB.out)) : p := h
theorem att13_0_8 {p : Prop} (h : p := by (with_reducible repeat (first | refine blk_drewN ?_ _ | refine blk_drew ?_ | refine blk_alloc ?_ _)); exact BK434.out) : p := h
theorem att13_0_9 {p : Prop} (h : p := by (with_reducible repeat (first | refine blk_drewN ?_ _ | refine blk_drew ?_ | refine blk_alloc ?_ _)); refine blk_far ?_ NB406_414.out _; (with_reducible repeat (first | refine blk_drewN ?_ _ | refine blk_drew ?_ | refine blk_alloc ?_ _)); refine blk_far ?_ NB406_414.out _; (with_reducible repeat (first | refine blk_drewN ?_ _ | refine blk_drew ?_ | refine blk_alloc ?_ _)); exact BK406.out) : p := h
theorem att13_0_10 {p : Prop} (h : p := by first | (with_reducible assumption) | assumption) : p := h
theorem att13_0_11 {p : Prop} (h : p := by (with_reducible repeat (first | refine blk_drewN ?_ _ | refine blk_drew ?_ | refine blk_alloc ?_ _)); exact BK406.out) : p := h
theorem att13_0_12 {p : Prop} (h : p := by (with_reducible repeat (first | apply Kd.R_alloc | apply Kd.R_drewN | apply Kd.R_drew)); exact HO440.out) : p := h
theorem att13_0_13 {p : Prop} (h : p := by (with_reducible repeat (first | refine blk_drewN ?_ _ | refine blk_drew ?_ | refine blk_alloc ?_ _)); exact BK425.out) : p := h
theorem att13_0_14 {p : Prop} (h : p := by repeat (first | (with_reducible first | exact HB.out | apply below_alloc | apply pw_below_drewN | apply below_drew1 | refine below_set ?_ (IsS170.ge HI390.out) | refine below_set ?_ GE386.out | refine below_set ?_ GE399.out) | exact HB.out)) : p := h
theorem att13_0_15 {p : Prop} (h : p := by repeat (first | exact Drawn0.refl _ | apply Drawn0.step)) : p := h
theorem att13_0_16 {p : Prop} (h : p := by (with_reducible repeat (first | apply Kd.S_alloc | apply Kd.S_drewN | apply Kd.S_drew)); exact HO412.out) : p := h
theorem att13_0_17 {p : Prop} (h : p := by (with_reducible repeat (first | apply Kd.S_alloc | apply Kd.S_drewN | apply Kd.S_drew)); exact HO396.out) : p := h
theorem att13_0_18 {p : Prop} (h : p := by (with_reducible repeat (first | apply Kd.R_alloc | apply Kd.R_drewN | apply Kd.R_drew)); exact HO409.out) : p := h
theorem att13_0_19 {p : Prop} (h : p := by (with_reducible repeat (first | apply Kd.R_alloc | apply Kd.R_drewN | apply Kd.R_drew)); exact HO393.out) : p := h
theorem att13_0_20 {p : Prop} (h : p := by (with_reducible repeat (first | refine blk_drewN ?_ _ | refine blk_drew ?_ | refine blk_alloc ?_ _)); exact BK414.out) : p := h
theorem att13_0_21 {p : Prop} (h : p := by (with_reducible repeat (first | refine blk_drewN ?_ _ | refine blk_drew ?_ | refine blk_alloc ?_ _)); exact BK399.out) : p := h
/-! ### spec_DrawStarts: function 62 -/
def spec_DrawStarts.f (k : Nat) (l0 : List Int) : Option (List Int × (List (List (S37))) × Int) := (spec_l1New.f k l0).bind fun bt387 => ((spec_l1Draw.f k bt387.1 bt387.2.1 bt387.2.2).bind fun bt391 => ((spec_l1Below.f bt387.1 bt391.2.2.1 bt391.2.2.2 5).bind fun bt400 => ((spec_l1Below.f bt387.1 bt400.2.1 bt400.2.2 12).bind fun bt403 => (some (bt391.1, bt391.2.1, wrap64 (bt400.1 - (wrap64 (Int.tdiv bt403.1 11))))))))
theorem spec_DrawStarts.mono : ∀ a0 k, LeO (spec_DrawStarts.f k a0) (spec_DrawStarts.f (k + 1) a0) := by
 intro a0 k
 unfold spec_DrawStarts.f
 repeat' first
   | (with_reducible exact spec_l1Draw.mono _ _ _ _)
   | (with_reducible exact spec_l1New.mono _ _)
   | (with_reducible exact LeO.refl _)
   | (with_reducible exact LeO.none _)
   | (with_reducible refine LeO.ite ?_ ?_)
   | (with_reducible refine LeO.bind ?_ (fun _ => ?_))
   | exact spec_l1Draw.mono _ _ _ _
   | exact spec_l1New.mono _ _
   | exact LeO.none _
   | refine LeO.ite ?_ ?_
   | refine LeO.bind ?_ (fun _ => ?_)
def spec_DrawStarts.T3 : Bool × List (List Nat × List Nat) := (true, [([], []), ([], []), ([1], [1]), ([], []), ([3, 2], [3]), ([4], [4]), ([2, 5], [2, 5]), ([0, 4, 0], [0]), ([6, 7, 0, 1, 2, 3, 4, 5, 6, 7], [6])])
def spec_DrawStarts.B3 : List Nat := [0, 0, 2, 0, 14, 30, 62, 31, 255]
theorem spec_DrawStarts.tab3 : rtab .any (opsOf Try.f62 3) = spec_DrawStarts.T3 := by kernel_rfl
theorem spec_DrawStarts.bits3 : waitsOk spec_DrawStarts.T3.2 spec_DrawStarts.B3 = true := by kernel_rfl
set_option maxHeartbeats 80000000 in
set_option maxRecDepth 100000 in
theorem spec_DrawStarts.calls (k : Nat) (A0 : Option Addr) (c0 : Nat) (l0 : List Int) (r1 : List Int) (r2 : List (List (S37))) (r3 : Int) (w : World) (hr0 : Kd.C (Kd.int .u8) w A0 l0.length l0) (hc0 : l0.length ≤ c0) (h : spec_DrawStarts.f k l0 = some (r1, r2, r3)) :
  Calls Try.prog 62 #[.slice A0 l0.length c0] w fun e w' => ∃ v0_ v1_ : Value, e = .returned (.tuple #[.agg #[v0_, v1_], .int .i64 r3]) ∧ Kd.R (Kd.int .i64) 3 w' w.heap.size (fun _ => True) v0_ r1 ∧ Kd.S (Kd.slice 37 k37) 51 w' w.heap.size (fun _ => True) v1_ r2 ∧ Below w.heap.size w w' := by
 have hu30 := Try.underlying30
 have HR0 := Aside0.mk hr0
 have HC0 := Aside0.mk hc0
 clear hr0 hc0
 have HB := Aside0.mk (Below.refl w.heap.size w)
 have H : ((spec_l1New.f k l0).bind fun bt387 => ((spec_l1Draw.f k bt387.1 bt387.2.1 bt387.2.2).bind fun bt391 => ((spec_l1Below.f bt387.1 bt391.2.2.1 bt391.2.2.2 5).bind fun bt400 => ((spec_l1Below.f bt387.1 bt400.2.1 bt400.2.2 12).bind fun bt403 => (some (bt391.1, bt391.2.1, wrap64 (bt400.1 - (wrap64 (Int.tdiv bt403.1 11))))))))) = some (r1, r2, r3) := h
 clear h
 replace H := Option.bind_eq_some_iff.mp H
 obtain ⟨⟨t387, t388, t389⟩, A20, H⟩ := H
 replace H : ((spec_l1Draw.f k t387 t388 t389).bind fun bt391 => ((spec_l1Below.f t387 bt391.2.2.1 bt391.2.2.2 5).bind fun bt400 => ((spec_l1Below.f t387 bt400.2.1 bt400.2.2 12).bind fun bt403 => (some (bt391.1, bt391.2.1, wrap64 (bt400.1 - (wrap64 (Int.tdiv bt403.1 11)))))))) = some (r1, r2, r3) := H
 have A2 := Aside0.mk A20
 clear A20
 replace H := Option.bind_eq_some_iff.mp H
 obtain ⟨⟨t391, t394, t397, t398⟩, A30, H⟩ := H
 replace H : ((spec_l1Below.f t387 t397 t398 5).bind fun bt400 => ((spec_l1Below.f t387 bt400.2.1 bt400.2.2 12).bind fun bt403 => (some (t391, t394, wrap64 (bt400.1 - (wrap64 (Int.tdiv bt403.1 11))))))) = some (r1, r2, r3) := H
 have A3 := Aside0.mk A30
 clear A30
 replace H := Option.bind_eq_some_iff.mp H
 obtain ⟨⟨t400, t401, t402⟩, A40, H⟩ := H
 replace H : ((spec_l1Below.f t387 t401 t402 12).bind fun bt403 => (some (t391, t394, wrap64 (t400 - (wrap64 (Int.tdiv bt403.1 11)))))) = some (r1, r2, r3) := H
 have A4 := Aside0.mk A40
 clear A40
 replace H := Option.bind_eq_some_iff.mp H
 obtain ⟨⟨t403, t404, t405⟩, A50, H⟩ := H
 replace H : (some (t391, t394, wrap64 (t400 - (wrap64 (Int.tdiv t403 11))))) = some (r1, r2, r3) := H
 have A5 := Aside0.mk A50
 clear A50
 simp only [Option.some.injEq, Prod.mk.injEq] at H
 obtain ⟨rfl, rfl, rfl⟩ := H
 go_enter Try.func62, Try.ntmps62
 try go_wp2_with (first | ((with_reducible refine gate_dst (N := 2) rfl ?_); refine box_event ?hg (N := 2) ?hd (cs := #[.slice none 0 0, .slice none 0 0]) (t := 30) ?hr ?_; (case hd => rfl); (case hg => rfl); (case hr => first | (go_simp; done) | (go_simp; rfl)); intro gb386 hg w6 hbox hb; have n0_ := Aside0.mk (below_step att13_0_0 hb); have n1_ := Aside0.mk (hbox); have n2_ := Aside0.mk ((by rw [hg]; exact (below_size att13_0_0) : w.heap.size ≤ gb386)); have n3_ := Aside0.mk ((by rw [hg]; exact (below_size att13_0_0) : w.heap.size ≤ gb386)); clear HB; have HB := n0_; have BK386 := n1_; have GW386 := n2_; have GE386 := n3_; clear n0_ n1_ n2_ n3_; clear hb hbox hg) | ((with_reducible refine gate_callee (f := 92) rfl ?_); refine goesL_ (some 7) rfl rfl Try.func92 (by kernel_rfl) rfl #[.slice A0 l0.length c0] rfl att13_0_2 ?_; (with_reducible refine (spec_l1New.calls k _ _ l0 t387 t388 t389 w _ ?side1 ?side2 ?side3 A2.out).mono ?_); (case side1 => repeat (first | (with_reducible first | exact HB.out | apply below_alloc | apply pw_below_drewN | apply below_drew1 | refine below_set ?_ GE386.out) | exact HB.out)); (case side2 => exact HR0.out); (case side3 => exact HC0.out); rintro e w7 ⟨g390, rfl, hi, hb, hb2⟩; refine ⟨_, rfl, ?_⟩; have n0_ := Aside0.mk (blk_below (g := gb386) (o := .cells #[.slice none 0 0, .slice none 0 0] 30 (0, 0)) att13_0_5 hb2); have n1_ := Aside0.mk (hb); have n2_ := Aside0.mk (hi); have n3_ := Aside0.mk (IsS170.ne_blk hi (blk_below (g := gb386) (o := .cells #[.slice none 0 0, .slice none 0 0] 30 (0, 0)) att13_0_5 hb2) (by decide)); have n4_ := Aside0.mk (Ne.symm (IsS170.ne_blk hi (blk_below (g := gb386) (o := .cells #[.slice none 0 0, .slice none 0 0] 30 (0, 0)) att13_0_5 hb2) (by decide))); clear BK386; clear HB; have BK386 := n0_; have HB := n1_; have HI390 := n2_; have NB390_386 := n3_; have NB386_390 := n4_; clear n0_ n1_ n2_ n3_ n4_; (try clear hb); (try clear hb2); (try clear hk); (try clear hi)) | ((with_reducible refine gate_callee (f := 135) rfl ?_); refine goesL_ (some 9) rfl rfl Try.func135 (by kernel_rfl) rfl #[.pointer (some ⟨g390, 0, none⟩)] rfl att13_0_2 ?_; (with_reducible refine (spec_l1Draw.calls k g390 t387 t388 t389 t391 t394 t397 t398 w _ ?side1 ?side2 A3.out).mono ?_); (case side1 => repeat (first | (with_reducible first | exact HI390.out | apply IsS170.alloc | apply IsS170.drewN | apply IsS170.drew | apply IsS170.set_1 | apply IsS170.set_2 | refine IsS170.far ?_ NB390_386.out _) | exact HI390.out)); (case side2 => repeat (first | (with_reducible first | exact HB.out | apply below_alloc | apply pw_below_drewN | apply below_drew1 | refine below_set ?_ (IsS170.ge HI390.out) | refine below_set ?_ GE386.out) | exact HB.out)); rintro e w8 ⟨v392, v395, rfl, ho0, ho1, hi, hb, hk⟩; refine ⟨_, rfl, ?_⟩; have n0_ := Aside0.mk (KeepBut.blk hk (g' := gb386) (o := .cells #[.slice none 0 0, .slice none 0 0] 30 (0, 0)) att13_0_5 NB386_390.out (by simp)); have n1_ := Aside0.mk (Kd.R_lower ho0 (below_size att13_0_6)); have n2_ := Aside0.mk (Kd.S_lower ho1 (below_size att13_0_6)); have n3_ := Aside0.mk (hb); have n4_ := Aside0.mk (hi); clear BK386; clear HB; clear HI390; have BK386 := n0_; have HO393 := n1_; have HO396 := n2_; have HB := n3_; have HI390 := n4_; clear n0_ n1_ n2_ n3_ n4_; (try clear hb); (try clear hb2); (try clear hk); (try clear hi); (try clear ho0); (try clear ho1)) | ((with_reducible refine gate_dst (N := 5) rfl ?_); refine box_event ?hg (N := 5) ?hd (cs := #[.slice none 0 0, .slice none 0 0]) (t := 30) ?hr ?_; (case hd => rfl); (case hg => rfl); (case hr => first | (go_simp; done) | (go_simp; rfl)); intro gb399 hg w9 hbox hb; have n0_ := Aside0.mk (Kd.R_below att13_0_19 hb); have n1_ := Aside0.mk (Kd.S_below att13_0_17 hb); have n2_ := Aside0.mk (blk_below (g := gb386) (o := .cells #[.slice none 0 0, .slice none 0 0] 30 (0, 0)) att13_0_5 hb); have n3_ := Aside0.mk (IsS170.below (by repeat (first | (with_reducible first | exact HI390.out | apply IsS170.alloc | apply IsS170.drewN | apply IsS170.drew | apply IsS170.set_1 | apply IsS170.set_2 | refine IsS170.far ?_ NB390_386.out _) | exact HI390.out)) hb); have n4_ := Aside0.mk (below_step att13_0_6 hb); have n5_ := Aside0.mk (hbox); have n6_ := Aside0.mk ((by rw [hg]; exact (below_size att13_0_6) : w.heap.size ≤ gb399)); have n7_ := Aside0.mk ((by rw [hg]; exact (below_size att13_0_6) : w.heap.size ≤ gb399)); have n8_ := Aside0.mk ((by rw [hg]; exact Nat.ne_of_lt (blk_lt (g := gb386) (o := .cells #[.slice none 0 0, .slice none 0 0] 30 (0, 0)) att13_0_5) : gb386 ≠ gb399)); have n9_ := Aside0.mk ((by rw [hg]; exact Nat.ne_of_gt (blk_lt (g := gb386) (o := .cells #[.slice none 0 0, .slice none 0 0] 30 (0, 0)) att13_0_5) : gb399 ≠ gb386)); have n10_ := Aside0.mk ((by rw [hg]; exact Nat.ne_of_lt (IsS170.lt (show IsS170 w _ g390 t387 t397 t398 from by repeat (first | (with_reducible first | exact HI390.out | apply IsS170.alloc | apply IsS170.drewN | apply IsS170.drew | apply IsS170.set_1 | apply IsS170.set_2 | refine IsS170.far ?_ NB390_386.out _) | exact HI390.out))) : g390 ≠ gb399)); have n11_ := Aside0.mk ((by rw [hg]; exact Nat.ne_of_gt (IsS170.lt (show IsS170 w _ g390 t387 t397 t398 from by repeat (first | (with_reducible first | exact HI390.out | apply IsS170.alloc | apply IsS170.drewN | apply IsS170.drew | apply IsS170.set_1 | apply IsS170.set_2 | refine IsS170.far ?_ NB390_386.out _) | exact HI390.out))) : gb399 ≠ g390)); clear HO393; clear HO396; clear BK386; clear HI390; clear HB; have HO393 := n0_; have HO396 := n1_; have BK386 := n2_; have HI390 := n3_; have HB := n4_; have BK399 := n5_; have GW399 := n6_; have GE399 := n7_; have NB386_399 := n8_; have NB399_386 := n9_; have NB390_399 := n10_; have NB399_390 := n11_; clear n0_ n1_ n2_ n3_ n4_ n5_ n6_ n7_ n8_ n9_ n10_ n11_; clear hb hbox hg; obtain ⟨Ao10, co10, eo10⟩ := Kd.R_slice HO393.out; subst eo10; have hnb11 := NB399_386.out; have hnc11 := NB386_399.out; have hnb12 := NB399_390.out; have hnc12 := NB390_399.out; have hcz13_0 : w9.cell? ⟨gb399, 0, none⟩ = some (.slice none 0 0) := (blk_cell BK399.out 0).trans rfl; have hcz13_1 : w9.cell? ⟨gb399, 1, none⟩ = some (.slice none 0 0) := (blk_cell BK399.out 1).trans rfl; have hfz13_0 := blk_frozen BK399.out 0; have hfz13_1 := blk_frozen BK399.out 1; obtain ⟨Ao14, co14, eo14⟩ := Kd.S_slice HO396.out; subst eo14))
 have n0_ : Aside0 (Kd.R (Kd.int .i64) 3 ((w9.setCell ⟨gb399, 0, none⟩ (.slice Ao10 t391.length co10)).setCell ⟨gb399, 1, none⟩ (.slice Ao14 t394.length co14)) w.heap.size (fun _ => True) (.slice Ao10 t391.length co10) t391) := ⟨by (with_reducible repeat (first | apply Kd.R_alloc | apply Kd.R_drewN | apply Kd.R_drew)); exact Kd.R_mono (Kd.R_far (p := ⟨gb399, 1, none⟩) (Kd.R_far (p := ⟨gb399, 0, none⟩) (Kd.R_types HO393.out BK399.out (by decide)) (fun _ hk => hk.2) (.slice Ao10 t391.length co10)) (fun _ hk => hk.2) (.slice Ao14 t394.length co14)) (fun _ hk => trivial)⟩
 have n1_ : Aside0 (Kd.S (Kd.slice 37 k37) 51 ((w9.setCell ⟨gb399, 0, none⟩ (.slice Ao10 t391.length co10)).setCell ⟨gb399, 1, none⟩ (.slice Ao14 t394.length co14)) w.heap.size (fun _ => True) (.slice Ao14 t394.length co14) t394) := ⟨by (with_reducible repeat (first | apply Kd.S_alloc | apply Kd.S_drewN | apply Kd.S_drew)); exact Kd.S_mono (Kd.S_far (p := ⟨gb399, 1, none⟩) (Kd.S_far (p := ⟨gb399, 0, none⟩) (Kd.S_types HO396.out BK399.out (by decide)) (fun _ hk => hk.2) (.slice Ao10 t391.length co10)) (fun _ hk => hk.2) (.slice Ao14 t394.length co14)) (fun _ hk => trivial)⟩
 have n2_ : Aside0 (((w9.setCell ⟨gb399, 0, none⟩ (.slice Ao10 t391.length co10)).setCell ⟨gb399, 1, none⟩ (.slice Ao14 t394.length co14)).heap[gb386]? = some (.cells #[.slice none 0 0, .slice none 0 0] 30 (0, 0))) := ⟨by (with_reducible repeat (first | refine blk_drewN ?_ _ | refine blk_drew ?_ | refine blk_alloc ?_ _)); refine blk_far ?_ NB386_399.out _; (with_reducible repeat (first | refine blk_drewN ?_ _ | refine blk_drew ?_ | refine blk_alloc ?_ _)); refine blk_far ?_ NB386_399.out _; (with_reducible repeat (first | refine blk_drewN ?_ _ | refine blk_drew ?_ | refine blk_alloc ?_ _)); exact BK386.out⟩
 have n3_ : Aside0 (((w9.setCell ⟨gb399, 0, none⟩ (.slice Ao10 t391.length co10)).setCell ⟨gb399, 1, none⟩ (.slice Ao14 t394.length co14)).heap[gb399]? = some (.cells #[.slice Ao10 t391.length co10, .slice Ao14 t394.length co14] 30 (0, 0))) := ⟨by (with_reducible repeat (first | refine blk_drewN ?_ _ | refine blk_drew ?_ | refine blk_alloc ?_ _)); refine blk_put (cs := #[.slice Ao10 t391.length co10, .slice none 0 0]) ?_ 1 _ rfl; (with_reducible repeat (first | refine blk_drewN ?_ _ | refine blk_drew ?_ | refine blk_alloc ?_ _)); refine blk_put (cs := #[.slice none 0 0, .slice none 0 0]) ?_ 0 _ rfl; (with_reducible repeat (first | refine blk_drewN ?_ _ | refine blk_drew ?_ | refine blk_alloc ?_ _)); exact BK399.out⟩
 have n4_ : Aside0 (IsS170 w ((w9.setCell ⟨gb399, 0, none⟩ (.slice Ao10 t391.length co10)).setCell ⟨gb399, 1, none⟩ (.slice Ao14 t394.length co14)) g390 t387 t397 t398) := ⟨by repeat (first | (with_reducible first | exact HI390.out | apply IsS170.alloc | apply IsS170.drewN | apply IsS170.drew | apply IsS170.set_1 | apply IsS170.set_2 | refine IsS170.far ?_ NB390_386.out _ | refine IsS170.far ?_ NB390_399.out _) | exact HI390.out)⟩
 have n5_ : Aside0 (Below w.heap.size w ((w9.setCell ⟨gb399, 0, none⟩ (.slice Ao10 t391.length co10)).setCell ⟨gb399, 1, none⟩ (.slice Ao14 t394.length co14))) := ⟨att13_0_14⟩
 (try clear HO393)
 (try clear HO396)
 (try clear BK386)
 (try clear BK399)
 (try clear HI390)
 (try clear HB)
 generalize ((w9.setCell ⟨gb399, 0, none⟩ (.slice Ao10 t391.length co10)).setCell ⟨gb399, 1, none⟩ (.slice Ao14 t394.length co14)) = w15 at n0_ n1_ n2_ n3_ n4_ n5_ ⊢
 have HO393 := n0_
 have HO396 := n1_
 have BK386 := n2_
 have BK399 := n3_
 have HI390 := n4_
 have HB := n5_
 clear n0_ n1_ n2_ n3_ n4_ n5_
 have n0_ := Aside0.mk (Kd.R_drew HO393.out)
 have n1_ := Aside0.mk (Kd.S_drew HO396.out)
 have n2_ := Aside0.mk (blk_drew BK386.out)
 have n3_ := Aside0.mk (blk_drew BK399.out)
 have n4_ := Aside0.mk (IsS170.drew HI390.out)
 have n5_ := Aside0.mk (below_drew1 HB.out)
 clear HO393
 clear HO396
 clear BK386
 clear BK399
 clear HI390
 clear HB
 have HO393 := n0_
 have HO396 := n1_
 have BK386 := n2_
 have BK399 := n3_
 have HI390 := n4_
 have HB := n5_
 clear n0_ n1_ n2_ n3_ n4_ n5_
 refine start_ (n := 9) (S := fun w' => w'.cell? ⟨gb399, 0, none⟩ = some (.slice Ao10 t391.length co10) ∧ w'.cell? ⟨gb399, 1, none⟩ = some (.slice Ao14 t394.length co14)) (ds := []) (tf_ 0 9) (by kernel_rfl) rfl rfl ⟨(blk_cell BK399.out 0).trans rfl, (blk_cell BK399.out 1).trans rfl⟩ (fun hHeld => ?_); refine with_tabW spec_DrawStarts.tab3 spec_DrawStarts.bits3 (fun HT_ HW_ => ?_)
 generalize w15.drew = w16 at HO393 HO396 BK386 BK399 HI390 HB hHeld ⊢
 refine pure_ (i := 1) (N := some 11) (v := ?_) (a' := ?_) #[false, true, false, false, false, false, false, false, false] rfl rfl (any_of HT_.out (by kernel_rfl)) (fun _ _ _ h => h) (Or.inl ⟨by rfl, ?_⟩) ?_ ?_
 rotate_left
 ·intro w'
  go_simp
  with_reducible rfl
 rotate_left
 ·simp only [Act.put, List.setIfInBounds_toArray, List.set_cons_zero, List.set_cons_succ, i64_w, i32_w]
  rfl
 refine pure_ (i := 3) (N := some 13) (v := ?_) (a' := ?_) #[false, true, false, true, false, false, false, false, false] rfl rfl (any_of HT_.out (by kernel_rfl)) (fun _ _ _ h => h) (Or.inl ⟨by rfl, ?_⟩) ?_ ?_
 rotate_left
 ·intro w'
  go_simp
  with_reducible rfl
 rotate_left
 ·simp only [Act.put, List.setIfInBounds_toArray, List.set_cons_zero, List.set_cons_succ, i64_w, i32_w]
  rfl
 refine take_ (i := 0) (N := some 10) (v := ?_) (a' := ?_) #[true, true, false, true, false, false, false, false, false] rfl rfl (take_ofW HT_.out HW_.out (by kernel_rfl)) (fun _ _ _ h => h) (Or.inl ⟨by rfl, ?_⟩) hHeld ?_ ?_
 rotate_left
 ·rintro w' ⟨s0, s1⟩
  go_simp
  with_reducible rfl
 rotate_left
 ·simp only [Act.put, List.setIfInBounds_toArray, List.set_cons_zero, List.set_cons_succ, i64_w, i32_w]
  rfl
 refine one_ (i := 2) (N := some 12) (tf_ 4 5) rfl rfl (one_of HT_.out (by kernel_rfl)) (by decide) (fun K hK => ?_)
 refine goes_ Try.func97 (by kernel_rfl) rfl #[.pointer (some ⟨g390, 0, none⟩), .int .i64 5] (by rfl) rfl rfl att13_0_2 ?_
 with_reducible refine (spec_l1Below.calls g390 t387 t397 t398 5 t400 t401 t402 w _ ?side1 ?side2 A4.out).mono ?_
 (case side1 => repeat (first | (with_reducible first | exact HI390.out | apply IsS170.alloc | apply IsS170.drewN | apply IsS170.drew | apply IsS170.set_1 | apply IsS170.set_2 | refine IsS170.far ?_ NB390_386.out _ | refine IsS170.far ?_ NB390_399.out _) | exact HI390.out))
 (case side2 => repeat (first | (with_reducible first | exact HB.out | apply below_alloc | apply pw_below_drewN | apply below_drew1 | refine below_set ?_ (IsS170.ge HI390.out) | refine below_set ?_ GE386.out | refine below_set ?_ GE399.out) | exact HB.out))
 rintro e w17 ⟨rfl, hi, hb, hk⟩
 refine ⟨_, rfl, ?_⟩
 have n0_ := Aside0.mk (KeepBut.blk hk (g' := gb386) (o := .cells #[.slice none 0 0, .slice none 0 0] 30 (0, 0)) att13_0_5 NB386_390.out (by simp))
 have n1_ := Aside0.mk (Kd.R_mono (Kd.R_keep (IsS170.apart (show IsS170 w _ g390 t387 t397 t398 from by repeat (first | (with_reducible first | exact HI390.out | apply IsS170.alloc | apply IsS170.drewN | apply IsS170.drew | apply IsS170.set_1 | apply IsS170.set_2 | refine IsS170.far ?_ NB390_386.out _ | refine IsS170.far ?_ NB390_399.out _) | exact HI390.out)) att13_0_19 (by decide)) hk (fun _ h => h.2)) (fun _ h => h.1))
 have n2_ := Aside0.mk (Kd.S_mono (Kd.S_keep (IsS170.apartS (show IsS170 w _ g390 t387 t397 t398 from by repeat (first | (with_reducible first | exact HI390.out | apply IsS170.alloc | apply IsS170.drewN | apply IsS170.drew | apply IsS170.set_1 | apply IsS170.set_2 | refine IsS170.far ?_ NB390_386.out _ | refine IsS170.far ?_ NB390_399.out _) | exact HI390.out)) att13_0_17 (by decide)) hk (fun _ h => h.2)) (fun _ h => h.1))
 have n3_ := Aside0.mk (KeepBut.blk hk (g' := gb399) (o := .cells #[.slice Ao10 t391.length co10, .slice Ao14 t394.length co14] 30 (0, 0)) att13_0_21 NB399_390.out (by simp))
 have n4_ := Aside0.mk (hb)
 have n5_ := Aside0.mk (hi)
 clear BK386
 clear HO393
 clear HO396
 clear BK399
 clear HB
 clear HI390
 have BK386 := n0_
 have HO393 := n1_
 have HO396 := n2_
 have BK399 := n3_
 have HB := n4_
 have HI390 := n5_
 clear n0_ n1_ n2_ n3_ n4_ n5_
 (try clear hb)
 (try clear hb2)
 (try clear hk)
 (try clear hi)
 refine hK.out _ _ ⟨(blk_cell BK399.out 0).trans rfl, (blk_cell BK399.out 1).trans rfl⟩ (fun hHeld => ?_)
 clear hK K
 refine norm_ (a' := ?_) ?_ ?_
 rotate_left
 ·show Act.put _ (some 12) _ = _
  simp only [Act.put, List.setIfInBounds_toArray, List.set_cons_zero, List.set_cons_succ, i64_w, i32_w]
  rfl
 refine one_ (i := 4) (N := some 14) (tf_ 5 4) rfl rfl (one_of HT_.out (by kernel_rfl)) (by decide) (fun K hK => ?_)
 refine goes_ Try.func97 (by kernel_rfl) rfl #[.pointer (some ⟨g390, 0, none⟩), .int .i64 12] (by rfl) rfl rfl att13_0_2 ?_
 with_reducible refine (spec_l1Below.calls g390 t387 t401 t402 12 t403 t404 t405 w _ ?side1 ?side2 A5.out).mono ?_
 (case side1 => repeat (first | (with_reducible first | exact HI390.out | apply IsS170.alloc | apply IsS170.drewN | apply IsS170.drew | apply IsS170.set_1 | apply IsS170.set_2 | refine IsS170.far ?_ NB390_386.out _ | refine IsS170.far ?_ NB390_399.out _) | exact HI390.out))
 (case side2 => repeat (first | (with_reducible first | exact HB.out | apply below_alloc | apply pw_below_drewN | apply below_drew1 | refine below_set ?_ (IsS170.ge HI390.out) | refine below_set ?_ GE386.out | refine below_set ?_ GE399.out) | exact HB.out))
 rintro e w18 ⟨rfl, hi, hb, hk⟩
 refine ⟨_, rfl, ?_⟩
 have n0_ := Aside0.mk (KeepBut.blk hk (g' := gb386) (o := .cells #[.slice none 0 0, .slice none 0 0] 30 (0, 0)) att13_0_5 NB386_390.out (by simp))
 have n1_ := Aside0.mk (Kd.R_mono (Kd.R_keep (IsS170.apart (show IsS170 w _ g390 t387 t401 t402 from by repeat (first | (with_reducible first | exact HI390.out | apply IsS170.alloc | apply IsS170.drewN | apply IsS170.drew | apply IsS170.set_1 | apply IsS170.set_2 | refine IsS170.far ?_ NB390_386.out _ | refine IsS170.far ?_ NB390_399.out _) | exact HI390.out)) att13_0_19 (by decide)) hk (fun _ h => h.2)) (fun _ h => h.1))
 have n2_ := Aside0.mk (Kd.S_mono (Kd.S_keep (IsS170.apartS (show IsS170 w _ g390 t387 t401 t402 from by repeat (first | (with_reducible first | exact HI390.out | apply IsS170.alloc | apply IsS170.drewN | apply IsS170.drew | apply IsS170.set_1 | apply IsS170.set_2 | refine IsS170.far ?_ NB390_386.out _ | refine IsS170.far ?_ NB390_399.out _) | exact HI390.out)) att13_0_17 (by decide)) hk (fun _ h => h.2)) (fun _ h => h.1))
 have n3_ := Aside0.mk (KeepBut.blk hk (g' := gb399) (o := .cells #[.slice Ao10 t391.length co10, .slice Ao14 t394.length co14] 30 (0, 0)) att13_0_21 NB399_390.out (by simp))
 have n4_ := Aside0.mk (hb)
 have n5_ := Aside0.mk (hi)
 clear BK386
 clear HO393
 clear HO396
 clear BK399
 clear HB
 clear HI390
 have BK386 := n0_
 have HO393 := n1_
 have HO396 := n2_
 have BK399 := n3_
 have HB := n4_
 have HI390 := n5_
 clear n0_ n1_ n2_ n3_ n4_ n5_
 (try clear hb)
 (try clear hb2)
 (try clear hk)
 (try clear hi)
 refine hK.out _ _ ⟨(blk_cell BK399.out 0).trans rfl, (blk_cell BK399.out 1).trans rfl⟩ (fun hHeld => ?_)
 clear hK K
 refine norm_ (a' := ?_) ?_ ?_
 rotate_left
 ·show Act.put _ (some 14) _ = _
  simp only [Act.put, List.setIfInBounds_toArray, List.set_cons_zero, List.set_cons_succ, i64_w, i32_w]
  rfl
 refine pure_ (i := 5) (N := some 15) (v := ?_) (a' := ?_) (tf_ 6 3) rfl rfl (any_of HT_.out (by kernel_rfl)) (fun _ _ _ h => h) (Or.inl ⟨by rfl, ?_⟩) ?_ ?_
 rotate_left
 ·intro w'
  go_simp
  with_reducible rfl
 rotate_left
 ·simp only [Act.put, List.setIfInBounds_toArray, List.set_cons_zero, List.set_cons_succ, i64_w, i32_w]
  rfl
 refine pure_ (i := 6) (N := some 16) (v := ?_) (a' := ?_) (tf_ 7 2) rfl rfl (any_of HT_.out (by kernel_rfl)) (fun _ _ _ h => h) (Or.inl ⟨by rfl, ?_⟩) ?_ ?_
 rotate_left
 ·intro w'
  go_simp
  with_reducible rfl
 rotate_left
 ·simp only [Act.put, List.setIfInBounds_toArray, List.set_cons_zero, List.set_cons_succ, i64_w, i32_w]
  rfl
 refine one_ (i := 7) (N := none) (tf_ 8 1) rfl rfl (one_of HT_.out (by kernel_rfl)) (by decide) (fun K hK => ?_)
 have hs19 : w18.cell? ⟨gb386, 0, none⟩ = some (.slice none 0 0) := (blk_cell BK386.out 0).trans rfl
 have hfs19 := blk_frozen BK386.out 0
 have hns19_1 := NB399_386.out
 have hms19_1 := NB386_399.out
 have hs20 : w18.cell? ⟨gb386, 1, none⟩ = some (.slice none 0 0) := (blk_cell BK386.out 1).trans rfl
 have hfs20 := blk_frozen BK386.out 1
 have hns20_1 := NB399_386.out
 have hms20_1 := NB386_399.out
 refine skip_ (w1 := ?_) (by rfl) rfl ?_ ?_
 rotate_left
 ·go_simp
  rfl
 refine hK.out _ _ ⟨((cell_far (p := ⟨gb386, _, none⟩) NB399_386.out _).trans (((cell_far (p := ⟨gb386, _, none⟩) NB399_386.out _).trans (hHeld.1)))), ((cell_far (p := ⟨gb386, _, none⟩) NB399_386.out _).trans (((cell_far (p := ⟨gb386, _, none⟩) NB399_386.out _).trans (hHeld.2))))⟩ (fun hHeld => ?_)
 clear hK K
 refine pure_ (i := 8) (N := some 3) (v := ?_) (a' := ?_) (tf_ 9 0) rfl rfl (any_of HT_.out (by kernel_rfl)) (fun _ _ _ h => h) (Or.inl ⟨by rfl, ?_⟩) ?_ ?_
 rotate_left
 ·intro w'
  go_simp
  with_reducible rfl
 rotate_left
 ·simp only [Act.put, List.setIfInBounds_toArray, List.set_cons_zero, List.set_cons_succ, i64_w, i32_w]
  rfl
 refine done_ (done_of HT_.out (by kernel_rfl)) ?_
 try go_wp2
 refine bodyPost_ret (results_ct rfl _ _ gb386 30 #[.slice Ao10 t391.length co10, .slice Ao14 t394.length co14] (0, 0) _ rfl (by (with_reducible repeat (first | refine blk_drewN ?_ _ | refine blk_drew ?_ | refine blk_alloc ?_ _)); refine blk_put (cs := #[.slice Ao10 t391.length co10, .slice none 0 0]) ?_ 1 _ rfl; (with_reducible repeat (first | refine blk_drewN ?_ _ | refine blk_drew ?_ | refine blk_alloc ?_ _)); refine blk_put (cs := #[.slice none 0 0, .slice none 0 0]) ?_ 0 _ rfl; (with_reducible repeat (first | refine blk_drewN ?_ _ | refine blk_drew ?_ | refine blk_alloc ?_ _)); exact BK386.out) Try.underlying30 rfl (by kernel_rfl)) rfl ?_
 exact ⟨_, _, by first | rfl | (simp [errW_none, errW_some] <;> rfl) | (simp [*, errW_none, errW_some] <;> rfl), by (with_reducible repeat (first | apply Kd.R_alloc | apply Kd.R_drewN | apply Kd.R_drew)); exact Kd.R_mono (Kd.R_far (p := ⟨gb386, 1, none⟩) (Kd.R_far (p := ⟨gb386, 0, none⟩) (Kd.R_types HO393.out BK386.out (by decide)) (fun _ hk => hk.2) (.slice Ao10 t391.length co10)) (fun _ hk => hk.2) (.slice Ao14 t394.length co14)) (fun _ hk => trivial), by (with_reducible repeat (first | apply Kd.S_alloc | apply Kd.S_drewN | apply Kd.S_drew)); exact Kd.S_mono (Kd.S_far (p := ⟨gb386, 1, none⟩) (Kd.S_far (p := ⟨gb386, 0, none⟩) (Kd.S_types HO396.out BK386.out (by decide)) (fun _ hk => hk.2) (.slice Ao10 t391.length co10)) (fun _ hk => hk.2) (.slice Ao14 t394.length co14)) (fun _ hk => trivial), att13_0_14⟩

/-! ### spec_DrawPlaceOf: function 61 -/
def spec_DrawPlaceOf.f (k : Nat) (l0 : List Int) : Option (List Int × (List (List (S37))) × Int × Int) := (spec_DrawStarts.f k l0).bind fun bt407 => ((spec_l1New.f k l0).bind fun bt415 => ((spec_l1Below.f bt415.1 bt415.2.1 bt415.2.2 120).bind fun bt419 => ((spec_l1Below.f bt415.1 bt419.2.1 bt419.2.2 12).bind fun bt422 => (some (bt407.1, bt407.2.1, bt407.2.2, wrap64 (bt419.1 - (wrap64 (Int.tdiv bt422.1 11))))))))
theorem spec_DrawPlaceOf.mono : ∀ a0 k, LeO (spec_DrawPlaceOf.f k a0) (spec_DrawPlaceOf.f (k + 1) a0) := by
 intro a0 k
 unfold spec_DrawPlaceOf.f
 repeat' first
   | (with_reducible exact spec_DrawStarts.mono _ _)
   | (with_reducible exact spec_l1New.mono _ _)
   | (with_reducible exact LeO.refl _)
   | (with_reducible exact LeO.none _)
   | (with_reducible refine LeO.ite ?_ ?_)
   | (with_reducible refine LeO.bind ?_ (fun _ => ?_))
   | exact spec_DrawStarts.mono _ _
   | exact spec_l1New.mono _ _
   | exact LeO.none _
   | refine LeO.ite ?_ ?_
   | refine LeO.bind ?_ (fun _ => ?_)
def spec_DrawPlaceOf.T3 : Bool × List (List Nat × List Nat) := (true, [([], []), ([], []), ([], []), ([2], [2]), ([], []), ([4, 3], [4]), ([5], [5]), ([3, 6], [3, 6]), ([0, 5, 0], [0]), ([1, 8, 0, 1, 8], [1]), ([7, 9, 0, 1, 2, 3, 4, 5, 6, 7, 8, 9], [7])])
def spec_DrawPlaceOf.B3 : List Nat := [0, 0, 0, 4, 0, 28, 60, 124, 61, 319, 1023]
theorem spec_DrawPlaceOf.tab3 : rtab .any (opsOf Try.f61 3) = spec_DrawPlaceOf.T3 := by kernel_rfl
theorem spec_DrawPlaceOf.bits3 : waitsOk spec_DrawPlaceOf.T3.2 spec_DrawPlaceOf.B3 = true := by kernel_rfl
set_option maxHeartbeats 80000000 in
set_option maxRecDepth 100000 in
theorem spec_DrawPlaceOf.calls (k : Nat) (A0 : Option Addr) (c0 : Nat) (l0 : List Int) (r1 : List Int) (r2 : List (List (S37))) (r3 : Int) (r4 : Int) (w : World) (hr0 : Kd.C (Kd.int .u8) w A0 l0.length l0) (hc0 : l0.length ≤ c0) (h : spec_DrawPlaceOf.f k l0 = some (r1, r2, r3, r4)) :
  Calls Try.prog 61 #[.slice A0 l0.length c0] w fun e w' => ∃ v0_ v1_ : Value, e = .returned (.tuple #[.agg #[v0_, v1_], .int .i64 r3, .int .i64 r4]) ∧ Kd.R (Kd.int .i64) 3 w' w.heap.size (fun _ => True) v0_ r1 ∧ Kd.S (Kd.slice 37 k37) 51 w' w.heap.size (fun _ => True) v1_ r2 ∧ Below w.heap.size w w' := by
 have hu30 := Try.underlying30
 have HR0 := Aside0.mk hr0
 have HC0 := Aside0.mk hc0
 clear hr0 hc0
 have HB := Aside0.mk (Below.refl w.heap.size w)
 have H : ((spec_DrawStarts.f k l0).bind fun bt407 => ((spec_l1New.f k l0).bind fun bt415 => ((spec_l1Below.f bt415.1 bt415.2.1 bt415.2.2 120).bind fun bt419 => ((spec_l1Below.f bt415.1 bt419.2.1 bt419.2.2 12).bind fun bt422 => (some (bt407.1, bt407.2.1, bt407.2.2, wrap64 (bt419.1 - (wrap64 (Int.tdiv bt422.1 11))))))))) = some (r1, r2, r3, r4) := h
 clear h
 replace H := Option.bind_eq_some_iff.mp H
 obtain ⟨⟨t407, t410, t413⟩, A20, H⟩ := H
 replace H : ((spec_l1New.f k l0).bind fun bt415 => ((spec_l1Below.f bt415.1 bt415.2.1 bt415.2.2 120).bind fun bt419 => ((spec_l1Below.f bt415.1 bt419.2.1 bt419.2.2 12).bind fun bt422 => (some (t407, t410, t413, wrap64 (bt419.1 - (wrap64 (Int.tdiv bt422.1 11)))))))) = some (r1, r2, r3, r4) := H
 have A2 := Aside0.mk A20
 clear A20
 replace H := Option.bind_eq_some_iff.mp H
 obtain ⟨⟨t415, t416, t417⟩, A30, H⟩ := H
 replace H : ((spec_l1Below.f t415 t416 t417 120).bind fun bt419 => ((spec_l1Below.f t415 bt419.2.1 bt419.2.2 12).bind fun bt422 => (some (t407, t410, t413, wrap64 (bt419.1 - (wrap64 (Int.tdiv bt422.1 11))))))) = some (r1, r2, r3, r4) := H
 have A3 := Aside0.mk A30
 clear A30
 replace H := Option.bind_eq_some_iff.mp H
 obtain ⟨⟨t419, t420, t421⟩, A40, H⟩ := H
 replace H : ((spec_l1Below.f t415 t420 t421 12).bind fun bt422 => (some (t407, t410, t413, wrap64 (t419 - (wrap64 (Int.tdiv bt422.1 11)))))) = some (r1, r2, r3, r4) := H
 have A4 := Aside0.mk A40
 clear A40
 replace H := Option.bind_eq_some_iff.mp H
 obtain ⟨⟨t422, t423, t424⟩, A50, H⟩ := H
 replace H : (some (t407, t410, t413, wrap64 (t419 - (wrap64 (Int.tdiv t422 11))))) = some (r1, r2, r3, r4) := H
 have A5 := Aside0.mk A50
 clear A50
 simp only [Option.some.injEq, Prod.mk.injEq] at H
 obtain ⟨rfl, rfl, rfl, rfl⟩ := H
 go_enter Try.func61, Try.ntmps61
 try go_wp2_with (first | ((with_reducible refine gate_dst (N := 2) rfl ?_); refine box_event ?hg (N := 2) ?hd (cs := #[.slice none 0 0, .slice none 0 0]) (t := 30) ?hr ?_; (case hd => rfl); (case hg => rfl); (case hr => first | (go_simp; done) | (go_simp; rfl)); intro gb406 hg w6 hbox hb; have n0_ := Aside0.mk (below_step att13_0_0 hb); have n1_ := Aside0.mk (hbox); have n2_ := Aside0.mk ((by rw [hg]; exact (below_size att13_0_0) : w.heap.size ≤ gb406)); have n3_ := Aside0.mk ((by rw [hg]; exact (below_size att13_0_0) : w.heap.size ≤ gb406)); clear HB; have HB := n0_; have BK406 := n1_; have GW406 := n2_; have GE406 := n3_; clear n0_ n1_ n2_ n3_; clear hb hbox hg) | ((with_reducible refine gate_callee (f := 62) rfl ?_); refine goesL_ (some 10) rfl rfl Try.func62 (by kernel_rfl) rfl #[.slice A0 l0.length c0] rfl att13_0_2 ?_; (with_reducible refine (spec_DrawStarts.calls k _ _ l0 t407 t410 t413 _ ?side1 ?side2 A2.out).mono ?_); (case side1 => repeat (first | exact (Kd.C_below HR0.out HB.out) | (with_reducible refine Kd.C_alloc ?_ _) | (with_reducible refine Kd.C_drewN ?_ _) | (with_reducible refine Kd.C_drew ?_))); (case side2 => exact HC0.out); rintro e w7 ⟨v408, v411, rfl, ho0, ho1, hb⟩; refine ⟨_, rfl, ?_⟩; have n0_ := Aside0.mk (Kd.R_lower ho0 (below_size att13_0_7)); have n1_ := Aside0.mk (Kd.S_lower ho1 (below_size att13_0_7)); have n2_ := Aside0.mk (blk_below (g := gb406) (o := .cells #[.slice none 0 0, .slice none 0 0] 30 (0, 0)) att13_0_11 hb); have n3_ := Aside0.mk (below_step att13_0_7 hb); clear BK406; clear HB; have HO409 := n0_; have HO412 := n1_; have BK406 := n2_; have HB := n3_; clear n0_ n1_ n2_ n3_; (try clear hb); (try clear hb2); (try clear hk); (try clear hi); (try clear ho0); (try clear ho1)) | ((with_reducible refine gate_dst (N := 5) rfl ?_); refine box_event ?hg (N := 5) ?hd (cs := #[.slice none 0 0, .slice none 0 0]) (t := 30) ?hr ?_; (case hd => rfl); (case hg => rfl); (case hr => first | (go_simp; done) | (go_simp; rfl)); intro gb414 hg w8 hbox hb; have n0_ := Aside0.mk (Kd.R_below att13_0_18 hb); have n1_ := Aside0.mk (Kd.S_below att13_0_16 hb); have n2_ := Aside0.mk (blk_below (g := gb406) (o := .cells #[.slice none 0 0, .slice none 0 0] 30 (0, 0)) att13_0_11 hb); have n3_ := Aside0.mk (below_step att13_0_7 hb); have n4_ := Aside0.mk (hbox); have n5_ := Aside0.mk ((by rw [hg]; exact (below_size att13_0_7) : w.heap.size ≤ gb414)); have n6_ := Aside0.mk ((by rw [hg]; exact (below_size att13_0_7) : w.heap.size ≤ gb414)); have n7_ := Aside0.mk ((by rw [hg]; exact Nat.ne_of_lt (blk_lt (g := gb406) (o := .cells #[.slice none 0 0, .slice none 0 0] 30 (0, 0)) att13_0_11) : gb406 ≠ gb414)); have n8_ := Aside0.mk ((by rw [hg]; exact Nat.ne_of_gt (blk_lt (g := gb406) (o := .cells #[.slice none 0 0, .slice none 0 0] 30 (0, 0)) att13_0_11) : gb414 ≠ gb406)); clear HO409; clear HO412; clear BK406; clear HB; have HO409 := n0_; have HO412 := n1_; have BK406 := n2_; have HB := n3_; have BK414 := n4_; have GW414 := n5_; have GE414 := n6_; have NB406_414 := n7_; have NB414_406 := n8_; clear n0_ n1_ n2_ n3_ n4_ n5_ n6_ n7_ n8_; clear hb hbox hg; obtain ⟨Ao9, co9, eo9⟩ := Kd.R_slice HO409.out; subst eo9; have hnb10 := NB414_406.out; have hnc10 := NB406_414.out; have hcz11_0 : w8.cell? ⟨gb414, 0, none⟩ = some (.slice none 0 0) := (blk_cell BK414.out 0).trans rfl; have hcz11_1 : w8.cell? ⟨gb414, 1, none⟩ = some (.slice none 0 0) := (blk_cell BK414.out 1).trans rfl; have hfz11_0 := blk_frozen BK414.out 0; have hfz11_1 := blk_frozen BK414.out 1; obtain ⟨Ao12, co12, eo12⟩ := Kd.S_slice HO412.out; subst eo12) | ((with_reducible refine gate_callee (f := 92) rfl ?_); refine goesL_ (some 14) rfl rfl Try.func92 (by kernel_rfl) rfl #[.slice A0 l0.length c0] rfl att13_0_2 ?_; (with_reducible refine (spec_l1New.calls k _ _ l0 t415 t416 t417 w _ ?side1 ?side2 ?side3 A3.out).mono ?_); (case side1 => repeat (first | (with_reducible first | exact HB.out | apply below_alloc | apply pw_below_drewN | apply below_drew1 | refine below_set ?_ GE406.out | refine below_set ?_ GE414.out) | exact HB.out)); (case side2 => exact HR0.out); (case side3 => exact HC0.out); rintro e w13 ⟨g418, rfl, hi, hb, hb2⟩; refine ⟨_, rfl, ?_⟩; have n0_ := Aside0.mk (Kd.R_below (by (with_reducible repeat (first | apply Kd.R_alloc | apply Kd.R_drewN | apply Kd.R_drew)); exact (Kd.R_mono (Kd.R_far (p := ⟨gb414, 1, none⟩) (Kd.R_far (p := ⟨gb414, 0, none⟩) (Kd.R_types HO409.out BK414.out (by decide)) (fun _ hk => hk.2) (.slice Ao9 t407.length co9)) (fun _ hk => hk.2) (.slice Ao12 t410.length co12)) (fun _ h_ => h_.1))) hb2); have n1_ := Aside0.mk (Kd.S_below (by (with_reducible repeat (first | apply Kd.S_alloc | apply Kd.S_drewN | apply Kd.S_drew)); exact (Kd.S_mono (Kd.S_far (p := ⟨gb414, 1, none⟩) (Kd.S_far (p := ⟨gb414, 0, none⟩) (Kd.S_types HO412.out BK414.out (by decide)) (fun _ hk => hk.2) (.slice Ao9 t407.length co9)) (fun _ hk => hk.2) (.slice Ao12 t410.length co12)) (fun _ h_ => h_.1))) hb2); have n2_ := Aside0.mk (blk_below (g := gb406) (o := .cells #[.slice none 0 0, .slice none 0 0] 30 (0, 0)) att13_0_9 hb2); have n3_ := Aside0.mk (blk_below (g := gb414) (o := .cells #[.slice Ao9 t407.length co9, .slice Ao12 t410.length co12] 30 (0, 0)) att13_0_4 hb2); have n4_ := Aside0.mk (hb); have n5_ := Aside0.mk (hi); have n6_ := Aside0.mk (IsS170.ne_blk hi (blk_below (g := gb406) (o := .cells #[.slice none 0 0, .slice none 0 0] 30 (0, 0)) att13_0_9 hb2) (by decide)); have n7_ := Aside0.mk (Ne.symm (IsS170.ne_blk hi (blk_below (g := gb406) (o := .cells #[.slice none 0 0, .slice none 0 0] 30 (0, 0)) att13_0_9 hb2) (by decide))); have n8_ := Aside0.mk (IsS170.ne_blk hi (blk_below (g := gb414) (o := .cells #[.slice Ao9 t407.length co9, .slice Ao12 t410.length co12] 30 (0, 0)) att13_0_4 hb2) (by decide)); have n9_ := Aside0.mk (Ne.symm (IsS170.ne_blk hi (blk_below (g := gb414) (o := .cells #[.slice Ao9 t407.length co9, .slice Ao12 t410.length co12] 30 (0, 0)) att13_0_4 hb2) (by decide))); clear HO409; clear HO412; clear BK406; clear BK414; clear HB; have HO409 := n0_; have HO412 := n1_; have BK406 := n2_; have BK414 := n3_; have HB := n4_; have HI418 := n5_; have NB418_406 := n6_; have NB406_418 := n7_; have NB418_414 := n8_; have NB414_418 := n9_; clear n0_ n1_ n2_ n3_ n4_ n5_ n6_ n7_ n8_ n9_; (try clear hb); (try clear hb2); (try clear hk); (try clear hi)))
 have n0_ := Aside0.mk (Kd.R_drew HO409.out)
 have n1_ := Aside0.mk (Kd.S_drew HO412.out)
 have n2_ := Aside0.mk (blk_drew BK406.out)
 have n3_ := Aside0.mk (blk_drew BK414.out)
 have n4_ := Aside0.mk (IsS170.drew HI418.out)
 have n5_ := Aside0.mk (below_drew1 HB.out)
 clear HO409
 clear HO412
 clear BK406
 clear BK414
 clear HI418
 clear HB
 have HO409 := n0_
 have HO412 := n1_
 have BK406 := n2_
 have BK414 := n3_
 have HI418 := n4_
 have HB := n5_
 clear n0_ n1_ n2_ n3_ n4_ n5_
 refine start_ (n := 11) (S := fun w' => w'.cell? ⟨gb414, 0, none⟩ = some (.slice Ao9 t407.length co9) ∧ w'.cell? ⟨gb414, 1, none⟩ = some (.slice Ao12 t410.length co12)) (ds := []) (tf_ 0 11) (by kernel_rfl) rfl rfl ⟨(blk_cell BK414.out 0).trans rfl, (blk_cell BK414.out 1).trans rfl⟩ (fun hHeld => ?_); refine with_tabW spec_DrawPlaceOf.tab3 spec_DrawPlaceOf.bits3 (fun HT_ HW_ => ?_)
 generalize w13.drew = w14 at HO409 HO412 BK406 BK414 HI418 HB hHeld ⊢
 refine pure_ (i := 1) (N := some 16) (v := ?_) (a' := ?_) #[false, true, false, false, false, false, false, false, false, false, false] rfl rfl (any_of HT_.out (by kernel_rfl)) (fun _ _ _ h => h) (Or.inl ⟨by rfl, ?_⟩) ?_ ?_
 rotate_left
 ·intro w'
  go_simp
  with_reducible rfl
 rotate_left
 ·simp only [Act.put, List.setIfInBounds_toArray, List.set_cons_zero, List.set_cons_succ, i64_w, i32_w]
  rfl
 refine pure_ (i := 2) (N := some 17) (v := ?_) (a' := ?_) #[false, true, true, false, false, false, false, false, false, false, false] rfl rfl (any_of HT_.out (by kernel_rfl)) (fun _ _ _ h => h) (Or.inl ⟨by rfl, ?_⟩) ?_ ?_
 rotate_left
 ·intro w'
  go_simp
  with_reducible rfl
 rotate_left
 ·simp only [Act.put, List.setIfInBounds_toArray, List.set_cons_zero, List.set_cons_succ, i64_w, i32_w]
  rfl
 refine pure_ (i := 4) (N := some 19) (v := ?_) (a' := ?_) #[false, true, true, false, true, false, false, false, false, false, false] rfl rfl (any_of HT_.out (by kernel_rfl)) (fun _ _ _ h => h) (Or.inl ⟨by rfl, ?_⟩) ?_ ?_
 rotate_left
 ·intro w'
  go_simp
  with_reducible rfl
 rotate_left
 ·simp only [Act.put, List.setIfInBounds_toArray, List.set_cons_zero, List.set_cons_succ, i64_w, i32_w]
  rfl
 refine take_ (i := 0) (N := some 15) (v := ?_) (a' := ?_) #[true, true, true, false, true, false, false, false, false, false, false] rfl rfl (take_ofW HT_.out HW_.out (by kernel_rfl)) (fun _ _ _ h => h) (Or.inl ⟨by rfl, ?_⟩) hHeld ?_ ?_
 rotate_left
 ·rintro w' ⟨s0, s1⟩
  go_simp
  with_reducible rfl
 rotate_left
 ·simp only [Act.put, List.setIfInBounds_toArray, List.set_cons_zero, List.set_cons_succ, i64_w, i32_w]
  rfl
 refine one_ (i := 3) (N := some 18) (tf_ 5 6) rfl rfl (one_of HT_.out (by kernel_rfl)) (by decide) (fun K hK => ?_)
 refine goes_ Try.func97 (by kernel_rfl) rfl #[.pointer (some ⟨g418, 0, none⟩), .int .i64 120] (by rfl) rfl rfl att13_0_2 ?_
 with_reducible refine (spec_l1Below.calls g418 t415 t416 t417 120 t419 t420 t421 w _ ?side1 ?side2 A4.out).mono ?_
 (case side1 => repeat (first | (with_reducible first | exact HI418.out | apply IsS170.alloc | apply IsS170.drewN | apply IsS170.drew | apply IsS170.set_1 | apply IsS170.set_2 | refine IsS170.far ?_ NB418_406.out _ | refine IsS170.far ?_ NB418_414.out _) | exact HI418.out))
 (case side2 => repeat (first | (with_reducible first | exact HB.out | apply below_alloc | apply pw_below_drewN | apply below_drew1 | refine below_set ?_ (IsS170.ge HI418.out) | refine below_set ?_ GE406.out | refine below_set ?_ GE414.out) | exact HB.out))
 rintro e w15 ⟨rfl, hi, hb, hk⟩
 refine ⟨_, rfl, ?_⟩
 have n0_ := Aside0.mk (KeepBut.blk hk (g' := gb406) (o := .cells #[.slice none 0 0, .slice none 0 0] 30 (0, 0)) att13_0_11 NB406_418.out (by simp))
 have n1_ := Aside0.mk (Kd.R_mono (Kd.R_keep (IsS170.apart (show IsS170 w _ g418 t415 t416 t417 from by repeat (first | (with_reducible first | exact HI418.out | apply IsS170.alloc | apply IsS170.drewN | apply IsS170.drew | apply IsS170.set_1 | apply IsS170.set_2 | refine IsS170.far ?_ NB418_406.out _ | refine IsS170.far ?_ NB418_414.out _) | exact HI418.out)) att13_0_18 (by decide)) hk (fun _ h => h.2)) (fun _ h => h.1))
 have n2_ := Aside0.mk (Kd.S_mono (Kd.S_keep (IsS170.apartS (show IsS170 w _ g418 t415 t416 t417 from by repeat (first | (with_reducible first | exact HI418.out | apply IsS170.alloc | apply IsS170.drewN | apply IsS170.drew | apply IsS170.set_1 | apply IsS170.set_2 | refine IsS170.far ?_ NB418_406.out _ | refine IsS170.far ?_ NB418_414.out _) | exact HI418.out)) att13_0_16 (by decide)) hk (fun _ h => h.2)) (fun _ h => h.1))
 have n3_ := Aside0.mk (KeepBut.blk hk (g' := gb414) (o := .cells #[.slice Ao9 t407.length co9, .slice Ao12 t410.length co12] 30 (0, 0)) att13_0_20 NB414_418.out (by simp))
 have n4_ := Aside0.mk (hb)
 have n5_ := Aside0.mk (hi)
 clear BK406
 clear HO409
 clear HO412
 clear BK414
 clear HB
 clear HI418
 have BK406 := n0_
 have HO409 := n1_
 have HO412 := n2_
 have BK414 := n3_
 have HB := n4_
 have HI418 := n5_
 clear n0_ n1_ n2_ n3_ n4_ n5_
 (try clear hb)
 (try clear hb2)
 (try clear hk)
 (try clear hi)
 refine hK.out _ _ ⟨(blk_cell BK414.out 0).trans rfl, (blk_cell BK414.out 1).trans rfl⟩ (fun hHeld => ?_)
 clear hK K
 refine norm_ (a' := ?_) ?_ ?_
 rotate_left
 ·show Act.put _ (some 18) _ = _
  simp only [Act.put, List.setIfInBounds_toArray, List.set_cons_zero, List.set_cons_succ, i64_w, i32_w]
  rfl
 refine one_ (i := 5) (N := some 20) (tf_ 6 5) rfl rfl (one_of HT_.out (by kernel_rfl)) (by decide) (fun K hK => ?_)
 refine goes_ Try.func97 (by kernel_rfl) rfl #[.pointer (some ⟨g418, 0, none⟩), .int .i64 12] (by rfl) rfl rfl att13_0_2 ?_
 with_reducible refine (spec_l1Below.calls g418 t415 t420 t421 12 t422 t423 t424 w _ ?side1 ?side2 A5.out).mono ?_
 (case side1 => repeat (first | (with_reducible first | exact HI418.out | apply IsS170.alloc | apply IsS170.drewN | apply IsS170.drew | apply IsS170.set_1 | apply IsS170.set_2 | refine IsS170.far ?_ NB418_406.out _ | refine IsS170.far ?_ NB418_414.out _) | exact HI418.out))
 (case side2 => repeat (first | (with_reducible first | exact HB.out | apply below_alloc | apply pw_below_drewN | apply below_drew1 | refine below_set ?_ (IsS170.ge HI418.out) | refine below_set ?_ GE406.out | refine below_set ?_ GE414.out) | exact HB.out))
 rintro e w16 ⟨rfl, hi, hb, hk⟩
 refine ⟨_, rfl, ?_⟩
 have n0_ := Aside0.mk (KeepBut.blk hk (g' := gb406) (o := .cells #[.slice none 0 0, .slice none 0 0] 30 (0, 0)) att13_0_11 NB406_418.out (by simp))
 have n1_ := Aside0.mk (Kd.R_mono (Kd.R_keep (IsS170.apart (show IsS170 w _ g418 t415 t420 t421 from by repeat (first | (with_reducible first | exact HI418.out | apply IsS170.alloc | apply IsS170.drewN | apply IsS170.drew | apply IsS170.set_1 | apply IsS170.set_2 | refine IsS170.far ?_ NB418_406.out _ | refine IsS170.far ?_ NB418_414.out _) | exact HI418.out)) att13_0_18 (by decide)) hk (fun _ h => h.2)) (fun _ h => h.1))
 have n2_ := Aside0.mk (Kd.S_mono (Kd.S_keep (IsS170.apartS (show IsS170 w _ g418 t415 t420 t421 from by repeat (first | (with_reducible first | exact HI418.out | apply IsS170.alloc | apply IsS170.drewN | apply IsS170.drew | apply IsS170.set_1 | apply IsS170.set_2 | refine IsS170.far ?_ NB418_406.out _ | refine IsS170.far ?_ NB418_414.out _) | exact HI418.out)) att13_0_16 (by decide)) hk (fun _ h => h.2)) (fun _ h => h.1))
 have n3_ := Aside0.mk (KeepBut.blk hk (g' := gb414) (o := .cells #[.slice Ao9 t407.length co9, .slice Ao12 t410.length co12] 30 (0, 0)) att13_0_20 NB414_418.out (by simp))
 have n4_ := Aside0.mk (hb)
 have n5_ := Aside0.mk (hi)
 clear BK406
 clear HO409
 clear HO412
 clear BK414
 clear HB
 clear HI418
 have BK406 := n0_
 have HO409 := n1_
 have HO412 := n2_
 have BK414 := n3_
 have HB := n4_
 have HI418 := n5_
 clear n0_ n1_ n2_ n3_ n4_ n5_
 (try clear hb)
 (try clear hb2)
 (try clear hk)
 (try clear hi)
 refine hK.out _ _ ⟨(blk_cell BK414.out 0).trans rfl, (blk_cell BK414.out 1).trans rfl⟩ (fun hHeld => ?_)
 clear hK K
 refine norm_ (a' := ?_) ?_ ?_
 rotate_left
 ·show Act.put _ (some 20) _ = _
  simp only [Act.put, List.setIfInBounds_toArray, List.set_cons_zero, List.set_cons_succ, i64_w, i32_w]
  rfl
 refine pure_ (i := 6) (N := some 21) (v := ?_) (a' := ?_) (tf_ 7 4) rfl rfl (any_of HT_.out (by kernel_rfl)) (fun _ _ _ h => h) (Or.inl ⟨by rfl, ?_⟩) ?_ ?_
 rotate_left
 ·intro w'
  go_simp
  with_reducible rfl
 rotate_left
 ·simp only [Act.put, List.setIfInBounds_toArray, List.set_cons_zero, List.set_cons_succ, i64_w, i32_w]
  rfl
 refine pure_ (i := 7) (N := some 22) (v := ?_) (a' := ?_) (tf_ 8 3) rfl rfl (any_of HT_.out (by kernel_rfl)) (fun _ _ _ h => h) (Or.inl ⟨by rfl, ?_⟩) ?_ ?_
 rotate_left
 ·intro w'
  go_simp
  with_reducible rfl
 rotate_left
 ·simp only [Act.put, List.setIfInBounds_toArray, List.set_cons_zero, List.set_cons_succ, i64_w, i32_w]
  rfl
 refine one_ (i := 8) (N := none) (tf_ 9 2) rfl rfl (one_of HT_.out (by kernel_rfl)) (by decide) (fun K hK => ?_)
 have hs17 : w16.cell? ⟨gb406, 0, none⟩ = some (.slice none 0 0) := (blk_cell BK406.out 0).trans rfl
 have hfs17 := blk_frozen BK406.out 0
 have hns17_1 := NB414_406.out
 have hms17_1 := NB406_414.out
 have hs18 : w16.cell? ⟨gb406, 1, none⟩ = some (.slice none 0 0) := (blk_cell BK406.out 1).trans rfl
 have hfs18 := blk_frozen BK406.out 1
 have hns18_1 := NB414_406.out
 have hms18_1 := NB406_414.out
 refine skip_ (w1 := ?_) (by rfl) rfl ?_ ?_
 rotate_left
 ·go_simp
  rfl
 refine hK.out _ _ ⟨((cell_far (p := ⟨gb406, _, none⟩) NB414_406.out _).trans (((cell_far (p := ⟨gb406, _, none⟩) NB414_406.out _).trans (hHeld.1)))), ((cell_far (p := ⟨gb406, _, none⟩) NB414_406.out _).trans (((cell_far (p := ⟨gb406, _, none⟩) NB414_406.out _).trans (hHeld.2))))⟩ (fun hHeld => ?_)
 clear hK K
 refine pure_ (i := 9) (N := some 3) (v := ?_) (a' := ?_) (tf_ 10 1) rfl rfl (any_of HT_.out (by kernel_rfl)) (fun _ _ _ h => h) (Or.inl ⟨by rfl, ?_⟩) ?_ ?_
 rotate_left
 ·intro w'
  go_simp
  with_reducible rfl
 rotate_left
 ·simp only [Act.put, List.setIfInBounds_toArray, List.set_cons_zero, List.set_cons_succ, i64_w, i32_w]
  rfl
 refine pure_ (i := 10) (N := some 4) (v := ?_) (a' := ?_) (tf_ 11 0) rfl rfl (any_of HT_.out (by kernel_rfl)) (fun _ _ _ h => h) (Or.inl ⟨by rfl, ?_⟩) ?_ ?_
 rotate_left
 ·intro w'
  go_simp
  with_reducible rfl
 rotate_left
 ·simp only [Act.put, List.setIfInBounds_toArray, List.set_cons_zero, List.set_cons_succ, i64_w, i32_w]
  rfl
 refine done_ (done_of HT_.out (by kernel_rfl)) ?_
 try go_wp2
 refine bodyPost_ret (results_ctt rfl _ _ gb406 30 #[.slice Ao9 t407.length co9, .slice Ao12 t410.length co12] (0, 0) _ rfl (by (with_reducible repeat (first | refine blk_drewN ?_ _ | refine blk_drew ?_ | refine blk_alloc ?_ _)); refine blk_put (cs := #[.slice Ao9 t407.length co9, .slice none 0 0]) ?_ 1 _ rfl; (with_reducible repeat (first | refine blk_drewN ?_ _ | refine blk_drew ?_ | refine blk_alloc ?_ _)); refine blk_put (cs := #[.slice none 0 0, .slice none 0 0]) ?_ 0 _ rfl; (with_reducible repeat (first | refine blk_drewN ?_ _ | refine blk_drew ?_ | refine blk_alloc ?_ _)); exact BK406.out) Try.underlying30 rfl (by kernel_rfl)) rfl ?_
 exact ⟨_, _, by first | rfl | (simp [errW_none, errW_some] <;> rfl) | (simp [*, errW_none, errW_some] <;> rfl), by (with_reducible repeat (first | apply Kd.R_alloc | apply Kd.R_drewN | apply Kd.R_drew)); exact Kd.R_mono (Kd.R_far (p := ⟨gb406, 1, none⟩) (Kd.R_far (p := ⟨gb406, 0, none⟩) (Kd.R_types HO409.out BK406.out (by decide)) (fun _ hk => hk.2) (.slice Ao9 t407.length co9)) (fun _ hk => hk.2) (.slice Ao12 t410.length co12)) (fun _ hk => trivial), by (with_reducible repeat (first | apply Kd.S_alloc | apply Kd.S_drewN | apply Kd.S_drew)); exact Kd.S_mono (Kd.S_far (p := ⟨gb406, 1, none⟩) (Kd.S_far (p := ⟨gb406, 0, none⟩) (Kd.S_types HO412.out BK406.out (by decide)) (fun _ hk => hk.2) (.slice Ao9 t407.length co9)) (fun _ hk => hk.2) (.slice Ao12 t410.length co12)) (fun _ hk => trivial), by repeat (first | (with_reducible first | exact HB.out | apply below_alloc | apply pw_below_drewN | apply below_drew1 | refine below_set ?_ (IsS170.ge HI418.out) | refine below_set ?_ GE406.out | refine below_set ?_ GE414.out) | exact HB.out)⟩

/-! ### impl_Starts: function 63 -/
def impl_Starts.f (k : Nat) (l0_0 : List Int) (l0_1 : List (List (S37))) (a1 : Int) : Option (List Int) := (impl_ProgOk.f k l0_0 l0_1).bind fun t426 => (if t426 = true then ((impl_within.f a1 0 (wrap64 ((l0_1.length : Int) - 1))).bind fun t427 => (if t427 = true then (if 0 ≤ a1 then (if a1 < (l0_1.length : Int) then ((impl_startsOf.f k (rd_L3 l0_1 a1)).bind fun t429 => (some t429)) else (none)) else (none)) else (some ([] : List Int)))) else (some ([] : List Int)))
theorem impl_Starts.mono : ∀ a0 a1 a2 k, LeO (impl_Starts.f k a0 a1 a2) (impl_Starts.f (k + 1) a0 a1 a2) := by
 intro a0 a1 a2 k
 unfold impl_Starts.f
 repeat' first
   | (with_reducible exact impl_ProgOk.mono _ _ _)
   | (with_reducible exact impl_startsOf.mono _ _)
   | (with_reducible exact LeO.refl _)
   | (with_reducible exact LeO.none _)
   | (with_reducible refine LeO.ite ?_ ?_)
   | (with_reducible refine LeO.bind ?_ (fun _ => ?_))
   | exact impl_ProgOk.mono _ _ _
   | exact impl_startsOf.mono _ _
   | exact LeO.none _
   | refine LeO.ite ?_ ?_
   | refine LeO.bind ?_ (fun _ => ?_)
set_option maxHeartbeats 80000000 in
set_option maxRecDepth 100000 in
theorem impl_Starts.calls (k : Nat) (A0_0 : Option Addr) (c0_0 : Nat) (l0_0 : List Int) (A0_1 : Option Addr) (c0_1 : Nat) (l0_1 : List (List (S37))) (a1 : Int) (r : List Int) (w : World) (hr0_0 : Kd.C (Kd.int .i64) w A0_0 l0_0.length l0_0) (hc0_0 : l0_0.length ≤ c0_0) (hr0_1 : Kd.C (Kd.slice 37 k37) w A0_1 l0_1.length l0_1) (hc0_1 : l0_1.length ≤ c0_1) (h : impl_Starts.f k l0_0 l0_1 a1 = some r) :
  Calls Try.prog 63 #[.agg #[.slice A0_0 l0_0.length c0_0, .slice A0_1 l0_1.length c0_1], .int .i64 a1] w fun e w' => ∃ v0_ : Value, e = .returned (v0_) ∧ Kd.R (Kd.int .i64) 3 w' w.heap.size (fun _ => True) v0_ r ∧ Below w.heap.size w w' := by
 have hu30 := Try.underlying30
 have HR0_0 := Aside0.mk hr0_0
 have HC0_0 := Aside0.mk hc0_0
 clear hr0_0 hc0_0
 have HR0_1 := Aside0.mk hr0_1
 have HC0_1 := Aside0.mk hc0_1
 clear hr0_1 hc0_1
 have HB := Aside0.mk (Below.refl w.heap.size w)
 have H : ((impl_ProgOk.f k l0_0 l0_1).bind fun t426 => (if t426 = true then ((impl_within.f a1 0 (wrap64 ((l0_1.length : Int) - 1))).bind fun t427 => (if t427 = true then (if 0 ≤ a1 then (if a1 < (l0_1.length : Int) then ((impl_startsOf.f k (rd_L3 l0_1 a1)).bind fun t429 => (some t429)) else (none)) else (none)) else (some ([] : List Int)))) else (some ([] : List Int)))) = some r := h
 clear h
 replace H := Option.bind_eq_some_iff.mp H
 obtain ⟨t426, A30, H⟩ := H
 replace H : (if t426 = true then ((impl_within.f a1 0 (wrap64 ((l0_1.length : Int) - 1))).bind fun t427 => (if t427 = true then (if 0 ≤ a1 then (if a1 < (l0_1.length : Int) then ((impl_startsOf.f k (rd_L3 l0_1 a1)).bind fun t429 => (some t429)) else (none)) else (none)) else (some ([] : List Int)))) else (some ([] : List Int))) = some r := H
 have A3 := Aside0.mk A30
 clear A30
 by_cases c4 : t426 = true
 ·subst c4
  have H1 : ((impl_within.f a1 0 (wrap64 ((l0_1.length : Int) - 1))).bind fun t427 => (if t427 = true then (if 0 ≤ a1 then (if a1 < (l0_1.length : Int) then ((impl_startsOf.f k (rd_L3 l0_1 a1)).bind fun t429 => (some t429)) else (none)) else (none)) else (some ([] : List Int)))) = some r := by rw [if_pos rfl] at H; exact H
  clear H
  have H := H1
  clear H1
  replace H := Option.bind_eq_some_iff.mp H
  obtain ⟨t427, A50, H⟩ := H
  replace H : (if t427 = true then (if 0 ≤ a1 then (if a1 < (l0_1.length : Int) then ((impl_startsOf.f k (rd_L3 l0_1 a1)).bind fun t429 => (some t429)) else (none)) else (none)) else (some ([] : List Int))) = some r := H
  have A5 := Aside0.mk A50
  clear A50
  by_cases c6 : t427 = true
  ·subst c6
   have H1 : (if 0 ≤ a1 then (if a1 < (l0_1.length : Int) then ((impl_startsOf.f k (rd_L3 l0_1 a1)).bind fun t429 => (some t429)) else (none)) else (none)) = some r := by rw [if_pos rfl] at H; exact H
   clear H
   have H := H1
   clear H1
   by_cases c7 : 0 ≤ a1
   ·rw [if_pos c7] at H
    have c7b0 : decide (0 ≤ a1) = true := decide_eq_true c7
    clear c7
    by_cases c8 : a1 < (l0_1.length : Int)
    ·rw [if_pos c8] at H
     have c8b0 : decide (a1 < (l0_1.length : Int)) = true := decide_eq_true c8
     clear c8
     replace H := Option.bind_eq_some_iff.mp H
     obtain ⟨t429, A90, H⟩ := H
     replace H : (some t429) = some r := H
     have A9 := Aside0.mk A90
     clear A90
     obtain rfl := Option.some.inj H
     go_enter Try.func63, Try.ntmps63
     go_wp2_with (first | ((with_reducible refine gate_dst (N := 2) rfl ?_); (try (refine gate_guard (by rfl) ?_; dsimp only)); refine box_event ?hg (N := 2) ?hd (cs := #[.slice A0_0 l0_0.length c0_0, .slice A0_1 l0_1.length c0_1]) (t := 30) ?hr ?_; (case hd => rfl); (case hg => rfl); (case hr => first | (go_simp; done) | (go_simp; rfl)); intro gb425 hg w10 hbox hb; have n0_ := Aside0.mk (below_step att13_0_0 hb); have n1_ := Aside0.mk (hbox); have n2_ := Aside0.mk ((by rw [hg]; exact (below_size att13_0_0) : w.heap.size ≤ gb425)); have n3_ := Aside0.mk ((by rw [hg]; exact (below_size att13_0_0) : w.heap.size ≤ gb425)); clear HB; have HB := n0_; have BK425 := n1_; have GW425 := n2_; have GE425 := n3_; clear n0_ n1_ n2_ n3_; clear hb hbox hg; have hcz11_0 : w10.cell? ⟨gb425, 0, none⟩ = some (.slice A0_0 l0_0.length c0_0) := (blk_cell BK425.out 0).trans rfl; have hcz11_1 : w10.cell? ⟨gb425, 1, none⟩ = some (.slice A0_1 l0_1.length c0_1) := (blk_cell BK425.out 1).trans rfl; have hfz11_0 := blk_frozen BK425.out 0; have hfz11_1 := blk_frozen BK425.out 1) | ((with_reducible refine gate_callee (f := 58) rfl ?_); refine goesL_ (some 6) rfl rfl Try.func58 (by kernel_rfl) rfl #[.agg #[.slice A0_0 l0_0.length c0_0, .slice A0_1 l0_1.length c0_1]] rfl att13_0_2 ?_; (with_reducible refine (impl_ProgOk.calls k _ _ l0_0 _ _ l0_1 true _ ?side1 ?side2 ?side3 ?side4 A3.out).mono ?_); (case side1 => repeat (first | exact (Kd.C_below HR0_0.out HB.out) | (with_reducible refine Kd.C_alloc ?_ _) | (with_reducible refine Kd.C_drewN ?_ _) | (with_reducible refine Kd.C_drew ?_))); (case side2 => exact HC0_0.out); (case side3 => repeat (first | exact (Kd.C_below HR0_1.out HB.out) | (with_reducible refine Kd.C_alloc ?_ _) | (with_reducible refine Kd.C_drewN ?_ _) | (with_reducible refine Kd.C_drew ?_))); (case side4 => exact HC0_1.out); rintro e w12 ⟨rfl, hb⟩; refine ⟨_, rfl, ?_⟩; have n0_ := Aside0.mk (blk_below (g := gb425) (o := .cells #[.slice A0_0 l0_0.length c0_0, .slice A0_1 l0_1.length c0_1] 30 (0, 0)) att13_0_13 hb); have n1_ := Aside0.mk (below_step att13_0_3 hb); clear BK425; clear HB; have BK425 := n0_; have HB := n1_; clear n0_ n1_; (try clear hb); (try clear hb2); (try clear hk); (try clear hi); have hcz13_0 : w12.cell? ⟨gb425, 0, none⟩ = some (.slice A0_0 l0_0.length c0_0) := (blk_cell BK425.out 0).trans rfl; have hcz13_1 : w12.cell? ⟨gb425, 1, none⟩ = some (.slice A0_1 l0_1.length c0_1) := (blk_cell BK425.out 1).trans rfl; have hfz13_0 := blk_frozen BK425.out 0; have hfz13_1 := blk_frozen BK425.out 1) | (go_at_call 117; (with_reducible refine (impl_within.calls a1 0 (wrap64 ((l0_1.length : Int) - 1)) true _ A5.out).mono ?_); rintro e w' ⟨rfl, ⟨nd, rfl⟩⟩; have p428 : 0 ≤ (a1 : Int) := of_decide_eq_true att13_0_10; have q428 : a1 < (l0_1.length : Int) := of_decide_eq_true att13_0_10; obtain ⟨ad428, A428_0, c428_0, e428, hx428_0, hl428_0, hi428_0⟩ := at_L3 HR0_1.out a1 p428 q428; cases e428; replace hx428_0 := (HB.out.cell (World.block_lt_of_cell? w _ hx428_0)).trans hx428_0; have HR428_0 := Aside0.mk hi428_0; have HC428_0 := Aside0.mk hl428_0; clear hi428_0 hl428_0; replace p428 := eq_true p428; replace q428 := eq_true q428) | ((with_reducible refine gate_callee (f := 136) rfl ?_); refine goesL_ (some 22) rfl rfl Try.func136 (by kernel_rfl) rfl #[.slice A428_0 (rd_L3 l0_1 a1).length c428_0] rfl att13_0_2 ?_; (with_reducible refine (impl_startsOf.calls k _ _ (rd_L3 l0_1 a1) t429 _ ?side1 ?side2 A9.out).mono ?_); (case side1 => repeat (first | exact (Kd.C_below HR428_0.out att13_0_3) | (with_reducible refine Kd.C_alloc ?_ _) | (with_reducible refine Kd.C_drewN ?_ _) | (with_reducible refine Kd.C_drew ?_))); (case side2 => exact HC428_0.out); rintro e w14 ⟨v430, rfl, ho0, hb⟩; refine ⟨_, rfl, ?_⟩; have n0_ := Aside0.mk (Kd.R_lower ho0 (below_size att13_0_3)); have n1_ := Aside0.mk (blk_below (g := gb425) (o := .cells #[.slice A0_0 l0_0.length c0_0, .slice (some ad428) l0_1.length c0_1] 30 (0, 0)) att13_0_13 hb); have n2_ := Aside0.mk (below_step att13_0_3 hb); clear BK425; clear HB; have HO431 := n0_; have BK425 := n1_; have HB := n2_; clear n0_ n1_ n2_; (try clear hb); (try clear hb2); (try clear hk); (try clear hi); (try clear ho0)))
     go_ret
     exact ⟨_, by first | rfl | (simp [errW_none, errW_some] <;> rfl) | (simp [*, errW_none, errW_some] <;> rfl), by (with_reducible repeat (first | apply Kd.R_alloc | apply Kd.R_drewN | apply Kd.R_drew)); exact HO431.out, att13_0_3⟩
    ·rw [if_neg c8] at H
     exact absurd H (by simp)
   ·rw [if_neg c7] at H
    exact absurd H (by simp)
  ·replace c6 := Bool.eq_false_iff.mpr c6
   subst c6
   have H1 : (some ([] : List Int)) = some r := by rw [if_neg (show ¬ (false = true) by decide)] at H; exact H
   clear H
   have H := H1
   clear H1
   obtain rfl := Option.some.inj H
   go_enter Try.func63, Try.ntmps63
   go_wp2_with (first | ((with_reducible refine gate_dst (N := 2) rfl ?_); (try (refine gate_guard (by rfl) ?_; dsimp only)); refine box_event ?hg (N := 2) ?hd (cs := #[.slice A0_0 l0_0.length c0_0, .slice A0_1 l0_1.length c0_1]) (t := 30) ?hr ?_; (case hd => rfl); (case hg => rfl); (case hr => first | (go_simp; done) | (go_simp; rfl)); intro gb425 hg w15 hbox hb; have n0_ := Aside0.mk (below_step att13_0_0 hb); have n1_ := Aside0.mk (hbox); have n2_ := Aside0.mk ((by rw [hg]; exact (below_size att13_0_0) : w.heap.size ≤ gb425)); have n3_ := Aside0.mk ((by rw [hg]; exact (below_size att13_0_0) : w.heap.size ≤ gb425)); clear HB; have HB := n0_; have BK425 := n1_; have GW425 := n2_; have GE425 := n3_; clear n0_ n1_ n2_ n3_; clear hb hbox hg; have hcz16_0 : w15.cell? ⟨gb425, 0, none⟩ = some (.slice A0_0 l0_0.length c0_0) := (blk_cell BK425.out 0).trans rfl; have hcz16_1 : w15.cell? ⟨gb425, 1, none⟩ = some (.slice A0_1 l0_1.length c0_1) := (blk_cell BK425.out 1).trans rfl; have hfz16_0 := blk_frozen BK425.out 0; have hfz16_1 := blk_frozen BK425.out 1) | ((with_reducible refine gate_callee (f := 58) rfl ?_); refine goesL_ (some 6) rfl rfl Try.func58 (by kernel_rfl) rfl #[.agg #[.slice A0_0 l0_0.length c0_0, .slice A0_1 l0_1.length c0_1]] rfl att13_0_2 ?_; (with_reducible refine (impl_ProgOk.calls k _ _ l0_0 _ _ l0_1 true _ ?side1 ?side2 ?side3 ?side4 A3.out).mono ?_); (case side1 => repeat (first | exact (Kd.C_below HR0_0.out HB.out) | (with_reducible refine Kd.C_alloc ?_ _) | (with_reducible refine Kd.C_drewN ?_ _) | (with_reducible refine Kd.C_drew ?_))); (case side2 => exact HC0_0.out); (case side3 => repeat (first | exact (Kd.C_below HR0_1.out HB.out) | (with_reducible refine Kd.C_alloc ?_ _) | (with_reducible refine Kd.C_drewN ?_ _) | (with_reducible refine Kd.C_drew ?_))); (case side4 => exact HC0_1.out); rintro e w17 ⟨rfl, hb⟩; refine ⟨_, rfl, ?_⟩; have n0_ := Aside0.mk (blk_below (g := gb425) (o := .cells #[.slice A0_0 l0_0.length c0_0, .slice A0_1 l0_1.length c0_1] 30 (0, 0)) att13_0_13 hb); have n1_ := Aside0.mk (below_step att13_0_3 hb); clear BK425; clear HB; have BK425 := n0_; have HB := n1_; clear n0_ n1_; (try clear hb); (try clear hb2); (try clear hk); (try clear hi); have hcz18_0 : w17.cell? ⟨gb425, 0, none⟩ = some (.slice A0_0 l0_0.length c0_0) := (blk_cell BK425.out 0).trans rfl; have hcz18_1 : w17.cell? ⟨gb425, 1, none⟩ = some (.slice A0_1 l0_1.length c0_1) := (blk_cell BK425.out 1).trans rfl; have hfz18_0 := blk_frozen BK425.out 0; have hfz18_1 := blk_frozen BK425.out 1) | (go_at_call 117; (with_reducible refine (impl_within.calls a1 0 (wrap64 ((l0_1.length : Int) - 1)) false _ A5.out).mono ?_); rintro e w' ⟨rfl, ⟨nd, rfl⟩⟩))
   go_ret
   exact ⟨_, by first | rfl | (simp [errW_none, errW_some] <;> rfl) | (simp [*, errW_none, errW_some] <;> rfl), by first | exact Kd.R_nil _ _ _ _ _ | exact Kd.N_nil _ _ _ _ _ | exact Kd.V_nil _ _ _ _ _ | exact Kd.Q_nil _ _ _ _ _ | exact Kd.S_nil _ _ _ _ _, att13_0_3⟩
 ·replace c4 := Bool.eq_false_iff.mpr c4
  subst c4
  have H1 : (some ([] : List Int)) = some r := by rw [if_neg (show ¬ (false = true) by decide)] at H; exact H
  clear H
  have H := H1
  clear H1
  obtain rfl := Option.some.inj H
  go_enter Try.func63, Try.ntmps63
  go_wp2_with (first | ((with_reducible refine gate_dst (N := 2) rfl ?_); (try (refine gate_guard (by rfl) ?_; dsimp only)); refine box_event ?hg (N := 2) ?hd (cs := #[.slice A0_0 l0_0.length c0_0, .slice A0_1 l0_1.length c0_1]) (t := 30) ?hr ?_; (case hd => rfl); (case hg => rfl); (case hr => first | (go_simp; done) | (go_simp; rfl)); intro gb425 hg w19 hbox hb; have n0_ := Aside0.mk (below_step att13_0_0 hb); have n1_ := Aside0.mk (hbox); have n2_ := Aside0.mk ((by rw [hg]; exact (below_size att13_0_0) : w.heap.size ≤ gb425)); have n3_ := Aside0.mk ((by rw [hg]; exact (below_size att13_0_0) : w.heap.size ≤ gb425)); clear HB; have HB := n0_; have BK425 := n1_; have GW425 := n2_; have GE425 := n3_; clear n0_ n1_ n2_ n3_; clear hb hbox hg; have hcz20_0 : w19.cell? ⟨gb425, 0, none⟩ = some (.slice A0_0 l0_0.length c0_0) := (blk_cell BK425.out 0).trans rfl; have hcz20_1 : w19.cell? ⟨gb425, 1, none⟩ = some (.slice A0_1 l0_1.length c0_1) := (blk_cell BK425.out 1).trans rfl; have hfz20_0 := blk_frozen BK425.out 0; have hfz20_1 := blk_frozen BK425.out 1) | ((with_reducible refine gate_callee (f := 58) rfl ?_); refine goesL_ (some 6) rfl rfl Try.func58 (by kernel_rfl) rfl #[.agg #[.slice A0_0 l0_0.length c0_0, .slice A0_1 l0_1.length c0_1]] rfl att13_0_2 ?_; (with_reducible refine (impl_ProgOk.calls k _ _ l0_0 _ _ l0_1 false _ ?side1 ?side2 ?side3 ?side4 A3.out).mono ?_); (case side1 => repeat (first | exact (Kd.C_below HR0_0.out HB.out) | (with_reducible refine Kd.C_alloc ?_ _) | (with_reducible refine Kd.C_drewN ?_ _) | (with_reducible refine Kd.C_drew ?_))); (case side2 => exact HC0_0.out); (case side3 => repeat (first | exact (Kd.C_below HR0_1.out HB.out) | (with_reducible refine Kd.C_alloc ?_ _) | (with_reducible refine Kd.C_drewN ?_ _) | (with_reducible refine Kd.C_drew ?_))); (case side4 => exact HC0_1.out); rintro e w21 ⟨rfl, hb⟩; refine ⟨_, rfl, ?_⟩; have n0_ := Aside0.mk (blk_below (g := gb425) (o := .cells #[.slice A0_0 l0_0.length c0_0, .slice A0_1 l0_1.length c0_1] 30 (0, 0)) att13_0_13 hb); have n1_ := Aside0.mk (below_step att13_0_3 hb); clear BK425; clear HB; have BK425 := n0_; have HB := n1_; clear n0_ n1_; (try clear hb); (try clear hb2); (try clear hk); (try clear hi)))
  go_ret
  exact ⟨_, by first | rfl | (simp [errW_none, errW_some] <;> rfl) | (simp [*, errW_none, errW_some] <;> rfl), by first | exact Kd.R_nil _ _ _ _ _ | exact Kd.N_nil _ _ _ _ _ | exact Kd.V_nil _ _ _ _ _ | exact Kd.Q_nil _ _ _ _ _ | exact Kd.S_nil _ _ _ _ _, att13_0_3⟩

/-! ### laws_sameInts: function 64 -/
def laws_sameInts.l0 : Nat → List Int → List Int → Int → Option (Bool)
 | 0, _, _, _ => none
 | k + 1, x0, x1, x5 => if x5 < (x0.length : Int) then (if 0 ≤ x5 then (if x5 < (x1.length : Int) then (if (rd x0 x5) = (rd x1 x5) then (laws_sameInts.l0 k x0 x1 (wrap64 (x5 + 1))) else (some false)) else (none)) else (none)) else (some true)
def laws_sameInts.f (k : Nat) (l0 : List Int) (l1 : List Int) : Option (Bool) := if (l0.length : Int) = (l1.length : Int) then (laws_sameInts.l0 k l0 l1 0) else (some false)
theorem laws_sameInts.mono_l : ∀ k, (∀ y0 y1 y2, LeO (laws_sameInts.l0 k y0 y1 y2) (laws_sameInts.l0 (k + 1) y0 y1 y2))
 | 0 => fun _ _ _ r h => by simp [laws_sameInts.l0] at h
 | k + 1 => by
  have ih0 := laws_sameInts.mono_l k
  ·intro y0 y1 y2
   unfold laws_sameInts.l0
   repeat' first
   | (with_reducible exact ih0 _ _ _)
   | (with_reducible exact LeO.refl _)
   | (with_reducible exact LeO.none _)
   | (with_reducible refine LeO.ite ?_ ?_)
   | (with_reducible refine LeO.bind ?_ (fun _ => ?_))
   | exact ih0 _ _ _
   | exact LeO.none _
   | refine LeO.ite ?_ ?_
   | refine LeO.bind ?_ (fun _ => ?_)
theorem laws_sameInts.mono : ∀ a0 a1 k, LeO (laws_sameInts.f k a0 a1) (laws_sameInts.f (k + 1) a0 a1) := by
 intro a0 a1 k
 have ih0 := laws_sameInts.mono_l k
 unfold laws_sameInts.f
 repeat' first
   | (with_reducible exact ih0 _ _ _)
   | (with_reducible exact LeO.refl _)
   | (with_reducible exact LeO.none _)
   | (with_reducible refine LeO.ite ?_ ?_)
   | (with_reducible refine LeO.bind ?_ (fun _ => ?_))
   | exact ih0 _ _ _
   | exact LeO.none _
   | refine LeO.ite ?_ ?_
   | refine LeO.bind ?_ (fun _ => ?_)
set_option maxHeartbeats 80000000 in
set_option maxRecDepth 100000 in
theorem laws_sameInts.calls (k : Nat) (A0 : Option Addr) (c0 : Nat) (l0 : List Int) (A1 : Option Addr) (c1 : Nat) (l1 : List Int) (r : Bool) (w : World) (hr0 : Kd.C (Kd.int .i64) w A0 l0.length l0) (hc0 : l0.length ≤ c0) (hr1 : Kd.C (Kd.int .i64) w A1 l1.length l1) (hc1 : l1.length ≤ c1) (h : laws_sameInts.f k l0 l1 = some r) :
  Calls Try.prog 64 #[.slice A0 l0.length c0, .slice A1 l1.length c1] w fun e w' => e = .returned (.bool r) ∧ Drawn0 w w' := by
 have HR0 := Aside0.mk hr0
 have HC0 := Aside0.mk hc0
 clear hr0 hc0
 have HR1 := Aside0.mk hr1
 have HC1 := Aside0.mk hc1
 clear hr1 hc1
 have H : (if (l0.length : Int) = (l1.length : Int) then (laws_sameInts.l0 k l0 l1 0) else (some false)) = some r := h
 clear h
 by_cases c3 : (l0.length : Int) = (l1.length : Int)
 ·rw [if_pos c3] at H
  have c3b0 : ((l0.length : Int) == (l1.length : Int)) = true := beq_iff_eq.mpr c3
  have c3b1 : ((l0.length : Int) != (l1.length : Int)) = false := bne_eq_false_iff_eq.mpr c3
  have c3b2 : (l0.length == l1.length) = true := by first | simpa using c3 | (simp at c3 ⊢; omega)
  clear c3
  have H' := Aside0.mk H
  clear H
  go_enter Try.func64, Try.ntmps64
  go_wp2
  repeat (go_quiet (fail); try go_wp2)
  go_loopg [5] k (fun kq v5 w' => ∃ (x5_1 : Int), v5 = .int .i64 x5_1 ∧ Aside0 (laws_sameInts.l0 kq l0 l1 x5_1 = some r) ∧ Aside0 (kq ≤ k) ∧ Drawn0 w w')
  case atStart => exact ⟨(0), (by first | rfl | (simp; done) | (simp [*]; done)), H', ⟨Nat.le_refl _⟩, att13_0_15⟩
  case round =>
   clear H'
   try clear c1
   try clear p2
   try clear c3
   try clear c3b0
   try clear c3b1
   try clear c3b2
   obtain ⟨x5_1, rfl, HA, HK1, ⟨m1, rfl⟩⟩ := hrel
   cases gk with
   | zero => exact absurd HA.out (by simp [laws_sameInts.l0])
   | succ k1 =>
    have H := HA.out
    clear HA
    simp only [laws_sameInts.l0] at H
    by_cases c4 : x5_1 < (l0.length : Int)
    ·rw [if_pos c4] at H
     have c4b0 : decide (x5_1 < (l0.length : Int)) = true := decide_eq_true c4
     clear c4
     by_cases c5 : 0 ≤ x5_1
     ·rw [if_pos c5] at H
      have c5b0 : decide (0 ≤ x5_1) = true := decide_eq_true c5
      clear c5
      by_cases c6 : x5_1 < (l1.length : Int)
      ·rw [if_pos c6] at H
       have c6b0 : decide (x5_1 < (l1.length : Int)) = true := decide_eq_true c6
       clear c6
       by_cases c7 : (rd l0 x5_1) = (rd l1 x5_1)
       ·rw [if_pos c7] at H
        have c7b0 : ((rd l0 x5_1) == (rd l1 x5_1)) = true := beq_iff_eq.mpr c7
        have c7b1 : ((rd l0 x5_1) != (rd l1 x5_1)) = false := bne_eq_false_iff_eq.mpr c7
        clear c7
        have H' := Aside0.mk H
        clear H
        have p432 : 0 ≤ (x5_1 : Int) := of_decide_eq_true att13_0_10
        have q432 : x5_1 < (l0.length : Int) := of_decide_eq_true att13_0_10
        obtain ⟨ad432, e432, hx432_0⟩ := Kd.at_int HR0.out x5_1 p432 q432
        cases e432
        replace p432 := eq_true p432
        replace q432 := eq_true q432
        have p433 : 0 ≤ (x5_1 : Int) := of_decide_eq_true att13_0_10
        have q433 : x5_1 < (l1.length : Int) := of_decide_eq_true att13_0_10
        obtain ⟨ad433, e433, hx433_0⟩ := Kd.at_int HR1.out x5_1 p433 q433
        cases e433
        replace p433 := eq_true p433
        replace q433 := eq_true q433
        go_wp2
        repeat (go_quiet (fail); try go_wp2)
        go_roundg k1
        case measure => have := HK1.out; omega
        case rel => exact ⟨(wrap64 (x5_1 + 1)), (by first | rfl | (simp; done) | (simp [*]; done)), H', ⟨by have := HK1.out; omega⟩, att13_0_15⟩
       ·rw [if_neg c7] at H
        have c7b0 : ((rd l0 x5_1) == (rd l1 x5_1)) = false := beq_eq_false_iff_ne.mpr c7
        have c7b1 : ((rd l0 x5_1) != (rd l1 x5_1)) = true := bne_iff_ne.mpr c7
        obtain rfl := Option.some.inj H
        have p432 : 0 ≤ (x5_1 : Int) := of_decide_eq_true att13_0_10
        have q432 : x5_1 < (l0.length : Int) := of_decide_eq_true att13_0_10
        obtain ⟨ad432, e432, hx432_0⟩ := Kd.at_int HR0.out x5_1 p432 q432
        cases e432
        replace p432 := eq_true p432
        replace q432 := eq_true q432
        have p433 : 0 ≤ (x5_1 : Int) := of_decide_eq_true att13_0_10
        have q433 : x5_1 < (l1.length : Int) := of_decide_eq_true att13_0_10
        obtain ⟨ad433, e433, hx433_0⟩ := Kd.at_int HR1.out x5_1 p433 q433
        cases e433
        replace p433 := eq_true p433
        replace q433 := eq_true q433
        go_wp2
        repeat (go_quiet (fail); try go_wp2)
        go_ret
        exact ⟨by first | rfl | (simp; done) | (simp [*]; done), att13_0_15⟩
      ·rw [if_neg c6] at H
       exact absurd H (by simp)
     ·rw [if_neg c5] at H
      exact absurd H (by simp)
    ·rw [if_neg c4] at H
     have c4b0 : decide (x5_1 < (l0.length : Int)) = false := decide_eq_false c4
     clear c4
     obtain rfl := Option.some.inj H
     go_wp2
     repeat (go_quiet (fail); try go_wp2)
     go_ret
     exact ⟨by first | rfl | (simp; done) | (simp [*]; done), att13_0_15⟩
 ·rw [if_neg c3] at H
  have c3b0 : ((l0.length : Int) == (l1.length : Int)) = false := beq_eq_false_iff_ne.mpr c3
  have c3b1 : ((l0.length : Int) != (l1.length : Int)) = true := bne_iff_ne.mpr c3
  have c3b2 : (l0.length == l1.length) = false := by first | simpa using c3 | (simp at c3 ⊢; omega)
  obtain rfl := Option.some.inj H
  go_enter Try.func64, Try.ntmps64
  go_wp2
  repeat (go_quiet (fail); try go_wp2)
  go_ret
  exact ⟨by first | rfl | (simp; done) | (simp [*]; done), att13_0_15⟩

/-! ### spec_Starts: function 65 -/
def spec_Starts.f (k : Nat) (l0_0 : List Int) (l0_1 : List (List (S37))) (a1 : Int) : Option (List Int) := (spec_ProgOk.f k l0_0 l0_1).bind fun t435 => (if t435 = true then ((spec_l1In.f a1 0 (wrap64 ((l0_1.length : Int) - 1))).bind fun t436 => (if t436 = true then (if 0 ≤ a1 then (if a1 < (l0_1.length : Int) then ((spec_l11Starts.f k (rd_L3 l0_1 a1)).bind fun t438 => ((some (([] : List Int) : List Int)).bind fun y441 => (if 0 ≤ (wrap64 ((t438.length : Int) - 1)) then (if (wrap64 ((t438.length : Int) - 1)) ≤ (t438.length : Int) then ((some (t438.take ((wrap64 ((t438.length : Int) - 1)) : Int).toNat : List Int)).bind fun y444 => (if y441.length + y444.length < 17592186044416 then (some (y441 ++ y444)) else (none))) else (none)) else (none)))) else (none)) else (none)) else (some (([] : List Int))))) else (some (([] : List Int))))
theorem spec_Starts.mono : ∀ a0 a1 a2 k, LeO (spec_Starts.f k a0 a1 a2) (spec_Starts.f (k + 1) a0 a1 a2) := by
 intro a0 a1 a2 k
 unfold spec_Starts.f
 repeat' first
   | (with_reducible exact spec_ProgOk.mono _ _ _)
   | (with_reducible exact spec_l11Starts.mono _ _)
   | (with_reducible exact LeO.refl _)
   | (with_reducible exact LeO.none _)
   | (with_reducible refine LeO.ite ?_ ?_)
   | (with_reducible refine LeO.bind ?_ (fun _ => ?_))
   | exact spec_ProgOk.mono _ _ _
   | exact spec_l11Starts.mono _ _
   | exact LeO.none _
   | refine LeO.ite ?_ ?_
   | refine LeO.bind ?_ (fun _ => ?_)
set_option maxHeartbeats 80000000 in
set_option maxRecDepth 100000 in
theorem spec_Starts.calls (k : Nat) (A0_0 : Option Addr) (c0_0 : Nat) (l0_0 : List Int) (A0_1 : Option Addr) (c0_1 : Nat) (l0_1 : List (List (S37))) (a1 : Int) (r : List Int) (w : World) (hr0_0 : Kd.C (Kd.int .i64) w A0_0 l0_0.length l0_0) (hc0_0 : l0_0.length ≤ c0_0) (hr0_1 : Kd.C (Kd.slice 37 k37) w A0_1 l0_1.length l0_1) (hc0_1 : l0_1.length ≤ c0_1) (h : spec_Starts.f k l0_0 l0_1 a1 = some r) :
  Calls Try.prog 65 #[.agg #[.slice A0_0 l0_0.length c0_0, .slice A0_1 l0_1.length c0_1], .int .i64 a1] w fun e w' => ∃ v0_ : Value, e = .returned (v0_) ∧ Kd.R (Kd.int .i64) 3 w' w.heap.size (fun _ => True) v0_ r ∧ Below w.heap.size w w' := by
 have hu30 := Try.underlying30
 have HR0_0 := Aside0.mk hr0_0
 have HC0_0 := Aside0.mk hc0_0
 clear hr0_0 hc0_0
 have HR0_1 := Aside0.mk hr0_1
 have HC0_1 := Aside0.mk hc0_1
 clear hr0_1 hc0_1
 have HB := Aside0.mk (Below.refl w.heap.size w)
 have H : ((spec_ProgOk.f k l0_0 l0_1).bind fun t435 => (if t435 = true then ((spec_l1In.f a1 0 (wrap64 ((l0_1.length : Int) - 1))).bind fun t436 => (if t436 = true then (if 0 ≤ a1 then (if a1 < (l0_1.length : Int) then ((spec_l11Starts.f k (rd_L3 l0_1 a1)).bind fun t438 => ((some (([] : List Int) : List Int)).bind fun y441 => (if 0 ≤ (wrap64 ((t438.length : Int) - 1)) then (if (wrap64 ((t438.length : Int) - 1)) ≤ (t438.length : Int) then ((some (t438.take ((wrap64 ((t438.length : Int) - 1)) : Int).toNat : List Int)).bind fun y444 => (if y441.length + y444.length < 17592186044416 then (some (y441 ++ y444)) else (none))) else (none)) else (none)))) else (none)) else (none)) else (some (([] : List Int))))) else (some (([] : List Int))))) = some r := h
 clear h
 replace H := Option.bind_eq_some_iff.mp H
 obtain ⟨t435, A30, H⟩ := H
 replace H : (if t435 = true then ((spec_l1In.f a1 0 (wrap64 ((l0_1.length : Int) - 1))).bind fun t436 => (if t436 = true then (if 0 ≤ a1 then (if a1 < (l0_1.length : Int) then ((spec_l11Starts.f k (rd_L3 l0_1 a1)).bind fun t438 => ((some (([] : List Int) : List Int)).bind fun y441 => (if 0 ≤ (wrap64 ((t438.length : Int) - 1)) then (if (wrap64 ((t438.length : Int) - 1)) ≤ (t438.length : Int) then ((some (t438.take ((wrap64 ((t438.length : Int) - 1)) : Int).toNat : List Int)).bind fun y444 => (if y441.length + y444.length < 17592186044416 then (some (y441 ++ y444)) else (none))) else (none)) else (none)))) else (none)) else (none)) else (some (([] : List Int))))) else (some (([] : List Int)))) = some r := H
 have A3 := Aside0.mk A30
 clear A30
 by_cases c4 : t435 = true
 ·subst c4
  have H1 : ((spec_l1In.f a1 0 (wrap64 ((l0_1.length : Int) - 1))).bind fun t436 => (if t436 = true then (if 0 ≤ a1 then (if a1 < (l0_1.length : Int) then ((spec_l11Starts.f k (rd_L3 l0_1 a1)).bind fun t438 => ((some (([] : List Int) : List Int)).bind fun y441 => (if 0 ≤ (wrap64 ((t438.length : Int) - 1)) then (if (wrap64 ((t438.length : Int) - 1)) ≤ (t438.length : Int) then ((some (t438.take ((wrap64 ((t438.length : Int) - 1)) : Int).toNat : List Int)).bind fun y444 => (if y441.length + y444.length < 17592186044416 then (some (y441 ++ y444)) else (none))) else (none)) else (none)))) else (none)) else (none)) else (some (([] : List Int))))) = some r := by rw [if_pos rfl] at H; exact H
  clear H
  have H := H1
  clear H1
  replace H := Option.bind_eq_some_iff.mp H
  obtain ⟨t436, A50, H⟩ := H
  replace H : (if t436 = true then (if 0 ≤ a1 then (if a1 < (l0_1.length : Int) then ((spec_l11Starts.f k (rd_L3 l0_1 a1)).bind fun t438 => ((some (([] : List Int) : List Int)).bind fun y441 => (if 0 ≤ (wrap64 ((t438.length : Int) - 1)) then (if (wrap64 ((t438.length : Int) - 1)) ≤ (t438.length : Int) then ((some (t438.take ((wrap64 ((t438.length : Int) - 1)) : Int).toNat : List Int)).bind fun y444 => (if y441.length + y444.length < 17592186044416 then (some (y441 ++ y444)) else (none))) else (none)) else (none)))) else (none)) else (none)) else (some (([] : List Int)))) = some r := H
  have A5 := Aside0.mk A50
  clear A50
  by_cases c6 : t436 = true
  ·subst c6
   have H1 : (if 0 ≤ a1 then (if a1 < (l0_1.length : Int) then ((spec_l11Starts.f k (rd_L3 l0_1 a1)).bind fun t438 => ((some (([] : List Int) : List Int)).bind fun y441 => (if 0 ≤ (wrap64 ((t438.length : Int) - 1)) then (if (wrap64 ((t438.length : Int) - 1)) ≤ (t438.length : Int) then ((some (t438.take ((wrap64 ((t438.length : Int) - 1)) : Int).toNat : List Int)).bind fun y444 => (if y441.length + y444.length < 17592186044416 then (some (y441 ++ y444)) else (none))) else (none)) else (none)))) else (none)) else (none)) = some r := by rw [if_pos rfl] at H; exact H
   clear H
   have H := H1
   clear H1
   by_cases c7 : 0 ≤ a1
   ·rw [if_pos c7] at H
    have c7b0 : decide (0 ≤ a1) = true := decide_eq_true c7
    clear c7
    by_cases c8 : a1 < (l0_1.length : Int)
    ·rw [if_pos c8] at H
     have c8b0 : decide (a1 < (l0_1.length : Int)) = true := decide_eq_true c8
     clear c8
     replace H := Option.bind_eq_some_iff.mp H
     obtain ⟨t438, A90, H⟩ := H
     replace H : ((some (([] : List Int) : List Int)).bind fun y441 => (if 0 ≤ (wrap64 ((t438.length : Int) - 1)) then (if (wrap64 ((t438.length : Int) - 1)) ≤ (t438.length : Int) then ((some (t438.take ((wrap64 ((t438.length : Int) - 1)) : Int).toNat : List Int)).bind fun y444 => (if y441.length + y444.length < 17592186044416 then (some (y441 ++ y444)) else (none))) else (none)) else (none))) = some r := H
     have A9 := Aside0.mk A90
     clear A90
     obtain ⟨y441, hy441⟩ : ∃ y_ : List Int, y_ = (([] : List Int)) := ⟨_, rfl⟩
     replace H : (if 0 ≤ (wrap64 ((t438.length : Int) - 1)) then (if (wrap64 ((t438.length : Int) - 1)) ≤ (t438.length : Int) then ((some (t438.take ((wrap64 ((t438.length : Int) - 1)) : Int).toNat : List Int)).bind fun y444 => (if y441.length + y444.length < 17592186044416 then (some (y441 ++ y444)) else (none))) else (none)) else (none)) = some r := by first | (rw [hy441]; with_reducible exact H) | (have H2_ := (Option.bind_some _ _).symm.trans H; rw [hy441]; with_reducible exact H2_) | (have H2_ := (Option.bind_some _ _).symm.trans H; with_reducible exact H2_) | with_reducible exact H | (rw [hy441]; exact H) | exact H
     have Ny441 := Aside0.mk hy441
     clear hy441
     obtain ⟨ji10, hji10⟩ : ∃ j_ : Int, (wrap64 ((t438.length : Int) - 1)) = j_ := ⟨_, rfl⟩
     replace H : (if 0 ≤ (ji10) then (if (ji10) ≤ (t438.length : Int) then ((some (t438.take ((ji10) : Int).toNat : List Int)).bind fun y444 => (if y441.length + y444.length < 17592186044416 then (some (y441 ++ y444)) else (none))) else (none)) else (none)) = some r := by first | (rw [hji10] at H; exact H) | (simp only [hji10] at H ⊢; exact H)
     (try rw [hji10] at A3)
     (try rw [hji10] at A5)
     (try rw [hji10] at A9)
     have hji10w : (IntKind.i64.wrap ((t438.length : Int) - 1)) = ji10 := (i64_w _).trans hji10
     by_cases c11 : 0 ≤ (ji10)
     ·rw [if_pos c11] at H
      have c11b0 := eq_true c11
      have c11b1 : decide (0 ≤ (ji10)) = true := decide_eq_true c11
      clear c11
      by_cases c12 : (ji10) ≤ (t438.length : Int)
      ·rw [if_pos c12] at H
       have c12b0 := eq_true c12
       have c12b1 : decide ((ji10) ≤ (t438.length : Int)) = true := decide_eq_true c12
       clear c12
       obtain ⟨y444, hy444⟩ : ∃ y_ : List Int, y_ = (t438.take ((ji10) : Int).toNat) := ⟨_, rfl⟩
       replace H : (if y441.length + y444.length < 17592186044416 then (some (y441 ++ y444)) else (none)) = some r := by first | (rw [hy444]; with_reducible exact H) | (have H2_ := (Option.bind_some _ _).symm.trans H; rw [hy444]; with_reducible exact H2_) | (have H2_ := (Option.bind_some _ _).symm.trans H; with_reducible exact H2_) | with_reducible exact H | (rw [hy444]; exact H) | exact H
       have Ny444 := Aside0.mk hy444
       clear hy444
       by_cases c13 : y441.length + y444.length < 17592186044416
       ·rw [if_pos c13] at H
        have LMc13 := Aside0.mk c13
        clear c13
        obtain ⟨y448, hy448⟩ : ∃ y_ : List Int, y_ = (y441 ++ y444) := ⟨_, rfl⟩
        replace H : (some y448) = some r := by first | (rw [hy448]; with_reducible exact H) | (have H2_ := (Option.bind_some _ _).symm.trans H; rw [hy448]; with_reducible exact H2_) | (have H2_ := (Option.bind_some _ _).symm.trans H; with_reducible exact H2_) | with_reducible exact H | (rw [hy448]; exact H) | exact H
        have Ny448 := Aside0.mk hy448
        clear hy448
        obtain rfl := Option.some.inj H
        go_enter Try.func65, Try.ntmps65
        go_wp2_with (first | ((with_reducible refine gate_dst (N := 2) rfl ?_); (try (refine gate_guard (by rfl) ?_; dsimp only)); refine box_event ?hg (N := 2) ?hd (cs := #[.slice A0_0 l0_0.length c0_0, .slice A0_1 l0_1.length c0_1]) (t := 30) ?hr ?_; (case hd => rfl); (case hg => rfl); (case hr => first | (go_simp; done) | (go_simp; rfl)); intro gb434 hg w14 hbox hb; have n0_ := Aside0.mk (below_step att13_0_0 hb); have n1_ := Aside0.mk (hbox); have n2_ := Aside0.mk ((by rw [hg]; exact (below_size att13_0_0) : w.heap.size ≤ gb434)); have n3_ := Aside0.mk ((by rw [hg]; exact (below_size att13_0_0) : w.heap.size ≤ gb434)); clear HB; have HB := n0_; have BK434 := n1_; have GW434 := n2_; have GE434 := n3_; clear n0_ n1_ n2_ n3_; clear hb hbox hg; have hcz15_0 : w14.cell? ⟨gb434, 0, none⟩ = some (.slice A0_0 l0_0.length c0_0) := (blk_cell BK434.out 0).trans rfl; have hcz15_1 : w14.cell? ⟨gb434, 1, none⟩ = some (.slice A0_1 l0_1.length c0_1) := (blk_cell BK434.out 1).trans rfl; have hfz15_0 := blk_frozen BK434.out 0; have hfz15_1 := blk_frozen BK434.out 1) | ((with_reducible refine gate_callee (f := 124) rfl ?_); refine goesL_ (some 7) rfl rfl Try.func124 (by kernel_rfl) rfl #[.agg #[.slice A0_0 l0_0.length c0_0, .slice A0_1 l0_1.length c0_1]] rfl att13_0_2 ?_; (with_reducible refine (spec_ProgOk.calls k _ _ l0_0 _ _ l0_1 true _ ?side1 ?side2 ?side3 ?side4 A3.out).mono ?_); (case side1 => repeat (first | exact (Kd.C_below HR0_0.out HB.out) | (with_reducible refine Kd.C_alloc ?_ _) | (with_reducible refine Kd.C_drewN ?_ _) | (with_reducible refine Kd.C_drew ?_))); (case side2 => exact HC0_0.out); (case side3 => repeat (first | exact (Kd.C_below HR0_1.out HB.out) | (with_reducible refine Kd.C_alloc ?_ _) | (with_reducible refine Kd.C_drewN ?_ _) | (with_reducible refine Kd.C_drew ?_))); (case side4 => exact HC0_1.out); rintro e w16 ⟨rfl, hb⟩; refine ⟨_, rfl, ?_⟩; have n0_ := Aside0.mk (blk_below (g := gb434) (o := .cells #[.slice A0_0 l0_0.length c0_0, .slice A0_1 l0_1.length c0_1] 30 (0, 0)) att13_0_8 hb); have n1_ := Aside0.mk (below_step att13_0_1 hb); clear BK434; clear HB; have BK434 := n0_; have HB := n1_; clear n0_ n1_; (try clear hb); (try clear hb2); (try clear hk); (try clear hi); have hcz17_0 : w16.cell? ⟨gb434, 0, none⟩ = some (.slice A0_0 l0_0.length c0_0) := (blk_cell BK434.out 0).trans rfl; have hcz17_1 : w16.cell? ⟨gb434, 1, none⟩ = some (.slice A0_1 l0_1.length c0_1) := (blk_cell BK434.out 1).trans rfl; have hfz17_0 := blk_frozen BK434.out 0; have hfz17_1 := blk_frozen BK434.out 1) | (go_at_call 118; (with_reducible refine (spec_l1In.calls a1 0 (wrap64 ((l0_1.length : Int) - 1)) true _ A5.out).mono ?_); rintro e w' ⟨rfl, ⟨nd, rfl⟩⟩; have p437 : 0 ≤ (a1 : Int) := of_decide_eq_true att13_0_10; have q437 : a1 < (l0_1.length : Int) := of_decide_eq_true att13_0_10; obtain ⟨ad437, A437_0, c437_0, e437, hx437_0, hl437_0, hi437_0⟩ := at_L3 HR0_1.out a1 p437 q437; cases e437; replace hx437_0 := (HB.out.cell (World.block_lt_of_cell? w _ hx437_0)).trans hx437_0; have HR437_0 := Aside0.mk hi437_0; have HC437_0 := Aside0.mk hl437_0; clear hi437_0 hl437_0; replace p437 := eq_true p437; replace q437 := eq_true q437) | ((with_reducible refine gate_callee (f := 133) rfl ?_); refine goesL_ (some 24) rfl rfl Try.func133 (by kernel_rfl) rfl #[.slice A437_0 (rd_L3 l0_1 a1).length c437_0] rfl att13_0_2 ?_; (with_reducible refine (spec_l11Starts.calls k _ _ (rd_L3 l0_1 a1) t438 _ ?side1 ?side2 A9.out).mono ?_); (case side1 => repeat (first | exact (Kd.C_below HR437_0.out att13_0_1) | (with_reducible refine Kd.C_alloc ?_ _) | (with_reducible refine Kd.C_drewN ?_ _) | (with_reducible refine Kd.C_drew ?_))); (case side2 => exact HC437_0.out); rintro e w18 ⟨v439, rfl, ho0, hb⟩; refine ⟨_, rfl, ?_⟩; have n0_ := Aside0.mk (Kd.R_lower ho0 (below_size att13_0_1)); have n1_ := Aside0.mk (blk_below (g := gb434) (o := .cells #[.slice A0_0 l0_0.length c0_0, .slice (some ad437) l0_1.length c0_1] 30 (0, 0)) att13_0_8 hb); have n2_ := Aside0.mk (below_step att13_0_1 hb); clear BK434; clear HB; have HO440 := n0_; have BK434 := n1_; have HB := n2_; clear n0_ n1_ n2_; (try clear hb); (try clear hb2); (try clear hk); (try clear hi); (try clear ho0)) | ((with_reducible refine gate_dst (N := 25) rfl ?_); (try (refine gate_guard (by rfl) ?_; dsimp only)); refine Kd.R_lit (Kd.int .i64) _ 3 ?hg (N := 25) ?hd (xs := ([] : List Int)) (inner := []) (ok := fun _ => True) (okp := fun _ => True) ?hr ?hp (fun _ hk => hk) trivial (Below.refl _ _) (Nat.le_refl _) (by simp) ?_; (case hd => rfl); (case hg => rfl); (case hr => first | (go_simp; done) | (go_simp; rfl)); (case hp => exact (Reps.none _ _)); intro v442 w19 ho20 hb hg_ hnew_; clear hg_ hnew_; (first | rw [← Ny441.out] at ho20 | (simp only [Int.reduceToNat] at ho20; rw [← Ny441.out] at ho20)); have n0_ := Aside0.mk (Kd.R_elder' att13_0_12 (Kd.R_base ho20) hb); have n1_ := Aside0.mk (Kd.R_lower (Kd.R_new' ho20 (Kd.R_lt att13_0_12)) (below_size att13_0_1)); have n2_ := Aside0.mk (blk_below (g := gb434) (o := .cells #[.slice A0_0 l0_0.length c0_0, .slice (some ad437) l0_1.length c0_1] 30 (0, 0)) att13_0_8 hb); have n3_ := Aside0.mk (below_step att13_0_1 hb); clear HO440; clear BK434; clear HB; have HO440 := n0_; have HO443 := n1_; have BK434 := n2_; have HB := n3_; clear n0_ n1_ n2_ n3_; clear hb ho20; obtain ⟨Ao21, co21, eo21⟩ := Kd.R_slice HO440.out; subst eo21; have q22 : ((ji10) : Int) ≤ ((t438.length : Int) : Int) := of_decide_eq_true att13_0_10; obtain ⟨i022, hi022, _, hsz22, _⟩ := info_parts info3; have hroom22 : t438.length ≤ co21 := (Kd.R_reads' HO440.out).2.1; have hC22 : Kd.C (Kd.int .i64) _ Ao21 t438.length t438 := (Kd.R_reads' HO440.out).2.2; have hcut22 := cut_to (P := Try.prog) 22 3 .i64 Try.underlying22 hi022 Ao21 t438.length co21 (ji10) (of_decide_eq_true att13_0_10) q22 hroom22; have hr22 := Kd.C_take (m := ((ji10) : Int).toNat) hC22 (by omega); have hy22 : y444.length = ((ji10) : Int).toNat := (by rw [Ny444.out, List.length_take]; omega); rw [← Ny444.out] at hr22; rw [← hy22] at hcut22; have HR447 := Aside0.mk hr22; have HC447 := Aside0.mk (show y444.length ≤ co21 from by omega); clear hr22 hC22 hroom22 hi022 hsz22; have KY22 := Aside0.mk hy22; clear hy22; have KL22 := Aside0.mk (show ((ji10) : Int).toNat ≤ t438.length from by omega); replace q22 := eq_true q22) | ((with_reducible refine gate_builtin (b := .append) (xs := #[.tmp 25, .tmp 30]) rfl ?_); (try (refine gate_guard (by rfl) ?_; dsimp only)); at_builtin; refine Kd.R_append_rows (Kd.int .i64) (w0 := w) w.heap.size rfl (.tmp 25) (.tmp 30) 22 3 (.int .i64 0) 8 rfl Try.underlying22 info3 rfl (by decide) (by omega) v442 y441 y444 _ _ _ (fun k_ => some k_ ≠ (.slice Ao21 t438.length co21 : Value).ownBlock) (fun _ => False) rfl rfl ?aO ?aR (fun _ _ h => h) (fun _ h => h.elim) ?aF ?aB ?aS ?aL ?_; (case aR => repeat (first | exact (by repeat (first | (with_reducible exact HR447.out) | (with_reducible refine Kd.C_alloc ?_ _) | (with_reducible refine Kd.C_drewN ?_ _) | (with_reducible refine Kd.C_drew ?_) | exact HR447.out)) | (with_reducible refine Kd.C_alloc ?_ _) | (with_reducible refine Kd.C_drewN ?_ _) | (with_reducible refine Kd.C_drew ?_))); (case aB => exact att13_0_1); (case aF => exact (fun k_ hk => Kd.fresh' (Kd.R_lt att13_0_12) k_ hk)); (case aO => exact (by (with_reducible repeat (first | apply Kd.R_alloc | apply Kd.R_drewN | apply Kd.R_drew)); exact Kd.R_mono HO443.out (fun _ hk => hk.2))); (case aS => exact (below_size att13_0_1)); (case aL => have := LMc13.out; omega); intro v449 w23 ho hb hg hat; rw [← Ny448.out] at ho; have n0_ := Aside0.mk (blk_grown (g := gb434) (o := .cells #[.slice A0_0 l0_0.length c0_0, .slice (some ad437) l0_1.length c0_1] 30 (0, 0)) att13_0_8 hg (Kd.R_ne HO443.out BK434.out (by decide))); have n1_ := Aside0.mk (Kd.R_after (ok := (fun _ => True)) att13_0_12 hg hat); have n2_ := Aside0.mk (hb); have n3_ := Aside0.mk ((show Kd.C (Kd.int .i64) w23 Ao21 y444.length y444 from by rw [Ny444.out]; exact Kd.C_take (m := ((ji10) : Int).toNat) ((Kd.R_reads' (Kd.R_after (ok := (fun _ => True)) att13_0_12 hg hat)).2.2) KL22.out)); have n4_ := Aside0.mk (ho); clear BK434; clear HO440; clear HB; clear HR447; clear HO443; have BK434 := n0_; have HO440 := n1_; have HB := n2_; have HR447 := n3_; have HO450 := n4_; clear n0_ n1_ n2_ n3_ n4_; clear ho hb hg hat))
        go_ret
        exact ⟨_, by first | rfl | (simp [errW_none, errW_some] <;> rfl) | (simp only [← hji10]; first | rfl | (simp [errW_none, errW_some] <;> rfl)) | (simp [*, errW_none, errW_some] <;> rfl), by (with_reducible repeat (first | apply Kd.R_alloc | apply Kd.R_drewN | apply Kd.R_drew)); exact Kd.R_mono HO450.out (fun _ hk => trivial), att13_0_1⟩
       ·rw [if_neg c13] at H
        exact absurd H (by simp)
      ·rw [if_neg c12] at H
       exact absurd H (by simp)
     ·rw [if_neg c11] at H
      exact absurd H (by simp)
    ·rw [if_neg c8] at H
     exact absurd H (by simp)
   ·rw [if_neg c7] at H
    exact absurd H (by simp)
  ·replace c6 := Bool.eq_false_iff.mpr c6
   subst c6
   have H1 : (some (([] : List Int))) = some r := by rw [if_neg (show ¬ (false = true) by decide)] at H; exact H
   clear H
   have H := H1
   clear H1
   obtain ⟨y451, hy451⟩ : ∃ y_ : List Int, y_ = (([] : List Int)) := ⟨_, rfl⟩
   replace H : (some y451) = some r := by first | (rw [hy451]; with_reducible exact H) | (have H2_ := (Option.bind_some _ _).symm.trans H; rw [hy451]; with_reducible exact H2_) | (have H2_ := (Option.bind_some _ _).symm.trans H; with_reducible exact H2_) | with_reducible exact H | (rw [hy451]; exact H) | exact H
   have Ny451 := Aside0.mk hy451
   clear hy451
   obtain rfl := Option.some.inj H
   go_enter Try.func65, Try.ntmps65
   go_wp2_with (first | ((with_reducible refine gate_dst (N := 2) rfl ?_); (try (refine gate_guard (by rfl) ?_; dsimp only)); refine box_event ?hg (N := 2) ?hd (cs := #[.slice A0_0 l0_0.length c0_0, .slice A0_1 l0_1.length c0_1]) (t := 30) ?hr ?_; (case hd => rfl); (case hg => rfl); (case hr => first | (go_simp; done) | (go_simp; rfl)); intro gb434 hg w24 hbox hb; have n0_ := Aside0.mk (below_step att13_0_0 hb); have n1_ := Aside0.mk (hbox); have n2_ := Aside0.mk ((by rw [hg]; exact (below_size att13_0_0) : w.heap.size ≤ gb434)); have n3_ := Aside0.mk ((by rw [hg]; exact (below_size att13_0_0) : w.heap.size ≤ gb434)); clear HB; have HB := n0_; have BK434 := n1_; have GW434 := n2_; have GE434 := n3_; clear n0_ n1_ n2_ n3_; clear hb hbox hg; have hcz25_0 : w24.cell? ⟨gb434, 0, none⟩ = some (.slice A0_0 l0_0.length c0_0) := (blk_cell BK434.out 0).trans rfl; have hcz25_1 : w24.cell? ⟨gb434, 1, none⟩ = some (.slice A0_1 l0_1.length c0_1) := (blk_cell BK434.out 1).trans rfl; have hfz25_0 := blk_frozen BK434.out 0; have hfz25_1 := blk_frozen BK434.out 1) | ((with_reducible refine gate_callee (f := 124) rfl ?_); refine goesL_ (some 7) rfl rfl Try.func124 (by kernel_rfl) rfl #[.agg #[.slice A0_0 l0_0.length c0_0, .slice A0_1 l0_1.length c0_1]] rfl att13_0_2 ?_; (with_reducible refine (spec_ProgOk.calls k _ _ l0_0 _ _ l0_1 true _ ?side1 ?side2 ?side3 ?side4 A3.out).mono ?_); (case side1 => repeat (first | exact (Kd.C_below HR0_0.out HB.out) | (with_reducible refine Kd.C_alloc ?_ _) | (with_reducible refine Kd.C_drewN ?_ _) | (with_reducible refine Kd.C_drew ?_))); (case side2 => exact HC0_0.out); (case side3 => repeat (first | exact (Kd.C_below HR0_1.out HB.out) | (with_reducible refine Kd.C_alloc ?_ _) | (with_reducible refine Kd.C_drewN ?_ _) | (with_reducible refine Kd.C_drew ?_))); (case side4 => exact HC0_1.out); rintro e w26 ⟨rfl, hb⟩; refine ⟨_, rfl, ?_⟩; have n0_ := Aside0.mk (blk_below (g := gb434) (o := .cells #[.slice A0_0 l0_0.length c0_0, .slice A0_1 l0_1.length c0_1] 30 (0, 0)) att13_0_8 hb); have n1_ := Aside0.mk (below_step att13_0_1 hb); clear BK434; clear HB; have BK434 := n0_; have HB := n1_; clear n0_ n1_; (try clear hb); (try clear hb2); (try clear hk); (try clear hi); have hcz27_0 : w26.cell? ⟨gb434, 0, none⟩ = some (.slice A0_0 l0_0.length c0_0) := (blk_cell BK434.out 0).trans rfl; have hcz27_1 : w26.cell? ⟨gb434, 1, none⟩ = some (.slice A0_1 l0_1.length c0_1) := (blk_cell BK434.out 1).trans rfl; have hfz27_0 := blk_frozen BK434.out 0; have hfz27_1 := blk_frozen BK434.out 1) | (go_at_call 118; (with_reducible refine (spec_l1In.calls a1 0 (wrap64 ((l0_1.length : Int) - 1)) false _ A5.out).mono ?_); rintro e w' ⟨rfl, ⟨nd, rfl⟩⟩) | ((with_reducible refine gate_dst (N := 18) rfl ?_); (try (refine gate_guard (by rfl) ?_; dsimp only)); refine Kd.R_lit (Kd.int .i64) _ 3 ?hg (N := 18) ?hd (xs := ([] : List Int)) (inner := []) (ok := fun _ => True) (okp := fun _ => True) ?hr ?hp (fun _ hk => hk) trivial (Below.refl _ _) (Nat.le_refl _) (by simp) ?_; (case hd => rfl); (case hg => rfl); (case hr => first | (go_simp; done) | (go_simp; rfl)); (case hp => exact (Reps.none _ _)); intro v452 w28 ho29 hb hg_ hnew_; clear hg_ hnew_; (first | rw [← Ny451.out] at ho29 | (simp only [Int.reduceToNat] at ho29; rw [← Ny451.out] at ho29)); have n0_ := Aside0.mk (Kd.R_lower ho29 (below_size att13_0_1)); have n1_ := Aside0.mk (blk_below (g := gb434) (o := .cells #[.slice A0_0 l0_0.length c0_0, .slice A0_1 l0_1.length c0_1] 30 (0, 0)) att13_0_8 hb); have n2_ := Aside0.mk (below_step att13_0_1 hb); clear BK434; clear HB; have HO453 := n0_; have BK434 := n1_; have HB := n2_; clear n0_ n1_ n2_; clear hb ho29))
   go_ret
   exact ⟨_, by first | rfl | (simp [errW_none, errW_some] <;> rfl) | (simp [*, errW_none, errW_some] <;> rfl), by (with_reducible repeat (first | apply Kd.R_alloc | apply Kd.R_drewN | apply Kd.R_drew)); exact HO453.out, att13_0_1⟩
 ·replace c4 := Bool.eq_false_iff.mpr c4
  subst c4
  have H1 : (some (([] : List Int))) = some r := by rw [if_neg (show ¬ (false = true) by decide)] at H; exact H
  clear H
  have H := H1
  clear H1
  obtain ⟨y454, hy454⟩ : ∃ y_ : List Int, y_ = (([] : List Int)) := ⟨_, rfl⟩
  replace H : (some y454) = some r := by first | (rw [hy454]; with_reducible exact H) | (have H2_ := (Option.bind_some _ _).symm.trans H; rw [hy454]; with_reducible exact H2_) | (have H2_ := (Option.bind_some _ _).symm.trans H; with_reducible exact H2_) | with_reducible exact H | (rw [hy454]; exact H) | exact H
  have Ny454 := Aside0.mk hy454
  clear hy454
  obtain rfl := Option.some.inj H
  go_enter Try.func65, Try.ntmps65
  go_wp2_with (first | ((with_reducible refine gate_dst (N := 2) rfl ?_); (try (refine gate_guard (by rfl) ?_; dsimp only)); refine box_event ?hg (N := 2) ?hd (cs := #[.slice A0_0 l0_0.length c0_0, .slice A0_1 l0_1.length c0_1]) (t := 30) ?hr ?_; (case hd => rfl); (case hg => rfl); (case hr => first | (go_simp; done) | (go_simp; rfl)); intro gb434 hg w30 hbox hb; have n0_ := Aside0.mk (below_step att13_0_0 hb); have n1_ := Aside0.mk (hbox); have n2_ := Aside0.mk ((by rw [hg]; exact (below_size att13_0_0) : w.heap.size ≤ gb434)); have n3_ := Aside0.mk ((by rw [hg]; exact (below_size att13_0_0) : w.heap.size ≤ gb434)); clear HB; have HB := n0_; have BK434 := n1_; have GW434 := n2_; have GE434 := n3_; clear n0_ n1_ n2_ n3_; clear hb hbox hg; have hcz31_0 : w30.cell? ⟨gb434, 0, none⟩ = some (.slice A0_0 l0_0.length c0_0) := (blk_cell BK434.out 0).trans rfl; have hcz31_1 : w30.cell? ⟨gb434, 1, none⟩ = some (.slice A0_1 l0_1.length c0_1) := (blk_cell BK434.out 1).trans rfl; have hfz31_0 := blk_frozen BK434.out 0; have hfz31_1 := blk_frozen BK434.out 1) | ((with_reducible refine gate_callee (f := 124) rfl ?_); refine goesL_ (some 7) rfl rfl Try.func124 (by kernel_rfl) rfl #[.agg #[.slice A0_0 l0_0.length c0_0, .slice A0_1 l0_1.length c0_1]] rfl att13_0_2 ?_; (with_reducible refine (spec_ProgOk.calls k _ _ l0_0 _ _ l0_1 false _ ?side1 ?side2 ?side3 ?side4 A3.out).mono ?_); (case side1 => repeat (first | exact (Kd.C_below HR0_0.out HB.out) | (with_reducible refine Kd.C_alloc ?_ _) | (with_reducible refine Kd.C_drewN ?_ _) | (with_reducible refine Kd.C_drew ?_))); (case side2 => exact HC0_0.out); (case side3 => repeat (first | exact (Kd.C_below HR0_1.out HB.out) | (with_reducible refine Kd.C_alloc ?_ _) | (with_reducible refine Kd.C_drewN ?_ _) | (with_reducible refine Kd.C_drew ?_))); (case side4 => exact HC0_1.out); rintro e w32 ⟨rfl, hb⟩; refine ⟨_, rfl, ?_⟩; have n0_ := Aside0.mk (blk_below (g := gb434) (o := .cells #[.slice A0_0 l0_0.length c0_0, .slice A0_1 l0_1.length c0_1] 30 (0, 0)) att13_0_8 hb); have n1_ := Aside0.mk (below_step att13_0_1 hb); clear BK434; clear HB; have BK434 := n0_; have HB := n1_; clear n0_ n1_; (try clear hb); (try clear hb2); (try clear hk); (try clear hi)) | ((with_reducible refine gate_dst (N := 18) rfl ?_); (try (refine gate_guard (by rfl) ?_; dsimp only)); refine Kd.R_lit (Kd.int .i64) _ 3 ?hg (N := 18) ?hd (xs := ([] : List Int)) (inner := []) (ok := fun _ => True) (okp := fun _ => True) ?hr ?hp (fun _ hk => hk) trivial (Below.refl _ _) (Nat.le_refl _) (by simp) ?_; (case hd => rfl); (case hg => rfl); (case hr => first | (go_simp; done) | (go_simp; rfl)); (case hp => exact (Reps.none _ _)); intro v455 w33 ho34 hb hg_ hnew_; clear hg_ hnew_; (first | rw [← Ny454.out] at ho34 | (simp only [Int.reduceToNat] at ho34; rw [← Ny454.out] at ho34)); have n0_ := Aside0.mk (Kd.R_lower ho34 (below_size att13_0_1)); have n1_ := Aside0.mk (blk_below (g := gb434) (o := .cells #[.slice A0_0 l0_0.length c0_0, .slice A0_1 l0_1.length c0_1] 30 (0, 0)) att13_0_8 hb); have n2_ := Aside0.mk (below_step att13_0_1 hb); clear BK434; clear HB; have HO456 := n0_; have BK434 := n1_; have HB := n2_; clear n0_ n1_ n2_; clear hb ho34))
  go_ret
  exact ⟨_, by first | rfl | (simp [errW_none, errW_some] <;> rfl) | (simp [*, errW_none, errW_some] <;> rfl), by (with_reducible repeat (first | apply Kd.R_alloc | apply Kd.R_drewN | apply Kd.R_drew)); exact HO456.out, att13_0_1⟩

end Go.Proofs.Ytonlhgkpmjefkaa.XFnPlaces
