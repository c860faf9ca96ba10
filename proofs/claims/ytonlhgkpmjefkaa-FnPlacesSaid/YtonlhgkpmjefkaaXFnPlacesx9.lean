/- Each Go function that the law reaches as a Lean function, and that Go comes to just its answer; written by this session's xprint.py over the kit's printer. -/
import Derived.Test.YtonlhgkpmjefkaaXFnPlacesx0
import Derived.Test.YtonlhgkpmjefkaaXFnPlacesx8
namespace Go.Proofs.Ytonlhgkpmjefkaa.XFnPlaces
open Go.RowKit Go.Proofs.YtonlhgkpmjefkaaW.PrintWords Go.Proofs.YtonlhgkpmjefkaaW.PrintLast Go.Proofs.YtonlhgkpmjefkaaW.PrintMore
attribute [local go_sem] max2_int min2_int max_two min_two max_three min_three max_four min_four   -- for this text's walks alone
set_option linter.unusedVariables false
set_option linter.unusedSimpArgs false

theorem att10_0_0 {p : Prop} (h : p := by repeat (first | (with_reducible first | exact HK.out | apply KeepBut.set_ | apply keep_drewN | apply keep_drew | apply keep_alloc | refine keep_far ?_ GW247.out _) | exact HK.out)) : p := h
theorem att10_0_1 {p : Prop} (h : p := by (with_reducible repeat (first | refine blk_drewN ?_ _ | refine blk_drew ?_ | refine blk_alloc ?_ _)); exact BK247.out) : p := h
theorem att10_0_2 {p : Prop} (h : p := by repeat (first | (with_reducible first | exact HI0.out | apply IsS170.alloc | apply IsS170.drewN | apply IsS170.drew | apply IsS170.set_1 | apply IsS170.set_2 | refine IsS170.far ?_ NB0_247.out _) | exact HI0.out)) : p := h
theorem att10_0_3 {p : Prop} (h : p := by repeat (first | (with_reducible first | exact HB.out | apply below_alloc | apply pw_below_drewN | apply below_drew1 | refine below_set ?_ (IsS170.ge HI0.out) | refine below_set ?_ GE247.out) | exact HB.out)) : p := h
theorem att10_0_4 {p : Prop} (h : p := by (try simp only [List.map_toArray, List.map_cons, List.map_nil]); first | done | rfl | (simp only [List.length_drop, List.length_take]; rfl)) : p := h
theorem att10_0_5 {p : Prop} (h : p := by first | rfl | (simp; done) | (simp [*]; done)) : p := h
theorem att10_0_6 {p : Prop} (h : p := by repeat (first | (with_reducible first | exact HK.out | apply KeepBut.set_ | apply keep_drewN | apply keep_drew | apply keep_alloc) | exact HK.out)) : p := h
theorem att10_0_7 {p : Prop} (h : p := by have := HJ9.out; have := HJ22.out; have := HJ29.out; first | omega | exact Nat.le_refl _) : p := h
theorem att10_0_8 {p : Prop} (h : p := by have := HJ9.out; have := HJ22.out; first | omega | exact Nat.le_refl _) : p := h
/-! ### spec_l1DrawIns: function 94 -/
mutual
def spec_l1DrawIns.j0 : Nat → Int → Int → Int → Int → Int → Int → Bool → List Int → Int → Int → Option (Int × Int × Int × Int × Int × Int × Int)
 | 0, _, _, _, _, _, _, _, _, _, _ => none
 | k + 1, x1, x7, x8, x9, x10, x22, x23, x1000, x1001, x1002 => if x23 = true then ((spec_l1Below.f x1000 x1001 x1002 9).bind fun bt264 => (some (1, x7, 0, 0, wrap64 (bt264.1 - 2), bt264.2.1, bt264.2.2))) else (if x22 = 2 then (spec_l1DrawIns.j1 k x1 x7 x8 x9 x10 x22 (x22 == 2) x1000 x1001 x1002) else (spec_l1DrawIns.j1 k x1 x7 x8 x9 x10 x22 (x22 == 3) x1000 x1001 x1002))
def spec_l1DrawIns.j1 : Nat → Int → Int → Int → Int → Int → Int → Bool → List Int → Int → Int → Option (Int × Int × Int × Int × Int × Int × Int)
 | 0, _, _, _, _, _, _, _, _, _, _ => none
 | k + 1, x1, x7, x8, x9, x10, x22, x31, x1000, x1001, x1002 => if x31 = true then ((spec_l1Below.f x1000 x1001 x1002 3).bind fun bt267 => (some (wrap64 (2 + bt267.1), x7, x8, x9, 0, bt267.2.1, bt267.2.2))) else (if x22 = 4 then (spec_l1DrawIns.j2 k x1 x7 x8 x10 x22 (x22 == 4) x1000 x1001 x1002) else (if x22 = 5 then (spec_l1DrawIns.j2 k x1 x7 x8 x10 x22 (x22 == 5) x1000 x1001 x1002) else (spec_l1DrawIns.j2 k x1 x7 x8 x10 x22 (x22 == 6) x1000 x1001 x1002)))
def spec_l1DrawIns.j2 : Nat → Int → Int → Int → Int → Int → Bool → List Int → Int → Int → Option (Int × Int × Int × Int × Int × Int × Int)
 | 0, _, _, _, _, _, _, _, _, _ => none
 | k + 1, x1, x7, x8, x10, x22, x41, x1000, x1001, x1002 => if x41 = true then (some (5, 0, x8, 0, x10, x1001, x1002)) else (if x22 = 7 then (spec_l1DrawIns.j3 k x1 x7 x8 x10 x22 (x22 == 7) x1000 x1001 x1002) else (if x22 = 8 then (spec_l1DrawIns.j3 k x1 x7 x8 x10 x22 (x22 == 8) x1000 x1001 x1002) else (spec_l1DrawIns.j3 k x1 x7 x8 x10 x22 (x22 == 9) x1000 x1001 x1002)))
def spec_l1DrawIns.j3 : Nat → Int → Int → Int → Int → Int → Bool → List Int → Int → Int → Option (Int × Int × Int × Int × Int × Int × Int)
 | 0, _, _, _, _, _, _, _, _, _ => none
 | k + 1, x1, x7, x8, x10, x22, x48, x1000, x1001, x1002 => if x48 = true then (some (6, x7, 0, Int.tmod (wrap64 (x7 + 1)) 4, x10, x1001, x1002)) else (if x22 = 10 then (some (7, x7, x8, 0, x10, x1001, x1002)) else (if x22 = 11 then (some (8, x7, 0, Int.tmod (wrap64 (x7 + 1)) 4, x10, x1001, x1002)) else (if x22 = 12 then ((spec_l1Once.f x1000 x1001 x1002 3).bind fun bt270 => (if bt270.1 = true then (some (9, 0, 0, 0, x10, bt270.2.1, bt270.2.2)) else ((spec_l1Below.f x1000 bt270.2.1 bt270.2.2 x1).bind fun bt273 => (some (11, 0, 0, 0, bt273.1, bt273.2.1, bt273.2.2))))) else (if x22 = 13 then ((spec_l1Below.f x1000 x1001 x1002 x1).bind fun bt276 => (some (12, 0, x8, 0, bt276.1, bt276.2.1, bt276.2.2))) else (some (10, 0, x8, 0, 0, x1001, x1002))))))
end
def spec_l1DrawIns.f (k : Nat) (s0_0 : List Int) (s0_1 : Int) (s0_2 : Int) (a1 : Int) (a2 : Int) : Option (Int × Int × Int × Int × Int × Int × Int) := (spec_l1Below.f s0_0 s0_1 s0_2 4).bind fun bt248 => ((spec_l1Below.f s0_0 bt248.2.1 bt248.2.2 4).bind fun bt251 => ((spec_l1Below.f s0_0 bt251.2.1 bt251.2.2 4).bind fun bt254 => ((spec_l1Max.f a2 1).bind fun t257 => ((spec_l1Below.f s0_0 bt254.2.1 bt254.2.2 t257).bind fun bt258 => ((spec_l1Below.f s0_0 bt258.2.1 bt258.2.2 16).bind fun bt261 => (if bt261.1 = 0 then (spec_l1DrawIns.j0 k a1 bt248.1 bt251.1 bt254.1 bt258.1 bt261.1 (bt261.1 == 0) s0_0 bt261.2.1 bt261.2.2) else (spec_l1DrawIns.j0 k a1 bt248.1 bt251.1 bt254.1 bt258.1 bt261.1 (bt261.1 == 1) s0_0 bt261.2.1 bt261.2.2)))))))
theorem spec_l1DrawIns.mono_l : ∀ k, (∀ y0 y1 y2 y3 y4 y5 y6 y7 y8 y9, LeO (spec_l1DrawIns.j0 k y0 y1 y2 y3 y4 y5 y6 y7 y8 y9) (spec_l1DrawIns.j0 (k + 1) y0 y1 y2 y3 y4 y5 y6 y7 y8 y9)) ∧ (∀ y0 y1 y2 y3 y4 y5 y6 y7 y8 y9, LeO (spec_l1DrawIns.j1 k y0 y1 y2 y3 y4 y5 y6 y7 y8 y9) (spec_l1DrawIns.j1 (k + 1) y0 y1 y2 y3 y4 y5 y6 y7 y8 y9)) ∧ (∀ y0 y1 y2 y3 y4 y5 y6 y7 y8, LeO (spec_l1DrawIns.j2 k y0 y1 y2 y3 y4 y5 y6 y7 y8) (spec_l1DrawIns.j2 (k + 1) y0 y1 y2 y3 y4 y5 y6 y7 y8)) ∧ (∀ y0 y1 y2 y3 y4 y5 y6 y7 y8, LeO (spec_l1DrawIns.j3 k y0 y1 y2 y3 y4 y5 y6 y7 y8) (spec_l1DrawIns.j3 (k + 1) y0 y1 y2 y3 y4 y5 y6 y7 y8))
 | 0 => ⟨fun _ _ _ _ _ _ _ _ _ _ r h => by simp [spec_l1DrawIns.j0] at h, fun _ _ _ _ _ _ _ _ _ _ r h => by simp [spec_l1DrawIns.j1] at h, fun _ _ _ _ _ _ _ _ _ r h => by simp [spec_l1DrawIns.j2] at h, fun _ _ _ _ _ _ _ _ _ r h => by simp [spec_l1DrawIns.j3] at h⟩
 | k + 1 => by
  obtain ⟨ih0, ih1, ih2, ih3⟩ := spec_l1DrawIns.mono_l k
  refine ⟨?_, ?_, ?_, ?_⟩
  ·intro y0 y1 y2 y3 y4 y5 y6 y7 y8 y9
   unfold spec_l1DrawIns.j0
   repeat' first
   | (with_reducible exact ih0 _ _ _ _ _ _ _ _ _ _)
   | (with_reducible exact ih1 _ _ _ _ _ _ _ _ _ _)
   | (with_reducible exact ih2 _ _ _ _ _ _ _ _ _)
   | (with_reducible exact ih3 _ _ _ _ _ _ _ _ _)
   | (with_reducible exact LeO.refl _)
   | (with_reducible exact LeO.none _)
   | (with_reducible refine LeO.ite ?_ ?_)
   | (with_reducible refine LeO.bind ?_ (fun _ => ?_))
   | exact ih0 _ _ _ _ _ _ _ _ _ _
   | exact ih1 _ _ _ _ _ _ _ _ _ _
   | exact ih2 _ _ _ _ _ _ _ _ _
   | exact ih3 _ _ _ _ _ _ _ _ _
   | exact LeO.none _
   | refine LeO.ite ?_ ?_
   | refine LeO.bind ?_ (fun _ => ?_)
  ·intro y0 y1 y2 y3 y4 y5 y6 y7 y8 y9
   unfold spec_l1DrawIns.j1
   repeat' first
   | (with_reducible exact ih0 _ _ _ _ _ _ _ _ _ _)
   | (with_reducible exact ih1 _ _ _ _ _ _ _ _ _ _)
   | (with_reducible exact ih2 _ _ _ _ _ _ _ _ _)
   | (with_reducible exact ih3 _ _ _ _ _ _ _ _ _)
   | (with_reducible exact LeO.refl _)
   | (with_reducible exact LeO.none _)
   | (with_reducible refine LeO.ite ?_ ?_)
   | (with_reducible refine LeO.bind ?_ (fun _ => ?_))
   | exact ih0 _ _ _ _ _ _ _ _ _ _
   | exact ih1 _ _ _ _ _ _ _ _ _ _
   | exact ih2 _ _ _ _ _ _ _ _ _
   | exact ih3 _ _ _ _ _ _ _ _ _
   | exact LeO.none _
   | refine LeO.ite ?_ ?_
   | refine LeO.bind ?_ (fun _ => ?_)
  ·intro y0 y1 y2 y3 y4 y5 y6 y7 y8
   unfold spec_l1DrawIns.j2
   repeat' first
   | (with_reducible exact ih0 _ _ _ _ _ _ _ _ _ _)
   | (with_reducible exact ih1 _ _ _ _ _ _ _ _ _ _)
   | (with_reducible exact ih2 _ _ _ _ _ _ _ _ _)
   | (with_reducible exact ih3 _ _ _ _ _ _ _ _ _)
   | (with_reducible exact LeO.refl _)
   | (with_reducible exact LeO.none _)
   | (with_reducible refine LeO.ite ?_ ?_)
   | (with_reducible refine LeO.bind ?_ (fun _ => ?_))
   | exact ih0 _ _ _ _ _ _ _ _ _ _
   | exact ih1 _ _ _ _ _ _ _ _ _ _
   | exact ih2 _ _ _ _ _ _ _ _ _
   | exact ih3 _ _ _ _ _ _ _ _ _
   | exact LeO.none _
   | refine LeO.ite ?_ ?_
   | refine LeO.bind ?_ (fun _ => ?_)
  ·intro y0 y1 y2 y3 y4 y5 y6 y7 y8
   unfold spec_l1DrawIns.j3
   repeat' first
   | (with_reducible exact ih0 _ _ _ _ _ _ _ _ _ _)
   | (with_reducible exact ih1 _ _ _ _ _ _ _ _ _ _)
   | (with_reducible exact ih2 _ _ _ _ _ _ _ _ _)
   | (with_reducible exact ih3 _ _ _ _ _ _ _ _ _)
   | (with_reducible exact LeO.refl _)
   | (with_reducible exact LeO.none _)
   | (with_reducible refine LeO.ite ?_ ?_)
   | (with_reducible refine LeO.bind ?_ (fun _ => ?_))
   | exact ih0 _ _ _ _ _ _ _ _ _ _
   | exact ih1 _ _ _ _ _ _ _ _ _ _
   | exact ih2 _ _ _ _ _ _ _ _ _
   | exact ih3 _ _ _ _ _ _ _ _ _
   | exact LeO.none _
   | refine LeO.ite ?_ ?_
   | refine LeO.bind ?_ (fun _ => ?_)
theorem spec_l1DrawIns.mono : ∀ a0 a1 a2 a3 a4 k, LeO (spec_l1DrawIns.f k a0 a1 a2 a3 a4) (spec_l1DrawIns.f (k + 1) a0 a1 a2 a3 a4) := by
 intro a0 a1 a2 a3 a4 k
 obtain ⟨ih0, ih1, ih2, ih3⟩ := spec_l1DrawIns.mono_l k
 unfold spec_l1DrawIns.f
 repeat' first
   | (with_reducible exact ih0 _ _ _ _ _ _ _ _ _ _)
   | (with_reducible exact ih1 _ _ _ _ _ _ _ _ _ _)
   | (with_reducible exact ih2 _ _ _ _ _ _ _ _ _)
   | (with_reducible exact ih3 _ _ _ _ _ _ _ _ _)
   | (with_reducible exact LeO.refl _)
   | (with_reducible exact LeO.none _)
   | (with_reducible refine LeO.ite ?_ ?_)
   | (with_reducible refine LeO.bind ?_ (fun _ => ?_))
   | exact ih0 _ _ _ _ _ _ _ _ _ _
   | exact ih1 _ _ _ _ _ _ _ _ _ _
   | exact ih2 _ _ _ _ _ _ _ _ _
   | exact ih3 _ _ _ _ _ _ _ _ _
   | exact LeO.none _
   | refine LeO.ite ?_ ?_
   | refine LeO.bind ?_ (fun _ => ?_)
set_option maxHeartbeats 80000000 in
set_option maxRecDepth 100000 in
theorem spec_l1DrawIns.calls (k : Nat) (g : Nat) (s0_0 : List Int) (s0_1 : Int) (s0_2 : Int) (a1 : Int) (a2 : Int) (r1 : Int) (r2 : Int) (r3 : Int) (r4 : Int) (r5 : Int) (r6 : Int) (r7 : Int) (w0 w : World) (hI : IsS170 w0 w g s0_0 s0_1 s0_2) (hB : Below w0.heap.size w0 w) (h : spec_l1DrawIns.f k s0_0 s0_1 s0_2 a1 a2 = some (r1, r2, r3, r4, r5, r6, r7)) :
  Calls Try.prog 94 #[.pointer (some ⟨g, 0, none⟩), .int .i64 a1, .int .i64 a2] w fun e w' => e = .returned (.agg #[.int .i64 r1, .int .i64 r2, .int .i64 r3, .int .i64 r4, .int .i64 r5]) ∧ IsS170 w0 w' g s0_0 r6 r7 ∧ Below w0.heap.size w0 w' ∧ KeepBut w w' g none := by
 have hu37 := Try.underlying37
 have HI0 := Aside0.mk hI
 have HK := Aside0.mk (KeepBut.refl w g none)
 have HL := Aside0.mk hB.size
 clear hI
 have HW0 := Aside0.mk hB.size
 have HB := Aside0.mk hB
 clear hB
 have H : ((spec_l1Below.f s0_0 s0_1 s0_2 4).bind fun bt248 => ((spec_l1Below.f s0_0 bt248.2.1 bt248.2.2 4).bind fun bt251 => ((spec_l1Below.f s0_0 bt251.2.1 bt251.2.2 4).bind fun bt254 => ((spec_l1Max.f a2 1).bind fun t257 => ((spec_l1Below.f s0_0 bt254.2.1 bt254.2.2 t257).bind fun bt258 => ((spec_l1Below.f s0_0 bt258.2.1 bt258.2.2 16).bind fun bt261 => (if bt261.1 = 0 then (spec_l1DrawIns.j0 k a1 bt248.1 bt251.1 bt254.1 bt258.1 bt261.1 (bt261.1 == 0) s0_0 bt261.2.1 bt261.2.2) else (spec_l1DrawIns.j0 k a1 bt248.1 bt251.1 bt254.1 bt258.1 bt261.1 (bt261.1 == 1) s0_0 bt261.2.1 bt261.2.2)))))))) = some (r1, r2, r3, r4, r5, r6, r7) := h
 clear h
 replace H := Option.bind_eq_some_iff.mp H
 obtain ⟨⟨t248, t249, t250⟩, A40, H⟩ := H
 replace H : ((spec_l1Below.f s0_0 t249 t250 4).bind fun bt251 => ((spec_l1Below.f s0_0 bt251.2.1 bt251.2.2 4).bind fun bt254 => ((spec_l1Max.f a2 1).bind fun t257 => ((spec_l1Below.f s0_0 bt254.2.1 bt254.2.2 t257).bind fun bt258 => ((spec_l1Below.f s0_0 bt258.2.1 bt258.2.2 16).bind fun bt261 => (if bt261.1 = 0 then (spec_l1DrawIns.j0 k a1 t248 bt251.1 bt254.1 bt258.1 bt261.1 (bt261.1 == 0) s0_0 bt261.2.1 bt261.2.2) else (spec_l1DrawIns.j0 k a1 t248 bt251.1 bt254.1 bt258.1 bt261.1 (bt261.1 == 1) s0_0 bt261.2.1 bt261.2.2))))))) = some (r1, r2, r3, r4, r5, r6, r7) := H
 have A4 := Aside0.mk A40
 clear A40
 replace H := Option.bind_eq_some_iff.mp H
 obtain ⟨⟨t251, t252, t253⟩, A50, H⟩ := H
 replace H : ((spec_l1Below.f s0_0 t252 t253 4).bind fun bt254 => ((spec_l1Max.f a2 1).bind fun t257 => ((spec_l1Below.f s0_0 bt254.2.1 bt254.2.2 t257).bind fun bt258 => ((spec_l1Below.f s0_0 bt258.2.1 bt258.2.2 16).bind fun bt261 => (if bt261.1 = 0 then (spec_l1DrawIns.j0 k a1 t248 t251 bt254.1 bt258.1 bt261.1 (bt261.1 == 0) s0_0 bt261.2.1 bt261.2.2) else (spec_l1DrawIns.j0 k a1 t248 t251 bt254.1 bt258.1 bt261.1 (bt261.1 == 1) s0_0 bt261.2.1 bt261.2.2)))))) = some (r1, r2, r3, r4, r5, r6, r7) := H
 have A5 := Aside0.mk A50
 clear A50
 replace H := Option.bind_eq_some_iff.mp H
 obtain ⟨⟨t254, t255, t256⟩, A60, H⟩ := H
 replace H : ((spec_l1Max.f a2 1).bind fun t257 => ((spec_l1Below.f s0_0 t255 t256 t257).bind fun bt258 => ((spec_l1Below.f s0_0 bt258.2.1 bt258.2.2 16).bind fun bt261 => (if bt261.1 = 0 then (spec_l1DrawIns.j0 k a1 t248 t251 t254 bt258.1 bt261.1 (bt261.1 == 0) s0_0 bt261.2.1 bt261.2.2) else (spec_l1DrawIns.j0 k a1 t248 t251 t254 bt258.1 bt261.1 (bt261.1 == 1) s0_0 bt261.2.1 bt261.2.2))))) = some (r1, r2, r3, r4, r5, r6, r7) := H
 have A6 := Aside0.mk A60
 clear A60
 replace H := Option.bind_eq_some_iff.mp H
 obtain ⟨t257, A70, H⟩ := H
 replace H : ((spec_l1Below.f s0_0 t255 t256 t257).bind fun bt258 => ((spec_l1Below.f s0_0 bt258.2.1 bt258.2.2 16).bind fun bt261 => (if bt261.1 = 0 then (spec_l1DrawIns.j0 k a1 t248 t251 t254 bt258.1 bt261.1 (bt261.1 == 0) s0_0 bt261.2.1 bt261.2.2) else (spec_l1DrawIns.j0 k a1 t248 t251 t254 bt258.1 bt261.1 (bt261.1 == 1) s0_0 bt261.2.1 bt261.2.2)))) = some (r1, r2, r3, r4, r5, r6, r7) := H
 have A7 := Aside0.mk A70
 clear A70
 replace H := Option.bind_eq_some_iff.mp H
 obtain ⟨⟨t258, t259, t260⟩, A80, H⟩ := H
 replace H : ((spec_l1Below.f s0_0 t259 t260 16).bind fun bt261 => (if bt261.1 = 0 then (spec_l1DrawIns.j0 k a1 t248 t251 t254 t258 bt261.1 (bt261.1 == 0) s0_0 bt261.2.1 bt261.2.2) else (spec_l1DrawIns.j0 k a1 t248 t251 t254 t258 bt261.1 (bt261.1 == 1) s0_0 bt261.2.1 bt261.2.2))) = some (r1, r2, r3, r4, r5, r6, r7) := H
 have A8 := Aside0.mk A80
 clear A80
 replace H := Option.bind_eq_some_iff.mp H
 obtain ⟨⟨t261, t262, t263⟩, A90, H⟩ := H
 replace H : (if t261 = 0 then (spec_l1DrawIns.j0 k a1 t248 t251 t254 t258 t261 (t261 == 0) s0_0 t262 t263) else (spec_l1DrawIns.j0 k a1 t248 t251 t254 t258 t261 (t261 == 1) s0_0 t262 t263)) = some (r1, r2, r3, r4, r5, r6, r7) := H
 have A9 := Aside0.mk A90
 clear A90
 have HC10 := Aside0.mk H
 clear H
 go_enter Try.func94, Try.ntmps94
 go_upto_if 23 with (first | ((with_reducible refine gate_dst (N := 6) rfl ?_); refine box_event ?hg (N := 6) ?hd (cs := #[.int .i64 0, .int .i64 0, .int .i64 0, .int .i64 0, .int .i64 0]) (t := 37) ?hr ?_; (case hd => rfl); (case hg => rfl); (case hr => first | (go_simp; done) | (go_simp; rfl)); intro gb247 hg w11 hbox hb; have n0_ := Aside0.mk (IsS170.below (by repeat (first | (with_reducible first | exact HI0.out | apply IsS170.alloc | apply IsS170.drewN | apply IsS170.drew | apply IsS170.set_1 | apply IsS170.set_2) | exact HI0.out)) hb); have n1_ := Aside0.mk (KeepBut.trans att10_0_6 (KeepBut.of_below hb g none) (.inl rfl)); have n2_ := Aside0.mk (below_step (by repeat (first | (with_reducible first | exact HB.out | apply below_alloc | apply pw_below_drewN | apply below_drew1 | refine below_set ?_ (IsS170.ge HI0.out)) | exact HB.out)) hb); have n3_ := Aside0.mk (hbox); have n4_ := Aside0.mk ((by rw [hg]; exact (keep_size (w := w) (g := g) (row := none) att10_0_6) : w.heap.size ≤ gb247)); have n5_ := Aside0.mk ((Nat.le_trans HW0.out (by rw [hg]; exact (keep_size (w := w) (g := g) (row := none) att10_0_6) : w.heap.size ≤ gb247) : w0.heap.size ≤ gb247)); have n6_ := Aside0.mk ((by rw [hg]; exact Nat.ne_of_lt (IsS170.lt (show IsS170 w0 _ g s0_0 s0_1 s0_2 from by repeat (first | (with_reducible first | exact HI0.out | apply IsS170.alloc | apply IsS170.drewN | apply IsS170.drew | apply IsS170.set_1 | apply IsS170.set_2) | exact HI0.out))) : g ≠ gb247)); have n7_ := Aside0.mk ((by rw [hg]; exact Nat.ne_of_gt (IsS170.lt (show IsS170 w0 _ g s0_0 s0_1 s0_2 from by repeat (first | (with_reducible first | exact HI0.out | apply IsS170.alloc | apply IsS170.drewN | apply IsS170.drew | apply IsS170.set_1 | apply IsS170.set_2) | exact HI0.out))) : gb247 ≠ g)); clear HI0; clear HK; clear HB; have HI0 := n0_; have HK := n1_; have HB := n2_; have BK247 := n3_; have GW247 := n4_; have GE247 := n5_; have NB0_247 := n6_; have NB247_0 := n7_; clear n0_ n1_ n2_ n3_ n4_ n5_ n6_ n7_; clear hb hbox hg) | ((with_reducible refine gate_callee (f := 97) rfl ?_); refine goesL_ (some 12) rfl rfl Try.func97 (by kernel_rfl) rfl #[.pointer (some ⟨g, 0, none⟩), .int .i64 4] rfl att10_0_4 ?_; (with_reducible refine (spec_l1Below.calls g s0_0 s0_1 s0_2 4 t248 t249 t250 w0 _ ?side1 ?side2 A4.out).mono ?_); (case side1 => repeat (first | (with_reducible first | exact HI0.out | apply IsS170.alloc | apply IsS170.drewN | apply IsS170.drew | apply IsS170.set_1 | apply IsS170.set_2 | refine IsS170.far ?_ NB0_247.out _) | exact HI0.out)); (case side2 => repeat (first | (with_reducible first | exact HB.out | apply below_alloc | apply pw_below_drewN | apply below_drew1 | refine below_set ?_ (IsS170.ge HI0.out) | refine below_set ?_ GE247.out) | exact HB.out)); rintro e w12 ⟨rfl, hi, hb, hk⟩; refine ⟨_, rfl, ?_⟩; have n0_ := Aside0.mk (KeepBut.blk hk (g' := gb247) (o := .cells #[.int .i64 0, .int .i64 0, .int .i64 0, .int .i64 0, .int .i64 0] 37 (0, 0)) att10_0_1 NB247_0.out (by simp)); have n1_ := Aside0.mk (KeepBut.trans att10_0_0 hk (.inl rfl)); have n2_ := Aside0.mk (hb); have n3_ := Aside0.mk (hi); clear BK247; clear HK; clear HB; clear HI0; have BK247 := n0_; have HK := n1_; have HB := n2_; have HI0 := n3_; clear n0_ n1_ n2_ n3_; (try clear hb); (try clear hb2); (try clear hk); (try clear hi)) | ((with_reducible refine gate_callee (f := 97) rfl ?_); refine goesL_ (some 14) rfl rfl Try.func97 (by kernel_rfl) rfl #[.pointer (some ⟨g, 0, none⟩), .int .i64 4] rfl att10_0_4 ?_; (with_reducible refine (spec_l1Below.calls g s0_0 t249 t250 4 t251 t252 t253 w0 _ ?side1 ?side2 A5.out).mono ?_); (case side1 => repeat (first | (with_reducible first | exact HI0.out | apply IsS170.alloc | apply IsS170.drewN | apply IsS170.drew | apply IsS170.set_1 | apply IsS170.set_2 | refine IsS170.far ?_ NB0_247.out _) | exact HI0.out)); (case side2 => repeat (first | (with_reducible first | exact HB.out | apply below_alloc | apply pw_below_drewN | apply below_drew1 | refine below_set ?_ (IsS170.ge HI0.out) | refine below_set ?_ GE247.out) | exact HB.out)); rintro e w13 ⟨rfl, hi, hb, hk⟩; refine ⟨_, rfl, ?_⟩; have n0_ := Aside0.mk (KeepBut.blk hk (g' := gb247) (o := .cells #[.int .i64 0, .int .i64 0, .int .i64 0, .int .i64 0, .int .i64 0] 37 (0, 0)) att10_0_1 NB247_0.out (by simp)); have n1_ := Aside0.mk (KeepBut.trans att10_0_0 hk (.inl rfl)); have n2_ := Aside0.mk (hb); have n3_ := Aside0.mk (hi); clear BK247; clear HK; clear HB; clear HI0; have BK247 := n0_; have HK := n1_; have HB := n2_; have HI0 := n3_; clear n0_ n1_ n2_ n3_; (try clear hb); (try clear hb2); (try clear hk); (try clear hi)) | ((with_reducible refine gate_callee (f := 97) rfl ?_); refine goesL_ (some 16) rfl rfl Try.func97 (by kernel_rfl) rfl #[.pointer (some ⟨g, 0, none⟩), .int .i64 4] rfl att10_0_4 ?_; (with_reducible refine (spec_l1Below.calls g s0_0 t252 t253 4 t254 t255 t256 w0 _ ?side1 ?side2 A6.out).mono ?_); (case side1 => repeat (first | (with_reducible first | exact HI0.out | apply IsS170.alloc | apply IsS170.drewN | apply IsS170.drew | apply IsS170.set_1 | apply IsS170.set_2 | refine IsS170.far ?_ NB0_247.out _) | exact HI0.out)); (case side2 => repeat (first | (with_reducible first | exact HB.out | apply below_alloc | apply pw_below_drewN | apply below_drew1 | refine below_set ?_ (IsS170.ge HI0.out) | refine below_set ?_ GE247.out) | exact HB.out)); rintro e w14 ⟨rfl, hi, hb, hk⟩; refine ⟨_, rfl, ?_⟩; have n0_ := Aside0.mk (KeepBut.blk hk (g' := gb247) (o := .cells #[.int .i64 0, .int .i64 0, .int .i64 0, .int .i64 0, .int .i64 0] 37 (0, 0)) att10_0_1 NB247_0.out (by simp)); have n1_ := Aside0.mk (KeepBut.trans att10_0_0 hk (.inl rfl)); have n2_ := Aside0.mk (hb); have n3_ := Aside0.mk (hi); clear BK247; clear HK; clear HB; clear HI0; have BK247 := n0_; have HK := n1_; have HB := n2_; have HI0 := n3_; clear n0_ n1_ n2_ n3_; (try clear hb); (try clear hb2); (try clear hk); (try clear hi)) | ((with_reducible refine gate_callee (f := 162) rfl ?_); refine goesL_ (some 19) rfl rfl Try.func162 (by kernel_rfl) rfl #[.int .i64 a2, .int .i64 1] rfl att10_0_4 ?_; (with_reducible refine (spec_l1Max.calls a2 1 t257 _ A7.out).mono ?_); rintro e w' ⟨rfl, ⟨nd, rfl⟩⟩; refine ⟨_, rfl, ?_⟩) | ((with_reducible refine gate_callee (f := 97) rfl ?_); refine goesL_ (some 20) rfl rfl Try.func97 (by kernel_rfl) rfl #[.pointer (some ⟨g, 0, none⟩), .int .i64 t257] rfl att10_0_4 ?_; (with_reducible refine (spec_l1Below.calls g s0_0 t255 t256 t257 t258 t259 t260 w0 _ ?side1 ?side2 A8.out).mono ?_); (case side1 => repeat (first | (with_reducible first | exact HI0.out | apply IsS170.alloc | apply IsS170.drewN | apply IsS170.drew | apply IsS170.set_1 | apply IsS170.set_2 | refine IsS170.far ?_ NB0_247.out _) | exact HI0.out)); (case side2 => repeat (first | (with_reducible first | exact HB.out | apply below_alloc | apply pw_below_drewN | apply below_drew1 | refine below_set ?_ (IsS170.ge HI0.out) | refine below_set ?_ GE247.out) | exact HB.out)); rintro e w15 ⟨rfl, hi, hb, hk⟩; refine ⟨_, rfl, ?_⟩; have n0_ := Aside0.mk (KeepBut.blk hk (g' := gb247) (o := .cells #[.int .i64 0, .int .i64 0, .int .i64 0, .int .i64 0, .int .i64 0] 37 (0, 0)) att10_0_1 NB247_0.out (by simp)); have n1_ := Aside0.mk (KeepBut.trans att10_0_0 hk (.inl rfl)); have n2_ := Aside0.mk (hb); have n3_ := Aside0.mk (hi); clear BK247; clear HK; clear HB; clear HI0; have BK247 := n0_; have HK := n1_; have HB := n2_; have HI0 := n3_; clear n0_ n1_ n2_ n3_; (try clear hb); (try clear hb2); (try clear hk); (try clear hi)) | ((with_reducible refine gate_callee (f := 97) rfl ?_); refine goesL_ (some 22) rfl rfl Try.func97 (by kernel_rfl) rfl #[.pointer (some ⟨g, 0, none⟩), .int .i64 16] rfl att10_0_4 ?_; (with_reducible refine (spec_l1Below.calls g s0_0 t259 t260 16 t261 t262 t263 w0 _ ?side1 ?side2 A9.out).mono ?_); (case side1 => repeat (first | (with_reducible first | exact HI0.out | apply IsS170.alloc | apply IsS170.drewN | apply IsS170.drew | apply IsS170.set_1 | apply IsS170.set_2 | refine IsS170.far ?_ NB0_247.out _) | exact HI0.out)); (case side2 => repeat (first | (with_reducible first | exact HB.out | apply below_alloc | apply pw_below_drewN | apply below_drew1 | refine below_set ?_ (IsS170.ge HI0.out) | refine below_set ?_ GE247.out) | exact HB.out)); rintro e w16 ⟨rfl, hi, hb, hk⟩; refine ⟨_, rfl, ?_⟩; have n0_ := Aside0.mk (KeepBut.blk hk (g' := gb247) (o := .cells #[.int .i64 0, .int .i64 0, .int .i64 0, .int .i64 0, .int .i64 0] 37 (0, 0)) att10_0_1 NB247_0.out (by simp)); have n1_ := Aside0.mk (KeepBut.trans att10_0_0 hk (.inl rfl)); have n2_ := Aside0.mk (hb); have n3_ := Aside0.mk (hi); clear BK247; clear HK; clear HB; clear HI0; have BK247 := n0_; have HK := n1_; have HB := n2_; have HI0 := n3_; clear n0_ n1_ n2_ n3_; (try clear hb); (try clear hb2); (try clear hk); (try clear hi)))
 (try simp only [Act.put, List.setIfInBounds_toArray, List.set_cons_zero, List.set_cons_succ])
 go_cut [23] (fun v23 wc => ∃ (kq : Nat) (x23_9 : Bool), v23 = .bool x23_9 ∧ Aside0 (spec_l1DrawIns.j0 kq a1 t248 t251 t254 t258 t261 x23_9 s0_0 t262 t263 = some (r1, r2, r3, r4, r5, r6, r7)) ∧ Aside0 (kq ≤ k) ∧ Aside0 (wc.heap[gb247]? = some (.cells #[.int .i64 0, .int .i64 0, .int .i64 0, .int .i64 0, .int .i64 0] 37 (0, 0))) ∧ Aside0 (IsS170 w0 wc g s0_0 t262 t263) ∧ Aside0 (KeepBut w wc g none) ∧ Aside0 (Below w0.heap.size w0 wc))
 case first =>
  have H := HC10.out
  clear HC10
  by_cases c17 : t261 = 0
  ·rw [if_pos c17] at H
   have c17b0 : (t261 == 0) = true := beq_iff_eq.mpr c17
   have c17b1 : (t261 != 0) = false := bne_eq_false_iff_eq.mpr c17
   clear c17
   (first | rw [c17b0] | (simp only [i64_w, i32_w]; rw [c17b0]) | skip)
   have H' := Aside0.mk H
   clear H
   go_wp2
   go_meet
   case rel => exact ⟨_, ((t261 == 0)), att10_0_5, H', ⟨by first | omega | exact Nat.le_refl _⟩, ⟨att10_0_1⟩, ⟨att10_0_2⟩, ⟨att10_0_0⟩, ⟨att10_0_3⟩⟩
  ·rw [if_neg c17] at H
   have c17b0 : (t261 == 0) = false := beq_eq_false_iff_ne.mpr c17
   have c17b1 : (t261 != 0) = true := bne_iff_ne.mpr c17
   (first | rw [c17b0] | (simp only [i64_w, i32_w]; rw [c17b0]) | skip)
   have H' := Aside0.mk H
   clear H
   go_wp2
   go_meet
   case rel => exact ⟨_, ((t261 == 1)), att10_0_5, H', ⟨by first | omega | exact Nat.le_refl _⟩, ⟨att10_0_1⟩, ⟨att10_0_2⟩, ⟨att10_0_0⟩, ⟨att10_0_3⟩⟩
 case rest =>
  clear HC10
  try clear c1
  try clear p2
  try clear c9
  try clear c16
  try clear c17
  try clear c17b0
  try clear c17b1
  obtain ⟨kq, x23_9, rfl, HA, HJ9, BK247, HI0, HK, HB⟩ := hcut
  cases kq with
  | zero => exact absurd HA.out (by simp [spec_l1DrawIns.j0])
  | succ kj9 =>
   have H := HA.out
   clear HA
   simp only [spec_l1DrawIns.j0] at H
   by_cases c18 : x23_9 = true
   ·subst c18
    have H1 : ((spec_l1Below.f s0_0 t262 t263 9).bind fun bt264 => (some (1, t248, 0, 0, wrap64 (bt264.1 - 2), bt264.2.1, bt264.2.2))) = some (r1, r2, r3, r4, r5, r6, r7) := by rw [if_pos rfl] at H; exact H
    clear H
    have H := H1
    clear H1
    replace H := Option.bind_eq_some_iff.mp H
    obtain ⟨⟨t264, t265, t266⟩, A190, H⟩ := H
    replace H : (some (1, t248, 0, 0, wrap64 (t264 - 2), t265, t266)) = some (r1, r2, r3, r4, r5, r6, r7) := H
    have A19 := Aside0.mk A190
    clear A190
    simp only [Option.some.injEq, Prod.mk.injEq] at H
    obtain ⟨rfl, rfl, rfl, rfl, rfl, rfl, rfl⟩ := H
    go_wp2_with (first | ((with_reducible refine gate_callee (f := 97) rfl ?_); refine goesL_ (some 28) rfl rfl Try.func97 (by kernel_rfl) rfl #[.pointer (some ⟨g, 0, none⟩), .int .i64 9] rfl att10_0_4 ?_; (with_reducible refine (spec_l1Below.calls g s0_0 t262 t263 9 t264 t265 t266 w0 _ ?side1 ?side2 A19.out).mono ?_); (case side1 => repeat (first | (with_reducible first | exact HI0.out | apply IsS170.alloc | apply IsS170.drewN | apply IsS170.drew | apply IsS170.set_1 | apply IsS170.set_2 | refine IsS170.far ?_ NB0_247.out _) | exact HI0.out)); (case side2 => repeat (first | (with_reducible first | exact HB.out | apply below_alloc | apply pw_below_drewN | apply below_drew1 | refine below_set ?_ (IsS170.ge HI0.out) | refine below_set ?_ GE247.out) | exact HB.out)); rintro e w20 ⟨rfl, hi, hb, hk⟩; refine ⟨_, rfl, ?_⟩; have n0_ := Aside0.mk (KeepBut.blk hk (g' := gb247) (o := .cells #[.int .i64 0, .int .i64 0, .int .i64 0, .int .i64 0, .int .i64 0] 37 (0, 0)) att10_0_1 NB247_0.out (by simp)); have n1_ := Aside0.mk (KeepBut.trans att10_0_0 hk (.inl rfl)); have n2_ := Aside0.mk (hb); have n3_ := Aside0.mk (hi); clear BK247; clear HK; clear HB; clear HI0; have BK247 := n0_; have HK := n1_; have HB := n2_; have HI0 := n3_; clear n0_ n1_ n2_ n3_; (try clear hb); (try clear hb2); (try clear hk); (try clear hi); have hnb21 := NB247_0.out; have hnc21 := NB0_247.out; have hcz22_0 : w20.cell? ⟨gb247, 0, none⟩ = some (.int .i64 0) := (blk_cell BK247.out 0).trans rfl; have hcz22_1 : w20.cell? ⟨gb247, 1, none⟩ = some (.int .i64 0) := (blk_cell BK247.out 1).trans rfl; have hcz22_2 : w20.cell? ⟨gb247, 2, none⟩ = some (.int .i64 0) := (blk_cell BK247.out 2).trans rfl; have hcz22_3 : w20.cell? ⟨gb247, 3, none⟩ = some (.int .i64 0) := (blk_cell BK247.out 3).trans rfl; have hcz22_4 : w20.cell? ⟨gb247, 4, none⟩ = some (.int .i64 0) := (blk_cell BK247.out 4).trans rfl; have hfz22_0 := blk_frozen BK247.out 0; have hfz22_1 := blk_frozen BK247.out 1; have hfz22_2 := blk_frozen BK247.out 2; have hfz22_3 := blk_frozen BK247.out 3; have hfz22_4 := blk_frozen BK247.out 4))
    refine bodyPost_ret (results_cell_row rfl _ _ gb247 37 #[.int .i64 1, .int .i64 t248, .int .i64 0, .int .i64 0, .int .i64 (wrap64 (t264 - 2))] (0, 0) _ rfl (by (with_reducible repeat (first | refine blk_drewN ?_ _ | refine blk_drew ?_ | refine blk_alloc ?_ _)); refine blk_put (cs := #[.int .i64 1, .int .i64 t248, .int .i64 0, .int .i64 0, .int .i64 0]) ?_ 4 _ rfl; (with_reducible repeat (first | refine blk_drewN ?_ _ | refine blk_drew ?_ | refine blk_alloc ?_ _)); refine blk_put (cs := #[.int .i64 1, .int .i64 t248, .int .i64 0, .int .i64 0, .int .i64 0]) ?_ 3 _ rfl; (with_reducible repeat (first | refine blk_drewN ?_ _ | refine blk_drew ?_ | refine blk_alloc ?_ _)); refine blk_put (cs := #[.int .i64 1, .int .i64 t248, .int .i64 0, .int .i64 0, .int .i64 0]) ?_ 2 _ rfl; (with_reducible repeat (first | refine blk_drewN ?_ _ | refine blk_drew ?_ | refine blk_alloc ?_ _)); refine blk_put (cs := #[.int .i64 1, .int .i64 0, .int .i64 0, .int .i64 0, .int .i64 0]) ?_ 1 _ rfl; (with_reducible repeat (first | refine blk_drewN ?_ _ | refine blk_drew ?_ | refine blk_alloc ?_ _)); refine blk_put (cs := #[.int .i64 0, .int .i64 0, .int .i64 0, .int .i64 0, .int .i64 0]) ?_ 0 _ rfl; (with_reducible repeat (first | refine blk_drewN ?_ _ | refine blk_drew ?_ | refine blk_alloc ?_ _)); exact BK247.out) Try.underlying37 rfl (by kernel_rfl)) rfl ?_
    exact ⟨by first | rfl | (simp [errW_none, errW_some] <;> rfl) | (simp [*, errW_none, errW_some] <;> rfl), by repeat (first | (with_reducible first | exact HI0.out | apply IsS170.alloc | apply IsS170.drewN | apply IsS170.drew | apply IsS170.set_1 | apply IsS170.set_2 | refine IsS170.far ?_ NB0_247.out _) | exact HI0.out), by repeat (first | (with_reducible first | exact HB.out | apply below_alloc | apply pw_below_drewN | apply below_drew1 | refine below_set ?_ (IsS170.ge HI0.out) | refine below_set ?_ GE247.out) | exact HB.out), att10_0_0⟩
   ·replace c18 := Bool.eq_false_iff.mpr c18
    subst c18
    have H1 : (if t261 = 2 then (spec_l1DrawIns.j1 kj9 a1 t248 t251 t254 t258 t261 (t261 == 2) s0_0 t262 t263) else (spec_l1DrawIns.j1 kj9 a1 t248 t251 t254 t258 t261 (t261 == 3) s0_0 t262 t263)) = some (r1, r2, r3, r4, r5, r6, r7) := by rw [if_neg (show ¬ (false = true) by decide)] at H; exact H
    clear H
    have H := H1
    clear H1
    have HC23 := Aside0.mk H
    clear H
    go_upto_if 31 with (fail)
    go_cut [31] (fun v31 wc => ∃ (kq : Nat) (x31_22 : Bool), v31 = .bool x31_22 ∧ Aside0 (spec_l1DrawIns.j1 kq a1 t248 t251 t254 t258 t261 x31_22 s0_0 t262 t263 = some (r1, r2, r3, r4, r5, r6, r7)) ∧ Aside0 (kq ≤ kj9) ∧ Aside0 (wc.heap[gb247]? = some (.cells #[.int .i64 0, .int .i64 0, .int .i64 0, .int .i64 0, .int .i64 0] 37 (0, 0))) ∧ Aside0 (IsS170 w0 wc g s0_0 t262 t263) ∧ Aside0 (KeepBut w wc g none) ∧ Aside0 (Below w0.heap.size w0 wc))
    case first =>
     have H := HC23.out
     clear HC23
     by_cases c24 : t261 = 2
     ·rw [if_pos c24] at H
      have c24b0 : (t261 == 2) = true := beq_iff_eq.mpr c24
      have c24b1 : (t261 != 2) = false := bne_eq_false_iff_eq.mpr c24
      clear c24
      (first | rw [c24b0] | (simp only [i64_w, i32_w]; rw [c24b0]) | skip)
      have H' := Aside0.mk H
      clear H
      go_wp2
      go_meet
      case rel => exact ⟨_, ((t261 == 2)), att10_0_5, H', ⟨by have := HJ9.out; first | omega | exact Nat.le_refl _⟩, ⟨att10_0_1⟩, ⟨att10_0_2⟩, ⟨att10_0_0⟩, ⟨att10_0_3⟩⟩
     ·rw [if_neg c24] at H
      have c24b0 : (t261 == 2) = false := beq_eq_false_iff_ne.mpr c24
      have c24b1 : (t261 != 2) = true := bne_iff_ne.mpr c24
      (first | rw [c24b0] | (simp only [i64_w, i32_w]; rw [c24b0]) | skip)
      have H' := Aside0.mk H
      clear H
      go_wp2
      go_meet
      case rel => exact ⟨_, ((t261 == 3)), att10_0_5, H', ⟨by have := HJ9.out; first | omega | exact Nat.le_refl _⟩, ⟨att10_0_1⟩, ⟨att10_0_2⟩, ⟨att10_0_0⟩, ⟨att10_0_3⟩⟩
    case rest =>
     clear HC23
     try clear c1
     try clear c2
     try clear p2
     try clear p6
     try clear c9
     try clear c16
     try clear c17
     try clear c17b0
     try clear c17b1
     try clear c18
     try clear c21
     try clear c24
     try clear c24b0
     try clear c24b1
     try clear hcz22_0
     try clear hcz22_1
     try clear hcz22_2
     try clear hcz22_3
     try clear hcz22_4
     try clear hfz22_0
     try clear hfz22_1
     try clear hfz22_2
     try clear hfz22_3
     try clear hfz22_4
     try clear p2
     obtain ⟨kq, x31_22, rfl, HA, HJ22, BK247, HI0, HK, HB⟩ := hcut
     cases kq with
     | zero => exact absurd HA.out (by simp [spec_l1DrawIns.j1])
     | succ kj22 =>
      have H := HA.out
      clear HA
      simp only [spec_l1DrawIns.j1] at H
      by_cases c25 : x31_22 = true
      ·subst c25
       have H1 : ((spec_l1Below.f s0_0 t262 t263 3).bind fun bt267 => (some (wrap64 (2 + bt267.1), t248, t251, t254, 0, bt267.2.1, bt267.2.2))) = some (r1, r2, r3, r4, r5, r6, r7) := by rw [if_pos rfl] at H; exact H
       clear H
       have H := H1
       clear H1
       replace H := Option.bind_eq_some_iff.mp H
       obtain ⟨⟨t267, t268, t269⟩, A260, H⟩ := H
       replace H : (some (wrap64 (2 + t267), t248, t251, t254, 0, t268, t269)) = some (r1, r2, r3, r4, r5, r6, r7) := H
       have A26 := Aside0.mk A260
       clear A260
       simp only [Option.some.injEq, Prod.mk.injEq] at H
       obtain ⟨rfl, rfl, rfl, rfl, rfl, rfl, rfl⟩ := H
       go_wp2_with (first | ((with_reducible refine gate_callee (f := 97) rfl ?_); refine goesL_ (some 35) rfl rfl Try.func97 (by kernel_rfl) rfl #[.pointer (some ⟨g, 0, none⟩), .int .i64 3] rfl att10_0_4 ?_; (with_reducible refine (spec_l1Below.calls g s0_0 t262 t263 3 t267 t268 t269 w0 _ ?side1 ?side2 A26.out).mono ?_); (case side1 => repeat (first | (with_reducible first | exact HI0.out | apply IsS170.alloc | apply IsS170.drewN | apply IsS170.drew | apply IsS170.set_1 | apply IsS170.set_2 | refine IsS170.far ?_ NB0_247.out _) | exact HI0.out)); (case side2 => repeat (first | (with_reducible first | exact HB.out | apply below_alloc | apply pw_below_drewN | apply below_drew1 | refine below_set ?_ (IsS170.ge HI0.out) | refine below_set ?_ GE247.out) | exact HB.out)); rintro e w27 ⟨rfl, hi, hb, hk⟩; refine ⟨_, rfl, ?_⟩; have n0_ := Aside0.mk (KeepBut.blk hk (g' := gb247) (o := .cells #[.int .i64 0, .int .i64 0, .int .i64 0, .int .i64 0, .int .i64 0] 37 (0, 0)) att10_0_1 NB247_0.out (by simp)); have n1_ := Aside0.mk (KeepBut.trans att10_0_0 hk (.inl rfl)); have n2_ := Aside0.mk (hb); have n3_ := Aside0.mk (hi); clear BK247; clear HK; clear HB; clear HI0; have BK247 := n0_; have HK := n1_; have HB := n2_; have HI0 := n3_; clear n0_ n1_ n2_ n3_; (try clear hb); (try clear hb2); (try clear hk); (try clear hi); have hnb28 := NB247_0.out; have hnc28 := NB0_247.out; have hcz29_0 : w27.cell? ⟨gb247, 0, none⟩ = some (.int .i64 0) := (blk_cell BK247.out 0).trans rfl; have hcz29_1 : w27.cell? ⟨gb247, 1, none⟩ = some (.int .i64 0) := (blk_cell BK247.out 1).trans rfl; have hcz29_2 : w27.cell? ⟨gb247, 2, none⟩ = some (.int .i64 0) := (blk_cell BK247.out 2).trans rfl; have hcz29_3 : w27.cell? ⟨gb247, 3, none⟩ = some (.int .i64 0) := (blk_cell BK247.out 3).trans rfl; have hcz29_4 : w27.cell? ⟨gb247, 4, none⟩ = some (.int .i64 0) := (blk_cell BK247.out 4).trans rfl; have hfz29_0 := blk_frozen BK247.out 0; have hfz29_1 := blk_frozen BK247.out 1; have hfz29_2 := blk_frozen BK247.out 2; have hfz29_3 := blk_frozen BK247.out 3; have hfz29_4 := blk_frozen BK247.out 4))
       refine bodyPost_ret (results_cell_row rfl _ _ gb247 37 #[.int .i64 (wrap64 (2 + t267)), .int .i64 t248, .int .i64 t251, .int .i64 t254, .int .i64 0] (0, 0) _ rfl (by (with_reducible repeat (first | refine blk_drewN ?_ _ | refine blk_drew ?_ | refine blk_alloc ?_ _)); refine blk_put (cs := #[.int .i64 (wrap64 (2 + t267)), .int .i64 t248, .int .i64 t251, .int .i64 t254, .int .i64 0]) ?_ 4 _ rfl; (with_reducible repeat (first | refine blk_drewN ?_ _ | refine blk_drew ?_ | refine blk_alloc ?_ _)); refine blk_put (cs := #[.int .i64 (wrap64 (2 + t267)), .int .i64 t248, .int .i64 t251, .int .i64 0, .int .i64 0]) ?_ 3 _ rfl; (with_reducible repeat (first | refine blk_drewN ?_ _ | refine blk_drew ?_ | refine blk_alloc ?_ _)); refine blk_put (cs := #[.int .i64 (wrap64 (2 + t267)), .int .i64 t248, .int .i64 0, .int .i64 0, .int .i64 0]) ?_ 2 _ rfl; (with_reducible repeat (first | refine blk_drewN ?_ _ | refine blk_drew ?_ | refine blk_alloc ?_ _)); refine blk_put (cs := #[.int .i64 (wrap64 (2 + t267)), .int .i64 0, .int .i64 0, .int .i64 0, .int .i64 0]) ?_ 1 _ rfl; (with_reducible repeat (first | refine blk_drewN ?_ _ | refine blk_drew ?_ | refine blk_alloc ?_ _)); refine blk_put (cs := #[.int .i64 0, .int .i64 0, .int .i64 0, .int .i64 0, .int .i64 0]) ?_ 0 _ rfl; (with_reducible repeat (first | refine blk_drewN ?_ _ | refine blk_drew ?_ | refine blk_alloc ?_ _)); exact BK247.out) Try.underlying37 rfl (by kernel_rfl)) rfl ?_
       exact ⟨by first | rfl | (simp [errW_none, errW_some] <;> rfl) | (simp [*, errW_none, errW_some] <;> rfl), by repeat (first | (with_reducible first | exact HI0.out | apply IsS170.alloc | apply IsS170.drewN | apply IsS170.drew | apply IsS170.set_1 | apply IsS170.set_2 | refine IsS170.far ?_ NB0_247.out _) | exact HI0.out), by repeat (first | (with_reducible first | exact HB.out | apply below_alloc | apply pw_below_drewN | apply below_drew1 | refine below_set ?_ (IsS170.ge HI0.out) | refine below_set ?_ GE247.out) | exact HB.out), att10_0_0⟩
      ·replace c25 := Bool.eq_false_iff.mpr c25
       subst c25
       have H1 : (if t261 = 4 then (spec_l1DrawIns.j2 kj22 a1 t248 t251 t258 t261 (t261 == 4) s0_0 t262 t263) else (if t261 = 5 then (spec_l1DrawIns.j2 kj22 a1 t248 t251 t258 t261 (t261 == 5) s0_0 t262 t263) else (spec_l1DrawIns.j2 kj22 a1 t248 t251 t258 t261 (t261 == 6) s0_0 t262 t263))) = some (r1, r2, r3, r4, r5, r6, r7) := by rw [if_neg (show ¬ (false = true) by decide)] at H; exact H
       clear H
       have H := H1
       clear H1
       have HC30 := Aside0.mk H
       clear H
       go_upto_if 41 with (fail)
       go_cut [41] (fun v41 wc => ∃ (kq : Nat) (x41_29 : Bool), v41 = .bool x41_29 ∧ Aside0 (spec_l1DrawIns.j2 kq a1 t248 t251 t258 t261 x41_29 s0_0 t262 t263 = some (r1, r2, r3, r4, r5, r6, r7)) ∧ Aside0 (kq ≤ kj22) ∧ Aside0 (wc.heap[gb247]? = some (.cells #[.int .i64 0, .int .i64 0, .int .i64 0, .int .i64 0, .int .i64 0] 37 (0, 0))) ∧ Aside0 (IsS170 w0 wc g s0_0 t262 t263) ∧ Aside0 (KeepBut w wc g none) ∧ Aside0 (Below w0.heap.size w0 wc))
       case first =>
        have H := HC30.out
        clear HC30
        by_cases c31 : t261 = 4
        ·rw [if_pos c31] at H
         have c31b0 : (t261 == 4) = true := beq_iff_eq.mpr c31
         have c31b1 : (t261 != 4) = false := bne_eq_false_iff_eq.mpr c31
         clear c31
         (first | rw [c31b0] | (simp only [i64_w, i32_w]; rw [c31b0]) | skip)
         have H' := Aside0.mk H
         clear H
         go_wp2
         go_meet
         case rel => exact ⟨_, ((t261 == 4)), att10_0_5, H', ⟨att10_0_8⟩, ⟨att10_0_1⟩, ⟨att10_0_2⟩, ⟨att10_0_0⟩, ⟨att10_0_3⟩⟩
        ·rw [if_neg c31] at H
         have c31b0 : (t261 == 4) = false := beq_eq_false_iff_ne.mpr c31
         have c31b1 : (t261 != 4) = true := bne_iff_ne.mpr c31
         (first | rw [c31b0] | (simp only [i64_w, i32_w]; rw [c31b0]) | skip)
         by_cases c32 : t261 = 5
         ·rw [if_pos c32] at H
          have c32b0 : (t261 == 5) = true := beq_iff_eq.mpr c32
          have c32b1 : (t261 != 5) = false := bne_eq_false_iff_eq.mpr c32
          clear c32
          have H' := Aside0.mk H
          clear H
          go_wp2
          go_meet
          case rel => exact ⟨_, ((t261 == 5)), att10_0_5, H', ⟨att10_0_8⟩, ⟨att10_0_1⟩, ⟨att10_0_2⟩, ⟨att10_0_0⟩, ⟨att10_0_3⟩⟩
         ·rw [if_neg c32] at H
          have c32b0 : (t261 == 5) = false := beq_eq_false_iff_ne.mpr c32
          have c32b1 : (t261 != 5) = true := bne_iff_ne.mpr c32
          have H' := Aside0.mk H
          clear H
          go_wp2
          go_meet
          case rel => exact ⟨_, ((t261 == 6)), att10_0_5, H', ⟨att10_0_8⟩, ⟨att10_0_1⟩, ⟨att10_0_2⟩, ⟨att10_0_0⟩, ⟨att10_0_3⟩⟩
       case rest =>
        clear HC30
        try clear c1
        try clear c2
        try clear p2
        try clear c3
        try clear p6
        try clear c9
        try clear c16
        try clear c17
        try clear c17b0
        try clear c17b1
        try clear c18
        try clear c21
        try clear c24
        try clear c24b0
        try clear c24b1
        try clear c25
        try clear c28
        try clear c31
        try clear c31b0
        try clear c31b1
        try clear c32
        try clear c32b0
        try clear c32b1
        try clear hcz22_0
        try clear hcz22_1
        try clear hcz22_2
        try clear hcz22_3
        try clear hcz22_4
        try clear hcz29_0
        try clear hcz29_1
        try clear hcz29_2
        try clear hcz29_3
        try clear hcz29_4
        try clear hfz22_0
        try clear hfz22_1
        try clear hfz22_2
        try clear hfz22_3
        try clear hfz22_4
        try clear hfz29_0
        try clear hfz29_1
        try clear hfz29_2
        try clear hfz29_3
        try clear hfz29_4
        try clear p2
        try clear p6
        obtain ⟨kq, x41_29, rfl, HA, HJ29, BK247, HI0, HK, HB⟩ := hcut
        cases kq with
        | zero => exact absurd HA.out (by simp [spec_l1DrawIns.j2])
        | succ kj29 =>
         have H := HA.out
         clear HA
         simp only [spec_l1DrawIns.j2] at H
         by_cases c33 : x41_29 = true
         ·subst c33
          have H1 : (some (5, 0, t251, 0, t258, t262, t263)) = some (r1, r2, r3, r4, r5, r6, r7) := by rw [if_pos rfl] at H; exact H
          clear H
          have H := H1
          clear H1
          simp only [Option.some.injEq, Prod.mk.injEq] at H
          obtain ⟨rfl, rfl, rfl, rfl, rfl, rfl, rfl⟩ := H
          have hnb34 := NB247_0.out
          have hnc34 := NB0_247.out
          have hcz35_0 : wc.cell? ⟨gb247, 0, none⟩ = some (.int .i64 0) := (blk_cell BK247.out 0).trans rfl
          have hcz35_1 : wc.cell? ⟨gb247, 1, none⟩ = some (.int .i64 0) := (blk_cell BK247.out 1).trans rfl
          have hcz35_2 : wc.cell? ⟨gb247, 2, none⟩ = some (.int .i64 0) := (blk_cell BK247.out 2).trans rfl
          have hcz35_3 : wc.cell? ⟨gb247, 3, none⟩ = some (.int .i64 0) := (blk_cell BK247.out 3).trans rfl
          have hcz35_4 : wc.cell? ⟨gb247, 4, none⟩ = some (.int .i64 0) := (blk_cell BK247.out 4).trans rfl
          have hfz35_0 := blk_frozen BK247.out 0
          have hfz35_1 := blk_frozen BK247.out 1
          have hfz35_2 := blk_frozen BK247.out 2
          have hfz35_3 := blk_frozen BK247.out 3
          have hfz35_4 := blk_frozen BK247.out 4
          go_wp2
          refine bodyPost_ret (results_cell_row rfl _ _ gb247 37 #[.int .i64 5, .int .i64 0, .int .i64 t251, .int .i64 0, .int .i64 t258] (0, 0) _ rfl (by (with_reducible repeat (first | refine blk_drewN ?_ _ | refine blk_drew ?_ | refine blk_alloc ?_ _)); refine blk_put (cs := #[.int .i64 5, .int .i64 0, .int .i64 t251, .int .i64 0, .int .i64 0]) ?_ 4 _ rfl; (with_reducible repeat (first | refine blk_drewN ?_ _ | refine blk_drew ?_ | refine blk_alloc ?_ _)); refine blk_put (cs := #[.int .i64 5, .int .i64 0, .int .i64 t251, .int .i64 0, .int .i64 0]) ?_ 3 _ rfl; (with_reducible repeat (first | refine blk_drewN ?_ _ | refine blk_drew ?_ | refine blk_alloc ?_ _)); refine blk_put (cs := #[.int .i64 5, .int .i64 0, .int .i64 0, .int .i64 0, .int .i64 0]) ?_ 2 _ rfl; (with_reducible repeat (first | refine blk_drewN ?_ _ | refine blk_drew ?_ | refine blk_alloc ?_ _)); refine blk_put (cs := #[.int .i64 5, .int .i64 0, .int .i64 0, .int .i64 0, .int .i64 0]) ?_ 1 _ rfl; (with_reducible repeat (first | refine blk_drewN ?_ _ | refine blk_drew ?_ | refine blk_alloc ?_ _)); refine blk_put (cs := #[.int .i64 0, .int .i64 0, .int .i64 0, .int .i64 0, .int .i64 0]) ?_ 0 _ rfl; (with_reducible repeat (first | refine blk_drewN ?_ _ | refine blk_drew ?_ | refine blk_alloc ?_ _)); exact BK247.out) Try.underlying37 rfl (by kernel_rfl)) rfl ?_
          exact ⟨by first | rfl | (simp [errW_none, errW_some] <;> rfl) | (simp [*, errW_none, errW_some] <;> rfl), by repeat (first | (with_reducible first | exact HI0.out | apply IsS170.alloc | apply IsS170.drewN | apply IsS170.drew | apply IsS170.set_1 | apply IsS170.set_2 | refine IsS170.far ?_ NB0_247.out _) | exact HI0.out), by repeat (first | (with_reducible first | exact HB.out | apply below_alloc | apply pw_below_drewN | apply below_drew1 | refine below_set ?_ (IsS170.ge HI0.out) | refine below_set ?_ GE247.out) | exact HB.out), att10_0_0⟩
         ·replace c33 := Bool.eq_false_iff.mpr c33
          subst c33
          have H1 : (if t261 = 7 then (spec_l1DrawIns.j3 kj29 a1 t248 t251 t258 t261 (t261 == 7) s0_0 t262 t263) else (if t261 = 8 then (spec_l1DrawIns.j3 kj29 a1 t248 t251 t258 t261 (t261 == 8) s0_0 t262 t263) else (spec_l1DrawIns.j3 kj29 a1 t248 t251 t258 t261 (t261 == 9) s0_0 t262 t263))) = some (r1, r2, r3, r4, r5, r6, r7) := by rw [if_neg (show ¬ (false = true) by decide)] at H; exact H
          clear H
          have H := H1
          clear H1
          have HC36 := Aside0.mk H
          clear H
          go_upto_if 48 with (fail)
          go_cut [48] (fun v48 wc => ∃ (kq : Nat) (x48_35 : Bool), v48 = .bool x48_35 ∧ Aside0 (spec_l1DrawIns.j3 kq a1 t248 t251 t258 t261 x48_35 s0_0 t262 t263 = some (r1, r2, r3, r4, r5, r6, r7)) ∧ Aside0 (kq ≤ kj29) ∧ Aside0 (wc.heap[gb247]? = some (.cells #[.int .i64 0, .int .i64 0, .int .i64 0, .int .i64 0, .int .i64 0] 37 (0, 0))) ∧ Aside0 (IsS170 w0 wc g s0_0 t262 t263) ∧ Aside0 (KeepBut w wc g none) ∧ Aside0 (Below w0.heap.size w0 wc))
          case first =>
           have H := HC36.out
           clear HC36
           by_cases c37 : t261 = 7
           ·rw [if_pos c37] at H
            have c37b0 : (t261 == 7) = true := beq_iff_eq.mpr c37
            have c37b1 : (t261 != 7) = false := bne_eq_false_iff_eq.mpr c37
            clear c37
            (first | rw [c37b0] | (simp only [i64_w, i32_w]; rw [c37b0]) | skip)
            have H' := Aside0.mk H
            clear H
            go_wp2
            go_meet
            case rel => exact ⟨_, ((t261 == 7)), att10_0_5, H', ⟨att10_0_7⟩, ⟨att10_0_1⟩, ⟨att10_0_2⟩, ⟨att10_0_0⟩, ⟨att10_0_3⟩⟩
           ·rw [if_neg c37] at H
            have c37b0 : (t261 == 7) = false := beq_eq_false_iff_ne.mpr c37
            have c37b1 : (t261 != 7) = true := bne_iff_ne.mpr c37
            (first | rw [c37b0] | (simp only [i64_w, i32_w]; rw [c37b0]) | skip)
            by_cases c38 : t261 = 8
            ·rw [if_pos c38] at H
             have c38b0 : (t261 == 8) = true := beq_iff_eq.mpr c38
             have c38b1 : (t261 != 8) = false := bne_eq_false_iff_eq.mpr c38
             clear c38
             have H' := Aside0.mk H
             clear H
             go_wp2
             go_meet
             case rel => exact ⟨_, ((t261 == 8)), att10_0_5, H', ⟨att10_0_7⟩, ⟨att10_0_1⟩, ⟨att10_0_2⟩, ⟨att10_0_0⟩, ⟨att10_0_3⟩⟩
            ·rw [if_neg c38] at H
             have c38b0 : (t261 == 8) = false := beq_eq_false_iff_ne.mpr c38
             have c38b1 : (t261 != 8) = true := bne_iff_ne.mpr c38
             have H' := Aside0.mk H
             clear H
             go_wp2
             go_meet
             case rel => exact ⟨_, ((t261 == 9)), att10_0_5, H', ⟨att10_0_7⟩, ⟨att10_0_1⟩, ⟨att10_0_2⟩, ⟨att10_0_0⟩, ⟨att10_0_3⟩⟩
          case rest =>
           clear HC36
           try clear c1
           try clear c2
           try clear p2
           try clear c3
           try clear p6
           try clear c9
           try clear c16
           try clear c17
           try clear c17b0
           try clear c17b1
           try clear c18
           try clear c21
           try clear c24
           try clear c24b0
           try clear c24b1
           try clear c25
           try clear c28
           try clear c31
           try clear c31b0
           try clear c31b1
           try clear c32
           try clear c32b0
           try clear c32b1
           try clear c33
           try clear c34
           try clear c37
           try clear c37b0
           try clear c37b1
           try clear c38
           try clear c38b0
           try clear c38b1
           try clear hcz22_0
           try clear hcz22_1
           try clear hcz22_2
           try clear hcz22_3
           try clear hcz22_4
           try clear hcz29_0
           try clear hcz29_1
           try clear hcz29_2
           try clear hcz29_3
           try clear hcz29_4
           try clear hcz35_0
           try clear hcz35_1
           try clear hcz35_2
           try clear hcz35_3
           try clear hcz35_4
           try clear hfz22_0
           try clear hfz22_1
           try clear hfz22_2
           try clear hfz22_3
           try clear hfz22_4
           try clear hfz29_0
           try clear hfz29_1
           try clear hfz29_2
           try clear hfz29_3
           try clear hfz29_4
           try clear hfz35_0
           try clear hfz35_1
           try clear hfz35_2
           try clear hfz35_3
           try clear hfz35_4
           try clear p2
           try clear p6
           obtain ⟨kq, x48_35, rfl, HA, HJ35, BK247, HI0, HK, HB⟩ := hcut
           cases kq with
           | zero => exact absurd HA.out (by simp [spec_l1DrawIns.j3])
           | succ kj35 =>
            have H := HA.out
            clear HA
            simp only [spec_l1DrawIns.j3] at H
            by_cases c39 : x48_35 = true
            ·subst c39
             have H1 : (some (6, t248, 0, Int.tmod (wrap64 (t248 + 1)) 4, t258, t262, t263)) = some (r1, r2, r3, r4, r5, r6, r7) := by rw [if_pos rfl] at H; exact H
             clear H
             have H := H1
             clear H1
             simp only [Option.some.injEq, Prod.mk.injEq] at H
             obtain ⟨rfl, rfl, rfl, rfl, rfl, rfl, rfl⟩ := H
             have hnb40 := NB247_0.out
             have hnc40 := NB0_247.out
             have hcz41_0 : wc.cell? ⟨gb247, 0, none⟩ = some (.int .i64 0) := (blk_cell BK247.out 0).trans rfl
             have hcz41_1 : wc.cell? ⟨gb247, 1, none⟩ = some (.int .i64 0) := (blk_cell BK247.out 1).trans rfl
             have hcz41_2 : wc.cell? ⟨gb247, 2, none⟩ = some (.int .i64 0) := (blk_cell BK247.out 2).trans rfl
             have hcz41_3 : wc.cell? ⟨gb247, 3, none⟩ = some (.int .i64 0) := (blk_cell BK247.out 3).trans rfl
             have hcz41_4 : wc.cell? ⟨gb247, 4, none⟩ = some (.int .i64 0) := (blk_cell BK247.out 4).trans rfl
             have hfz41_0 := blk_frozen BK247.out 0
             have hfz41_1 := blk_frozen BK247.out 1
             have hfz41_2 := blk_frozen BK247.out 2
             have hfz41_3 := blk_frozen BK247.out 3
             have hfz41_4 := blk_frozen BK247.out 4
             go_wp2
             refine bodyPost_ret (results_cell_row rfl _ _ gb247 37 #[.int .i64 6, .int .i64 t248, .int .i64 0, .int .i64 (Int.tmod (wrap64 (t248 + 1)) 4), .int .i64 t258] (0, 0) _ rfl (by (with_reducible repeat (first | refine blk_drewN ?_ _ | refine blk_drew ?_ | refine blk_alloc ?_ _)); refine blk_put (cs := #[.int .i64 6, .int .i64 t248, .int .i64 0, .int .i64 (Int.tmod (wrap64 (t248 + 1)) 4), .int .i64 0]) ?_ 4 _ rfl; (with_reducible repeat (first | refine blk_drewN ?_ _ | refine blk_drew ?_ | refine blk_alloc ?_ _)); refine blk_put (cs := #[.int .i64 6, .int .i64 t248, .int .i64 0, .int .i64 0, .int .i64 0]) ?_ 3 _ rfl; (with_reducible repeat (first | refine blk_drewN ?_ _ | refine blk_drew ?_ | refine blk_alloc ?_ _)); refine blk_put (cs := #[.int .i64 6, .int .i64 t248, .int .i64 0, .int .i64 0, .int .i64 0]) ?_ 2 _ rfl; (with_reducible repeat (first | refine blk_drewN ?_ _ | refine blk_drew ?_ | refine blk_alloc ?_ _)); refine blk_put (cs := #[.int .i64 6, .int .i64 0, .int .i64 0, .int .i64 0, .int .i64 0]) ?_ 1 _ rfl; (with_reducible repeat (first | refine blk_drewN ?_ _ | refine blk_drew ?_ | refine blk_alloc ?_ _)); refine blk_put (cs := #[.int .i64 0, .int .i64 0, .int .i64 0, .int .i64 0, .int .i64 0]) ?_ 0 _ rfl; (with_reducible repeat (first | refine blk_drewN ?_ _ | refine blk_drew ?_ | refine blk_alloc ?_ _)); exact BK247.out) Try.underlying37 rfl (by kernel_rfl)) rfl ?_
             exact ⟨by first | rfl | (simp [errW_none, errW_some] <;> rfl) | (simp [*, errW_none, errW_some] <;> rfl), by repeat (first | (with_reducible first | exact HI0.out | apply IsS170.alloc | apply IsS170.drewN | apply IsS170.drew | apply IsS170.set_1 | apply IsS170.set_2 | refine IsS170.far ?_ NB0_247.out _) | exact HI0.out), by repeat (first | (with_reducible first | exact HB.out | apply below_alloc | apply pw_below_drewN | apply below_drew1 | refine below_set ?_ (IsS170.ge HI0.out) | refine below_set ?_ GE247.out) | exact HB.out), att10_0_0⟩
            ·replace c39 := Bool.eq_false_iff.mpr c39
             subst c39
             have H1 : (if t261 = 10 then (some (7, t248, t251, 0, t258, t262, t263)) else (if t261 = 11 then (some (8, t248, 0, Int.tmod (wrap64 (t248 + 1)) 4, t258, t262, t263)) else (if t261 = 12 then ((spec_l1Once.f s0_0 t262 t263 3).bind fun bt270 => (if bt270.1 = true then (some (9, 0, 0, 0, t258, bt270.2.1, bt270.2.2)) else ((spec_l1Below.f s0_0 bt270.2.1 bt270.2.2 a1).bind fun bt273 => (some (11, 0, 0, 0, bt273.1, bt273.2.1, bt273.2.2))))) else (if t261 = 13 then ((spec_l1Below.f s0_0 t262 t263 a1).bind fun bt276 => (some (12, 0, t251, 0, bt276.1, bt276.2.1, bt276.2.2))) else (some (10, 0, t251, 0, 0, t262, t263)))))) = some (r1, r2, r3, r4, r5, r6, r7) := by rw [if_neg (show ¬ (false = true) by decide)] at H; exact H
             clear H
             have H := H1
             clear H1
             by_cases c42 : t261 = 10
             ·rw [if_pos c42] at H
              have c42b0 : (t261 == 10) = true := beq_iff_eq.mpr c42
              have c42b1 : (t261 != 10) = false := bne_eq_false_iff_eq.mpr c42
              clear c42
              simp only [Option.some.injEq, Prod.mk.injEq] at H
              obtain ⟨rfl, rfl, rfl, rfl, rfl, rfl, rfl⟩ := H
              have hnb43 := NB247_0.out
              have hnc43 := NB0_247.out
              have hcz44_0 : wc.cell? ⟨gb247, 0, none⟩ = some (.int .i64 0) := (blk_cell BK247.out 0).trans rfl
              have hcz44_1 : wc.cell? ⟨gb247, 1, none⟩ = some (.int .i64 0) := (blk_cell BK247.out 1).trans rfl
              have hcz44_2 : wc.cell? ⟨gb247, 2, none⟩ = some (.int .i64 0) := (blk_cell BK247.out 2).trans rfl
              have hcz44_3 : wc.cell? ⟨gb247, 3, none⟩ = some (.int .i64 0) := (blk_cell BK247.out 3).trans rfl
              have hcz44_4 : wc.cell? ⟨gb247, 4, none⟩ = some (.int .i64 0) := (blk_cell BK247.out 4).trans rfl
              have hfz44_0 := blk_frozen BK247.out 0
              have hfz44_1 := blk_frozen BK247.out 1
              have hfz44_2 := blk_frozen BK247.out 2
              have hfz44_3 := blk_frozen BK247.out 3
              have hfz44_4 := blk_frozen BK247.out 4
              go_wp2
              refine bodyPost_ret (results_cell_row rfl _ _ gb247 37 #[.int .i64 7, .int .i64 t248, .int .i64 t251, .int .i64 0, .int .i64 t258] (0, 0) _ rfl (by (with_reducible repeat (first | refine blk_drewN ?_ _ | refine blk_drew ?_ | refine blk_alloc ?_ _)); refine blk_put (cs := #[.int .i64 7, .int .i64 t248, .int .i64 t251, .int .i64 0, .int .i64 0]) ?_ 4 _ rfl; (with_reducible repeat (first | refine blk_drewN ?_ _ | refine blk_drew ?_ | refine blk_alloc ?_ _)); refine blk_put (cs := #[.int .i64 7, .int .i64 t248, .int .i64 t251, .int .i64 0, .int .i64 0]) ?_ 3 _ rfl; (with_reducible repeat (first | refine blk_drewN ?_ _ | refine blk_drew ?_ | refine blk_alloc ?_ _)); refine blk_put (cs := #[.int .i64 7, .int .i64 t248, .int .i64 0, .int .i64 0, .int .i64 0]) ?_ 2 _ rfl; (with_reducible repeat (first | refine blk_drewN ?_ _ | refine blk_drew ?_ | refine blk_alloc ?_ _)); refine blk_put (cs := #[.int .i64 7, .int .i64 0, .int .i64 0, .int .i64 0, .int .i64 0]) ?_ 1 _ rfl; (with_reducible repeat (first | refine blk_drewN ?_ _ | refine blk_drew ?_ | refine blk_alloc ?_ _)); refine blk_put (cs := #[.int .i64 0, .int .i64 0, .int .i64 0, .int .i64 0, .int .i64 0]) ?_ 0 _ rfl; (with_reducible repeat (first | refine blk_drewN ?_ _ | refine blk_drew ?_ | refine blk_alloc ?_ _)); exact BK247.out) Try.underlying37 rfl (by kernel_rfl)) rfl ?_
              exact ⟨by first | rfl | (simp [errW_none, errW_some] <;> rfl) | (simp [*, errW_none, errW_some] <;> rfl), by repeat (first | (with_reducible first | exact HI0.out | apply IsS170.alloc | apply IsS170.drewN | apply IsS170.drew | apply IsS170.set_1 | apply IsS170.set_2 | refine IsS170.far ?_ NB0_247.out _) | exact HI0.out), by repeat (first | (with_reducible first | exact HB.out | apply below_alloc | apply pw_below_drewN | apply below_drew1 | refine below_set ?_ (IsS170.ge HI0.out) | refine below_set ?_ GE247.out) | exact HB.out), att10_0_0⟩
             ·rw [if_neg c42] at H
              have c42b0 : (t261 == 10) = false := beq_eq_false_iff_ne.mpr c42
              have c42b1 : (t261 != 10) = true := bne_iff_ne.mpr c42
              by_cases c45 : t261 = 11
              ·rw [if_pos c45] at H
               have c45b0 : (t261 == 11) = true := beq_iff_eq.mpr c45
               have c45b1 : (t261 != 11) = false := bne_eq_false_iff_eq.mpr c45
               clear c45
               simp only [Option.some.injEq, Prod.mk.injEq] at H
               obtain ⟨rfl, rfl, rfl, rfl, rfl, rfl, rfl⟩ := H
               have hnb46 := NB247_0.out
               have hnc46 := NB0_247.out
               have hcz47_0 : wc.cell? ⟨gb247, 0, none⟩ = some (.int .i64 0) := (blk_cell BK247.out 0).trans rfl
               have hcz47_1 : wc.cell? ⟨gb247, 1, none⟩ = some (.int .i64 0) := (blk_cell BK247.out 1).trans rfl
               have hcz47_2 : wc.cell? ⟨gb247, 2, none⟩ = some (.int .i64 0) := (blk_cell BK247.out 2).trans rfl
               have hcz47_3 : wc.cell? ⟨gb247, 3, none⟩ = some (.int .i64 0) := (blk_cell BK247.out 3).trans rfl
               have hcz47_4 : wc.cell? ⟨gb247, 4, none⟩ = some (.int .i64 0) := (blk_cell BK247.out 4).trans rfl
               have hfz47_0 := blk_frozen BK247.out 0
               have hfz47_1 := blk_frozen BK247.out 1
               have hfz47_2 := blk_frozen BK247.out 2
               have hfz47_3 := blk_frozen BK247.out 3
               have hfz47_4 := blk_frozen BK247.out 4
               go_wp2
               refine bodyPost_ret (results_cell_row rfl _ _ gb247 37 #[.int .i64 8, .int .i64 t248, .int .i64 0, .int .i64 (Int.tmod (wrap64 (t248 + 1)) 4), .int .i64 t258] (0, 0) _ rfl (by (with_reducible repeat (first | refine blk_drewN ?_ _ | refine blk_drew ?_ | refine blk_alloc ?_ _)); refine blk_put (cs := #[.int .i64 8, .int .i64 t248, .int .i64 0, .int .i64 (Int.tmod (wrap64 (t248 + 1)) 4), .int .i64 0]) ?_ 4 _ rfl; (with_reducible repeat (first | refine blk_drewN ?_ _ | refine blk_drew ?_ | refine blk_alloc ?_ _)); refine blk_put (cs := #[.int .i64 8, .int .i64 t248, .int .i64 0, .int .i64 0, .int .i64 0]) ?_ 3 _ rfl; (with_reducible repeat (first | refine blk_drewN ?_ _ | refine blk_drew ?_ | refine blk_alloc ?_ _)); refine blk_put (cs := #[.int .i64 8, .int .i64 t248, .int .i64 0, .int .i64 0, .int .i64 0]) ?_ 2 _ rfl; (with_reducible repeat (first | refine blk_drewN ?_ _ | refine blk_drew ?_ | refine blk_alloc ?_ _)); refine blk_put (cs := #[.int .i64 8, .int .i64 0, .int .i64 0, .int .i64 0, .int .i64 0]) ?_ 1 _ rfl; (with_reducible repeat (first | refine blk_drewN ?_ _ | refine blk_drew ?_ | refine blk_alloc ?_ _)); refine blk_put (cs := #[.int .i64 0, .int .i64 0, .int .i64 0, .int .i64 0, .int .i64 0]) ?_ 0 _ rfl; (with_reducible repeat (first | refine blk_drewN ?_ _ | refine blk_drew ?_ | refine blk_alloc ?_ _)); exact BK247.out) Try.underlying37 rfl (by kernel_rfl)) rfl ?_
               exact ⟨by first | rfl | (simp [errW_none, errW_some] <;> rfl) | (simp [*, errW_none, errW_some] <;> rfl), by repeat (first | (with_reducible first | exact HI0.out | apply IsS170.alloc | apply IsS170.drewN | apply IsS170.drew | apply IsS170.set_1 | apply IsS170.set_2 | refine IsS170.far ?_ NB0_247.out _) | exact HI0.out), by repeat (first | (with_reducible first | exact HB.out | apply below_alloc | apply pw_below_drewN | apply below_drew1 | refine below_set ?_ (IsS170.ge HI0.out) | refine below_set ?_ GE247.out) | exact HB.out), att10_0_0⟩
              ·rw [if_neg c45] at H
               have c45b0 : (t261 == 11) = false := beq_eq_false_iff_ne.mpr c45
               have c45b1 : (t261 != 11) = true := bne_iff_ne.mpr c45
               by_cases c48 : t261 = 12
               ·rw [if_pos c48] at H
                have c48b0 : (t261 == 12) = true := beq_iff_eq.mpr c48
                have c48b1 : (t261 != 12) = false := bne_eq_false_iff_eq.mpr c48
                clear c48
                replace H := Option.bind_eq_some_iff.mp H
                obtain ⟨⟨t270, t271, t272⟩, A490, H⟩ := H
                replace H : (if t270 = true then (some (9, 0, 0, 0, t258, t271, t272)) else ((spec_l1Below.f s0_0 t271 t272 a1).bind fun bt273 => (some (11, 0, 0, 0, bt273.1, bt273.2.1, bt273.2.2)))) = some (r1, r2, r3, r4, r5, r6, r7) := H
                have A49 := Aside0.mk A490
                clear A490
                by_cases c50 : t270 = true
                ·subst c50
                 have H1 : (some (9, 0, 0, 0, t258, t271, t272)) = some (r1, r2, r3, r4, r5, r6, r7) := by rw [if_pos rfl] at H; exact H
                 clear H
                 have H := H1
                 clear H1
                 simp only [Option.some.injEq, Prod.mk.injEq] at H
                 obtain ⟨rfl, rfl, rfl, rfl, rfl, rfl, rfl⟩ := H
                 go_wp2_with (first | ((with_reducible refine gate_callee (f := 95) rfl ?_); refine goesL_ (some 75) rfl rfl Try.func95 (by kernel_rfl) rfl #[.pointer (some ⟨g, 0, none⟩), .int .i64 3] rfl att10_0_4 ?_; (with_reducible refine (spec_l1Once.calls g s0_0 t262 t263 3 true t271 t272 w0 _ ?side1 ?side2 A49.out).mono ?_); (case side1 => repeat (first | (with_reducible first | exact HI0.out | apply IsS170.alloc | apply IsS170.drewN | apply IsS170.drew | apply IsS170.set_1 | apply IsS170.set_2 | refine IsS170.far ?_ NB0_247.out _) | exact HI0.out)); (case side2 => repeat (first | (with_reducible first | exact HB.out | apply below_alloc | apply pw_below_drewN | apply below_drew1 | refine below_set ?_ (IsS170.ge HI0.out) | refine below_set ?_ GE247.out) | exact HB.out)); rintro e w51 ⟨rfl, hi, hb, hk⟩; refine ⟨_, rfl, ?_⟩; have n0_ := Aside0.mk (KeepBut.blk hk (g' := gb247) (o := .cells #[.int .i64 0, .int .i64 0, .int .i64 0, .int .i64 0, .int .i64 0] 37 (0, 0)) att10_0_1 NB247_0.out (by simp)); have n1_ := Aside0.mk (KeepBut.trans att10_0_0 hk (.inl rfl)); have n2_ := Aside0.mk (hb); have n3_ := Aside0.mk (hi); clear BK247; clear HK; clear HB; clear HI0; have BK247 := n0_; have HK := n1_; have HB := n2_; have HI0 := n3_; clear n0_ n1_ n2_ n3_; (try clear hb); (try clear hb2); (try clear hk); (try clear hi); have hnb52 := NB247_0.out; have hnc52 := NB0_247.out; have hcz53_0 : w51.cell? ⟨gb247, 0, none⟩ = some (.int .i64 0) := (blk_cell BK247.out 0).trans rfl; have hcz53_1 : w51.cell? ⟨gb247, 1, none⟩ = some (.int .i64 0) := (blk_cell BK247.out 1).trans rfl; have hcz53_2 : w51.cell? ⟨gb247, 2, none⟩ = some (.int .i64 0) := (blk_cell BK247.out 2).trans rfl; have hcz53_3 : w51.cell? ⟨gb247, 3, none⟩ = some (.int .i64 0) := (blk_cell BK247.out 3).trans rfl; have hcz53_4 : w51.cell? ⟨gb247, 4, none⟩ = some (.int .i64 0) := (blk_cell BK247.out 4).trans rfl; have hfz53_0 := blk_frozen BK247.out 0; have hfz53_1 := blk_frozen BK247.out 1; have hfz53_2 := blk_frozen BK247.out 2; have hfz53_3 := blk_frozen BK247.out 3; have hfz53_4 := blk_frozen BK247.out 4))
                 refine bodyPost_ret (results_cell_row rfl _ _ gb247 37 #[.int .i64 9, .int .i64 0, .int .i64 0, .int .i64 0, .int .i64 t258] (0, 0) _ rfl (by (with_reducible repeat (first | refine blk_drewN ?_ _ | refine blk_drew ?_ | refine blk_alloc ?_ _)); refine blk_put (cs := #[.int .i64 9, .int .i64 0, .int .i64 0, .int .i64 0, .int .i64 0]) ?_ 4 _ rfl; (with_reducible repeat (first | refine blk_drewN ?_ _ | refine blk_drew ?_ | refine blk_alloc ?_ _)); refine blk_put (cs := #[.int .i64 9, .int .i64 0, .int .i64 0, .int .i64 0, .int .i64 0]) ?_ 3 _ rfl; (with_reducible repeat (first | refine blk_drewN ?_ _ | refine blk_drew ?_ | refine blk_alloc ?_ _)); refine blk_put (cs := #[.int .i64 9, .int .i64 0, .int .i64 0, .int .i64 0, .int .i64 0]) ?_ 2 _ rfl; (with_reducible repeat (first | refine blk_drewN ?_ _ | refine blk_drew ?_ | refine blk_alloc ?_ _)); refine blk_put (cs := #[.int .i64 9, .int .i64 0, .int .i64 0, .int .i64 0, .int .i64 0]) ?_ 1 _ rfl; (with_reducible repeat (first | refine blk_drewN ?_ _ | refine blk_drew ?_ | refine blk_alloc ?_ _)); refine blk_put (cs := #[.int .i64 0, .int .i64 0, .int .i64 0, .int .i64 0, .int .i64 0]) ?_ 0 _ rfl; (with_reducible repeat (first | refine blk_drewN ?_ _ | refine blk_drew ?_ | refine blk_alloc ?_ _)); exact BK247.out) Try.underlying37 rfl (by kernel_rfl)) rfl ?_
                 exact ⟨by first | rfl | (simp [errW_none, errW_some] <;> rfl) | (simp [*, errW_none, errW_some] <;> rfl), by repeat (first | (with_reducible first | exact HI0.out | apply IsS170.alloc | apply IsS170.drewN | apply IsS170.drew | apply IsS170.set_1 | apply IsS170.set_2 | refine IsS170.far ?_ NB0_247.out _) | exact HI0.out), by repeat (first | (with_reducible first | exact HB.out | apply below_alloc | apply pw_below_drewN | apply below_drew1 | refine below_set ?_ (IsS170.ge HI0.out) | refine below_set ?_ GE247.out) | exact HB.out), att10_0_0⟩
                ·replace c50 := Bool.eq_false_iff.mpr c50
                 subst c50
                 have H1 : ((spec_l1Below.f s0_0 t271 t272 a1).bind fun bt273 => (some (11, 0, 0, 0, bt273.1, bt273.2.1, bt273.2.2))) = some (r1, r2, r3, r4, r5, r6, r7) := by rw [if_neg (show ¬ (false = true) by decide)] at H; exact H
                 clear H
                 have H := H1
                 clear H1
                 replace H := Option.bind_eq_some_iff.mp H
                 obtain ⟨⟨t273, t274, t275⟩, A540, H⟩ := H
                 replace H : (some (11, 0, 0, 0, t273, t274, t275)) = some (r1, r2, r3, r4, r5, r6, r7) := H
                 have A54 := Aside0.mk A540
                 clear A540
                 simp only [Option.some.injEq, Prod.mk.injEq] at H
                 obtain ⟨rfl, rfl, rfl, rfl, rfl, rfl, rfl⟩ := H
                 go_wp2_with (first | ((with_reducible refine gate_callee (f := 95) rfl ?_); refine goesL_ (some 75) rfl rfl Try.func95 (by kernel_rfl) rfl #[.pointer (some ⟨g, 0, none⟩), .int .i64 3] rfl att10_0_4 ?_; (with_reducible refine (spec_l1Once.calls g s0_0 t262 t263 3 false t271 t272 w0 _ ?side1 ?side2 A49.out).mono ?_); (case side1 => repeat (first | (with_reducible first | exact HI0.out | apply IsS170.alloc | apply IsS170.drewN | apply IsS170.drew | apply IsS170.set_1 | apply IsS170.set_2 | refine IsS170.far ?_ NB0_247.out _) | exact HI0.out)); (case side2 => repeat (first | (with_reducible first | exact HB.out | apply below_alloc | apply pw_below_drewN | apply below_drew1 | refine below_set ?_ (IsS170.ge HI0.out) | refine below_set ?_ GE247.out) | exact HB.out)); rintro e w55 ⟨rfl, hi, hb, hk⟩; refine ⟨_, rfl, ?_⟩; have n0_ := Aside0.mk (KeepBut.blk hk (g' := gb247) (o := .cells #[.int .i64 0, .int .i64 0, .int .i64 0, .int .i64 0, .int .i64 0] 37 (0, 0)) att10_0_1 NB247_0.out (by simp)); have n1_ := Aside0.mk (KeepBut.trans att10_0_0 hk (.inl rfl)); have n2_ := Aside0.mk (hb); have n3_ := Aside0.mk (hi); clear BK247; clear HK; clear HB; clear HI0; have BK247 := n0_; have HK := n1_; have HB := n2_; have HI0 := n3_; clear n0_ n1_ n2_ n3_; (try clear hb); (try clear hb2); (try clear hk); (try clear hi)) | ((with_reducible refine gate_callee (f := 97) rfl ?_); refine goesL_ (some 80) rfl rfl Try.func97 (by kernel_rfl) rfl #[.pointer (some ⟨g, 0, none⟩), .int .i64 a1] rfl att10_0_4 ?_; (with_reducible refine (spec_l1Below.calls g s0_0 t271 t272 a1 t273 t274 t275 w0 _ ?side1 ?side2 A54.out).mono ?_); (case side1 => repeat (first | (with_reducible first | exact HI0.out | apply IsS170.alloc | apply IsS170.drewN | apply IsS170.drew | apply IsS170.set_1 | apply IsS170.set_2 | refine IsS170.far ?_ NB0_247.out _) | exact HI0.out)); (case side2 => repeat (first | (with_reducible first | exact HB.out | apply below_alloc | apply pw_below_drewN | apply below_drew1 | refine below_set ?_ (IsS170.ge HI0.out) | refine below_set ?_ GE247.out) | exact HB.out)); rintro e w56 ⟨rfl, hi, hb, hk⟩; refine ⟨_, rfl, ?_⟩; have n0_ := Aside0.mk (KeepBut.blk hk (g' := gb247) (o := .cells #[.int .i64 0, .int .i64 0, .int .i64 0, .int .i64 0, .int .i64 0] 37 (0, 0)) att10_0_1 NB247_0.out (by simp)); have n1_ := Aside0.mk (KeepBut.trans att10_0_0 hk (.inl rfl)); have n2_ := Aside0.mk (hb); have n3_ := Aside0.mk (hi); clear BK247; clear HK; clear HB; clear HI0; have BK247 := n0_; have HK := n1_; have HB := n2_; have HI0 := n3_; clear n0_ n1_ n2_ n3_; (try clear hb); (try clear hb2); (try clear hk); (try clear hi); have hnb57 := NB247_0.out; have hnc57 := NB0_247.out; have hcz58_0 : w56.cell? ⟨gb247, 0, none⟩ = some (.int .i64 0) := (blk_cell BK247.out 0).trans rfl; have hcz58_1 : w56.cell? ⟨gb247, 1, none⟩ = some (.int .i64 0) := (blk_cell BK247.out 1).trans rfl; have hcz58_2 : w56.cell? ⟨gb247, 2, none⟩ = some (.int .i64 0) := (blk_cell BK247.out 2).trans rfl; have hcz58_3 : w56.cell? ⟨gb247, 3, none⟩ = some (.int .i64 0) := (blk_cell BK247.out 3).trans rfl; have hcz58_4 : w56.cell? ⟨gb247, 4, none⟩ = some (.int .i64 0) := (blk_cell BK247.out 4).trans rfl; have hfz58_0 := blk_frozen BK247.out 0; have hfz58_1 := blk_frozen BK247.out 1; have hfz58_2 := blk_frozen BK247.out 2; have hfz58_3 := blk_frozen BK247.out 3; have hfz58_4 := blk_frozen BK247.out 4))
                 refine bodyPost_ret (results_cell_row rfl _ _ gb247 37 #[.int .i64 11, .int .i64 0, .int .i64 0, .int .i64 0, .int .i64 t273] (0, 0) _ rfl (by (with_reducible repeat (first | refine blk_drewN ?_ _ | refine blk_drew ?_ | refine blk_alloc ?_ _)); refine blk_put (cs := #[.int .i64 11, .int .i64 0, .int .i64 0, .int .i64 0, .int .i64 0]) ?_ 4 _ rfl; (with_reducible repeat (first | refine blk_drewN ?_ _ | refine blk_drew ?_ | refine blk_alloc ?_ _)); refine blk_put (cs := #[.int .i64 11, .int .i64 0, .int .i64 0, .int .i64 0, .int .i64 0]) ?_ 3 _ rfl; (with_reducible repeat (first | refine blk_drewN ?_ _ | refine blk_drew ?_ | refine blk_alloc ?_ _)); refine blk_put (cs := #[.int .i64 11, .int .i64 0, .int .i64 0, .int .i64 0, .int .i64 0]) ?_ 2 _ rfl; (with_reducible repeat (first | refine blk_drewN ?_ _ | refine blk_drew ?_ | refine blk_alloc ?_ _)); refine blk_put (cs := #[.int .i64 11, .int .i64 0, .int .i64 0, .int .i64 0, .int .i64 0]) ?_ 1 _ rfl; (with_reducible repeat (first | refine blk_drewN ?_ _ | refine blk_drew ?_ | refine blk_alloc ?_ _)); refine blk_put (cs := #[.int .i64 0, .int .i64 0, .int .i64 0, .int .i64 0, .int .i64 0]) ?_ 0 _ rfl; (with_reducible repeat (first | refine blk_drewN ?_ _ | refine blk_drew ?_ | refine blk_alloc ?_ _)); exact BK247.out) Try.underlying37 rfl (by kernel_rfl)) rfl ?_
                 exact ⟨by first | rfl | (simp [errW_none, errW_some] <;> rfl) | (simp [*, errW_none, errW_some] <;> rfl), by repeat (first | (with_reducible first | exact HI0.out | apply IsS170.alloc | apply IsS170.drewN | apply IsS170.drew | apply IsS170.set_1 | apply IsS170.set_2 | refine IsS170.far ?_ NB0_247.out _) | exact HI0.out), by repeat (first | (with_reducible first | exact HB.out | apply below_alloc | apply pw_below_drewN | apply below_drew1 | refine below_set ?_ (IsS170.ge HI0.out) | refine below_set ?_ GE247.out) | exact HB.out), att10_0_0⟩
               ·rw [if_neg c48] at H
                have c48b0 : (t261 == 12) = false := beq_eq_false_iff_ne.mpr c48
                have c48b1 : (t261 != 12) = true := bne_iff_ne.mpr c48
                by_cases c59 : t261 = 13
                ·rw [if_pos c59] at H
                 have c59b0 : (t261 == 13) = true := beq_iff_eq.mpr c59
                 have c59b1 : (t261 != 13) = false := bne_eq_false_iff_eq.mpr c59
                 clear c59
                 replace H := Option.bind_eq_some_iff.mp H
                 obtain ⟨⟨t276, t277, t278⟩, A600, H⟩ := H
                 replace H : (some (12, 0, t251, 0, t276, t277, t278)) = some (r1, r2, r3, r4, r5, r6, r7) := H
                 have A60 := Aside0.mk A600
                 clear A600
                 simp only [Option.some.injEq, Prod.mk.injEq] at H
                 obtain ⟨rfl, rfl, rfl, rfl, rfl, rfl, rfl⟩ := H
                 go_wp2_with (first | ((with_reducible refine gate_callee (f := 97) rfl ?_); refine goesL_ (some 87) rfl rfl Try.func97 (by kernel_rfl) rfl #[.pointer (some ⟨g, 0, none⟩), .int .i64 a1] rfl att10_0_4 ?_; (with_reducible refine (spec_l1Below.calls g s0_0 t262 t263 a1 t276 t277 t278 w0 _ ?side1 ?side2 A60.out).mono ?_); (case side1 => repeat (first | (with_reducible first | exact HI0.out | apply IsS170.alloc | apply IsS170.drewN | apply IsS170.drew | apply IsS170.set_1 | apply IsS170.set_2 | refine IsS170.far ?_ NB0_247.out _) | exact HI0.out)); (case side2 => repeat (first | (with_reducible first | exact HB.out | apply below_alloc | apply pw_below_drewN | apply below_drew1 | refine below_set ?_ (IsS170.ge HI0.out) | refine below_set ?_ GE247.out) | exact HB.out)); rintro e w61 ⟨rfl, hi, hb, hk⟩; refine ⟨_, rfl, ?_⟩; have n0_ := Aside0.mk (KeepBut.blk hk (g' := gb247) (o := .cells #[.int .i64 0, .int .i64 0, .int .i64 0, .int .i64 0, .int .i64 0] 37 (0, 0)) att10_0_1 NB247_0.out (by simp)); have n1_ := Aside0.mk (KeepBut.trans att10_0_0 hk (.inl rfl)); have n2_ := Aside0.mk (hb); have n3_ := Aside0.mk (hi); clear BK247; clear HK; clear HB; clear HI0; have BK247 := n0_; have HK := n1_; have HB := n2_; have HI0 := n3_; clear n0_ n1_ n2_ n3_; (try clear hb); (try clear hb2); (try clear hk); (try clear hi); have hnb62 := NB247_0.out; have hnc62 := NB0_247.out; have hcz63_0 : w61.cell? ⟨gb247, 0, none⟩ = some (.int .i64 0) := (blk_cell BK247.out 0).trans rfl; have hcz63_1 : w61.cell? ⟨gb247, 1, none⟩ = some (.int .i64 0) := (blk_cell BK247.out 1).trans rfl; have hcz63_2 : w61.cell? ⟨gb247, 2, none⟩ = some (.int .i64 0) := (blk_cell BK247.out 2).trans rfl; have hcz63_3 : w61.cell? ⟨gb247, 3, none⟩ = some (.int .i64 0) := (blk_cell BK247.out 3).trans rfl; have hcz63_4 : w61.cell? ⟨gb247, 4, none⟩ = some (.int .i64 0) := (blk_cell BK247.out 4).trans rfl; have hfz63_0 := blk_frozen BK247.out 0; have hfz63_1 := blk_frozen BK247.out 1; have hfz63_2 := blk_frozen BK247.out 2; have hfz63_3 := blk_frozen BK247.out 3; have hfz63_4 := blk_frozen BK247.out 4))
                 refine bodyPost_ret (results_cell_row rfl _ _ gb247 37 #[.int .i64 12, .int .i64 0, .int .i64 t251, .int .i64 0, .int .i64 t276] (0, 0) _ rfl (by (with_reducible repeat (first | refine blk_drewN ?_ _ | refine blk_drew ?_ | refine blk_alloc ?_ _)); refine blk_put (cs := #[.int .i64 12, .int .i64 0, .int .i64 t251, .int .i64 0, .int .i64 0]) ?_ 4 _ rfl; (with_reducible repeat (first | refine blk_drewN ?_ _ | refine blk_drew ?_ | refine blk_alloc ?_ _)); refine blk_put (cs := #[.int .i64 12, .int .i64 0, .int .i64 t251, .int .i64 0, .int .i64 0]) ?_ 3 _ rfl; (with_reducible repeat (first | refine blk_drewN ?_ _ | refine blk_drew ?_ | refine blk_alloc ?_ _)); refine blk_put (cs := #[.int .i64 12, .int .i64 0, .int .i64 0, .int .i64 0, .int .i64 0]) ?_ 2 _ rfl; (with_reducible repeat (first | refine blk_drewN ?_ _ | refine blk_drew ?_ | refine blk_alloc ?_ _)); refine blk_put (cs := #[.int .i64 12, .int .i64 0, .int .i64 0, .int .i64 0, .int .i64 0]) ?_ 1 _ rfl; (with_reducible repeat (first | refine blk_drewN ?_ _ | refine blk_drew ?_ | refine blk_alloc ?_ _)); refine blk_put (cs := #[.int .i64 0, .int .i64 0, .int .i64 0, .int .i64 0, .int .i64 0]) ?_ 0 _ rfl; (with_reducible repeat (first | refine blk_drewN ?_ _ | refine blk_drew ?_ | refine blk_alloc ?_ _)); exact BK247.out) Try.underlying37 rfl (by kernel_rfl)) rfl ?_
                 exact ⟨by first | rfl | (simp [errW_none, errW_some] <;> rfl) | (simp [*, errW_none, errW_some] <;> rfl), by repeat (first | (with_reducible first | exact HI0.out | apply IsS170.alloc | apply IsS170.drewN | apply IsS170.drew | apply IsS170.set_1 | apply IsS170.set_2 | refine IsS170.far ?_ NB0_247.out _) | exact HI0.out), by repeat (first | (with_reducible first | exact HB.out | apply below_alloc | apply pw_below_drewN | apply below_drew1 | refine below_set ?_ (IsS170.ge HI0.out) | refine below_set ?_ GE247.out) | exact HB.out), att10_0_0⟩
                ·rw [if_neg c59] at H
                 have c59b0 : (t261 == 13) = false := beq_eq_false_iff_ne.mpr c59
                 have c59b1 : (t261 != 13) = true := bne_iff_ne.mpr c59
                 simp only [Option.some.injEq, Prod.mk.injEq] at H
                 obtain ⟨rfl, rfl, rfl, rfl, rfl, rfl, rfl⟩ := H
                 have hnb64 := NB247_0.out
                 have hnc64 := NB0_247.out
                 have hcz65_0 : wc.cell? ⟨gb247, 0, none⟩ = some (.int .i64 0) := (blk_cell BK247.out 0).trans rfl
                 have hcz65_1 : wc.cell? ⟨gb247, 1, none⟩ = some (.int .i64 0) := (blk_cell BK247.out 1).trans rfl
                 have hcz65_2 : wc.cell? ⟨gb247, 2, none⟩ = some (.int .i64 0) := (blk_cell BK247.out 2).trans rfl
                 have hcz65_3 : wc.cell? ⟨gb247, 3, none⟩ = some (.int .i64 0) := (blk_cell BK247.out 3).trans rfl
                 have hcz65_4 : wc.cell? ⟨gb247, 4, none⟩ = some (.int .i64 0) := (blk_cell BK247.out 4).trans rfl
                 have hfz65_0 := blk_frozen BK247.out 0
                 have hfz65_1 := blk_frozen BK247.out 1
                 have hfz65_2 := blk_frozen BK247.out 2
                 have hfz65_3 := blk_frozen BK247.out 3
                 have hfz65_4 := blk_frozen BK247.out 4
                 go_wp2
                 refine bodyPost_ret (results_cell_row rfl _ _ gb247 37 #[.int .i64 10, .int .i64 0, .int .i64 t251, .int .i64 0, .int .i64 0] (0, 0) _ rfl (by (with_reducible repeat (first | refine blk_drewN ?_ _ | refine blk_drew ?_ | refine blk_alloc ?_ _)); refine blk_put (cs := #[.int .i64 10, .int .i64 0, .int .i64 t251, .int .i64 0, .int .i64 0]) ?_ 4 _ rfl; (with_reducible repeat (first | refine blk_drewN ?_ _ | refine blk_drew ?_ | refine blk_alloc ?_ _)); refine blk_put (cs := #[.int .i64 10, .int .i64 0, .int .i64 t251, .int .i64 0, .int .i64 0]) ?_ 3 _ rfl; (with_reducible repeat (first | refine blk_drewN ?_ _ | refine blk_drew ?_ | refine blk_alloc ?_ _)); refine blk_put (cs := #[.int .i64 10, .int .i64 0, .int .i64 0, .int .i64 0, .int .i64 0]) ?_ 2 _ rfl; (with_reducible repeat (first | refine blk_drewN ?_ _ | refine blk_drew ?_ | refine blk_alloc ?_ _)); refine blk_put (cs := #[.int .i64 10, .int .i64 0, .int .i64 0, .int .i64 0, .int .i64 0]) ?_ 1 _ rfl; (with_reducible repeat (first | refine blk_drewN ?_ _ | refine blk_drew ?_ | refine blk_alloc ?_ _)); refine blk_put (cs := #[.int .i64 0, .int .i64 0, .int .i64 0, .int .i64 0, .int .i64 0]) ?_ 0 _ rfl; (with_reducible repeat (first | refine blk_drewN ?_ _ | refine blk_drew ?_ | refine blk_alloc ?_ _)); exact BK247.out) Try.underlying37 rfl (by kernel_rfl)) rfl ?_
                 exact ⟨by first | rfl | (simp [errW_none, errW_some] <;> rfl) | (simp [*, errW_none, errW_some] <;> rfl), by repeat (first | (with_reducible first | exact HI0.out | apply IsS170.alloc | apply IsS170.drewN | apply IsS170.drew | apply IsS170.set_1 | apply IsS170.set_2 | refine IsS170.far ?_ NB0_247.out _) | exact HI0.out), by repeat (first | (with_reducible first | exact HB.out | apply below_alloc | apply pw_below_drewN | apply below_drew1 | refine below_set ?_ (IsS170.ge HI0.out) | refine below_set ?_ GE247.out) | exact HB.out), att10_0_0⟩

end Go.Proofs.Ytonlhgkpmjefkaa.XFnPlaces
