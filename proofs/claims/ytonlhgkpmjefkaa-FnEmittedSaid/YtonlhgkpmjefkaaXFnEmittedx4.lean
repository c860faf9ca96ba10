/- Each Go function that the law reaches as a Lean function, and that Go comes to just its answer; written by this session's xprint.py over the kit's printer. -/
import Derived.Test.YtonlhgkpmjefkaaXFnEmittedx0
import Derived.Test.YtonlhgkpmjefkaaXFnEmittedx3
namespace Go.Proofs.Ytonlhgkpmjefkaa.XFnEmitted
open Go.RowKit Go.Proofs.YtonlhgkpmjefkaaW.PrintWords Go.Proofs.YtonlhgkpmjefkaaW.PrintLast Go.Proofs.YtonlhgkpmjefkaaW.PrintMore
attribute [local go_sem] max2_int min2_int max_two min_two max_three min_three max_four min_four   -- for this text's walks alone
set_option linter.unusedVariables false
set_option linter.unusedSimpArgs false

theorem att5_0_0 {p : Prop} (h : p := by repeat (first | (with_reducible first | exact HK.out | apply KeepBut.set_ | apply keep_drewN | apply keep_drew | apply keep_alloc | refine keep_far ?_ GW155.out _) | exact HK.out)) : p := h
theorem att5_0_1 {p : Prop} (h : p := by repeat (first | (with_reducible first | exact HK.out | apply KeepBut.set_ | apply keep_drewN | apply keep_drew | apply keep_alloc | refine keep_far ?_ GW187.out _ | refine keep_far ?_ GW188.out _) | exact HK.out)) : p := h
theorem att5_0_2 {p : Prop} (h : p := by (with_reducible repeat (first | refine blk_drewN ?_ _ | refine blk_drew ?_ | refine blk_alloc ?_ _)); exact BK187.out) : p := h
theorem att5_0_3 {p : Prop} (h : p := by repeat (first | (with_reducible first | exact HK.out | apply KeepBut.set_ | apply keep_drewN | apply keep_drew | apply keep_alloc | refine keep_far ?_ GW187.out _) | exact HK.out)) : p := h
theorem att5_0_5 {p : Prop} (h : p := by repeat (first | (with_reducible first | exact HK.out | apply KeepBut.set_ | apply keep_drewN | apply keep_drew | apply keep_alloc) | exact HK.out)) : p := h
theorem att5_0_6 {p : Prop} (h : p := by (with_reducible repeat (first | refine blk_drewN ?_ _ | refine blk_drew ?_ | refine blk_alloc ?_ _)); exact BK155.out) : p := h
theorem att5_0_7 {p : Prop} (h : p := by repeat (first | (with_reducible first | exact HI0.out | apply IsS170.alloc | apply IsS170.drewN | apply IsS170.drew | apply IsS170.set_1 | apply IsS170.set_2 | refine IsS170.far ?_ NB0_155.out _) | exact HI0.out)) : p := h
theorem att5_0_8 {p : Prop} (h : p := by repeat (first | (with_reducible first | exact HB.out | apply below_alloc | apply pw_below_drewN | apply below_drew1 | refine below_set ?_ (IsS170.ge HI0.out) | refine below_set ?_ GE155.out) | exact HB.out)) : p := h
theorem att5_0_9 {p : Prop} (h : p := by (with_reducible repeat (first | refine blk_drewN ?_ _ | refine blk_drew ?_ | refine blk_alloc ?_ _)); exact BK188.out) : p := h
theorem att5_0_10 {p : Prop} (h : p := by repeat (first | (with_reducible first | exact HI0.out | apply IsS170.alloc | apply IsS170.drewN | apply IsS170.drew | apply IsS170.set_1 | apply IsS170.set_2 | refine IsS170.far ?_ NB0_187.out _) | exact HI0.out)) : p := h
theorem att5_0_11 {p : Prop} (h : p := by repeat (first | (with_reducible first | exact HI0.out | apply IsS170.alloc | apply IsS170.drewN | apply IsS170.drew | apply IsS170.set_1 | apply IsS170.set_2) | exact HI0.out)) : p := h
theorem att5_0_12 {p : Prop} (h : p := by repeat (first | (with_reducible first | exact HB.out | apply below_alloc | apply pw_below_drewN | apply below_drew1 | refine below_set ?_ (IsS170.ge HI0.out)) | exact HB.out)) : p := h
theorem att5_0_13 {p : Prop} (h : p := by repeat (first | (with_reducible first | exact HB.out | apply below_alloc | apply pw_below_drewN | apply below_drew1 | refine below_set ?_ (IsS170.ge HI0.out) | refine below_set ?_ GE187.out) | exact HB.out)) : p := h
theorem att5_0_15 {p : Prop} (h : p := by have := HJ9.out; have := HJ22.out; have := HJ29.out; first | omega | exact Nat.le_refl _) : p := h
theorem att5_0_16 {p : Prop} (h : p := by have := HJ9.out; have := HJ22.out; first | omega | exact Nat.le_refl _) : p := h
/-! ### spec_l1DrawIns: function 94 -/
mutual
def spec_l1DrawIns.j0 : Nat → Int → Int → Int → Int → Int → Int → Bool → List Int → Int → Int → Option (Int × Int × Int × Int × Int × Int × Int)
 | 0, _, _, _, _, _, _, _, _, _, _ => none
 | k + 1, x1, x7, x8, x9, x10, x22, x23, x1000, x1001, x1002 => if x23 = true then ((spec_l1Below.f x1000 x1001 x1002 9).bind fun bt172 => (some (1, x7, 0, 0, wrap64 (bt172.1 - 2), bt172.2.1, bt172.2.2))) else (if x22 = 2 then (spec_l1DrawIns.j1 k x1 x7 x8 x9 x10 x22 (x22 == 2) x1000 x1001 x1002) else (spec_l1DrawIns.j1 k x1 x7 x8 x9 x10 x22 (x22 == 3) x1000 x1001 x1002))
def spec_l1DrawIns.j1 : Nat → Int → Int → Int → Int → Int → Int → Bool → List Int → Int → Int → Option (Int × Int × Int × Int × Int × Int × Int)
 | 0, _, _, _, _, _, _, _, _, _, _ => none
 | k + 1, x1, x7, x8, x9, x10, x22, x31, x1000, x1001, x1002 => if x31 = true then ((spec_l1Below.f x1000 x1001 x1002 3).bind fun bt175 => (some (wrap64 (2 + bt175.1), x7, x8, x9, 0, bt175.2.1, bt175.2.2))) else (if x22 = 4 then (spec_l1DrawIns.j2 k x1 x7 x8 x10 x22 (x22 == 4) x1000 x1001 x1002) else (if x22 = 5 then (spec_l1DrawIns.j2 k x1 x7 x8 x10 x22 (x22 == 5) x1000 x1001 x1002) else (spec_l1DrawIns.j2 k x1 x7 x8 x10 x22 (x22 == 6) x1000 x1001 x1002)))
def spec_l1DrawIns.j2 : Nat → Int → Int → Int → Int → Int → Bool → List Int → Int → Int → Option (Int × Int × Int × Int × Int × Int × Int)
 | 0, _, _, _, _, _, _, _, _, _ => none
 | k + 1, x1, x7, x8, x10, x22, x41, x1000, x1001, x1002 => if x41 = true then (some (5, 0, x8, 0, x10, x1001, x1002)) else (if x22 = 7 then (spec_l1DrawIns.j3 k x1 x7 x8 x10 x22 (x22 == 7) x1000 x1001 x1002) else (if x22 = 8 then (spec_l1DrawIns.j3 k x1 x7 x8 x10 x22 (x22 == 8) x1000 x1001 x1002) else (spec_l1DrawIns.j3 k x1 x7 x8 x10 x22 (x22 == 9) x1000 x1001 x1002)))
def spec_l1DrawIns.j3 : Nat → Int → Int → Int → Int → Int → Bool → List Int → Int → Int → Option (Int × Int × Int × Int × Int × Int × Int)
 | 0, _, _, _, _, _, _, _, _, _ => none
 | k + 1, x1, x7, x8, x10, x22, x48, x1000, x1001, x1002 => if x48 = true then (some (6, x7, 0, Int.tmod (wrap64 (x7 + 1)) 4, x10, x1001, x1002)) else (if x22 = 10 then (some (7, x7, x8, 0, x10, x1001, x1002)) else (if x22 = 11 then (some (8, x7, 0, Int.tmod (wrap64 (x7 + 1)) 4, x10, x1001, x1002)) else (if x22 = 12 then ((spec_l1Once.f x1000 x1001 x1002 3).bind fun bt178 => (if bt178.1 = true then (some (9, 0, 0, 0, x10, bt178.2.1, bt178.2.2)) else ((spec_l1Below.f x1000 bt178.2.1 bt178.2.2 x1).bind fun bt181 => (some (11, 0, 0, 0, bt181.1, bt181.2.1, bt181.2.2))))) else (if x22 = 13 then ((spec_l1Below.f x1000 x1001 x1002 x1).bind fun bt184 => (some (12, 0, x8, 0, bt184.1, bt184.2.1, bt184.2.2))) else (some (10, 0, x8, 0, 0, x1001, x1002))))))
end
def spec_l1DrawIns.f (k : Nat) (s0_0 : List Int) (s0_1 : Int) (s0_2 : Int) (a1 : Int) (a2 : Int) : Option (Int × Int × Int × Int × Int × Int × Int) := (spec_l1Below.f s0_0 s0_1 s0_2 4).bind fun bt156 => ((spec_l1Below.f s0_0 bt156.2.1 bt156.2.2 4).bind fun bt159 => ((spec_l1Below.f s0_0 bt159.2.1 bt159.2.2 4).bind fun bt162 => ((spec_l1Max.f a2 1).bind fun t165 => ((spec_l1Below.f s0_0 bt162.2.1 bt162.2.2 t165).bind fun bt166 => ((spec_l1Below.f s0_0 bt166.2.1 bt166.2.2 16).bind fun bt169 => (if bt169.1 = 0 then (spec_l1DrawIns.j0 k a1 bt156.1 bt159.1 bt162.1 bt166.1 bt169.1 (bt169.1 == 0) s0_0 bt169.2.1 bt169.2.2) else (spec_l1DrawIns.j0 k a1 bt156.1 bt159.1 bt162.1 bt166.1 bt169.1 (bt169.1 == 1) s0_0 bt169.2.1 bt169.2.2)))))))
theorem spec_l1DrawIns.mono_l : ∀ k, (∀ y0 y1 y2 y3 y4 y5 y6 y7 y8 y9, LeO (spec_l1DrawIns.j0 k y0 y1 y2 y3 y4 y5 y6 y7 y8 y9) (spec_l1DrawIns.j0 (k + 1) y0 y1 y2 y3 y4 y5 y6 y7 y8 y9)) ∧ (∀ y0 y1 y2 y3 y4 y5 y6 y7 y8 y9, LeO (spec_l1DrawIns.j1 k y0 y1 y2 y3 y4 y5 y6 y7 y8 y9) (spec_l1DrawIns.j1 (k + 1) y0 y1 y2 y3 y4 y5 y6 y7 y8 y9)) ∧ (∀ y0 y1 y2 y3 y4 y5 y6 y7 y8, LeO (spec_l1DrawIns.j2 k y0 y1 y2 y3 y4 y5 y6 y7 y8) (spec_l1DrawIns.j2 (k + 1) y0 y1 y2 y3 y4 y5 y6 y7 y8)) ∧ (∀ y0 y1 y2 y3 y4 y5 y6 y7 y8, LeO (spec_l1DrawIns.j3 k y0 y1 y2 y3 y4 y5 y6 y7 y8) (spec_l1DrawIns.j3 (k + 1) y0 y1 y2 y3 y4 y5 y6 y7 y8))
 | 0 => ⟨fun _ _ _ _ _ _ _ _ _ _ r h => by simp [spec_l1DrawIns.j0] at h, fun _ _ _ _ _ _ _ _ _ _ r h => by simp [spec_l1DrawIns.j1] at h, fun _ _ _ _ _ _ _ _ _ r h => by simp [spec_l1DrawIns.j2] at h, fun _ _ _ _ _ _ _ _ _ r h => by simp [spec_l1DrawIns.j3] at h⟩
 | k + 1 => by
  obtain ⟨ih0, ih1, ih2, ih3⟩ := spec_l1DrawIns.mono_l k
  refine ⟨?_, ?_, ?_, ?_⟩
  all_goals intros
  all_goals first | unfold spec_l1DrawIns.j0 | unfold spec_l1DrawIns.j1 | unfold spec_l1DrawIns.j2 | unfold spec_l1DrawIns.j3
  all_goals repeat' (with_reducible first | exact ih0 .. | exact ih1 .. | exact ih2 .. | exact ih3 .. | exact LeO.refl _ | exact LeO.none _ | refine LeO.ite ?_ ?_ | refine LeO.bind ?_ (fun _ => ?_))
theorem spec_l1DrawIns.mono : ∀ a0 a1 a2 a3 a4 k, LeO (spec_l1DrawIns.f k a0 a1 a2 a3 a4) (spec_l1DrawIns.f (k + 1) a0 a1 a2 a3 a4) := by
 intro a0 a1 a2 a3 a4 k
 obtain ⟨ih0, ih1, ih2, ih3⟩ := spec_l1DrawIns.mono_l k
 unfold spec_l1DrawIns.f
 repeat' (with_reducible first | exact ih0 .. | exact ih1 .. | exact ih2 .. | exact ih3 .. | exact LeO.refl _ | exact LeO.none _ | refine LeO.ite ?_ ?_ | refine LeO.bind ?_ (fun _ => ?_))
set_option maxHeartbeats 80000000 in
set_option maxRecDepth 100000 in
theorem spec_l1DrawIns.calls (k : Nat) (g : Nat) (s0_0 : List Int) (s0_1 : Int) (s0_2 : Int) (a1 : Int) (a2 : Int) (r1 : Int) (r2 : Int) (r3 : Int) (r4 : Int) (r5 : Int) (r6 : Int) (r7 : Int) (w0 w : World) (hI : IsS170 w0 w g s0_0 s0_1 s0_2) (hB : Below w0.heap.size w0 w) (h : spec_l1DrawIns.f k s0_0 s0_1 s0_2 a1 a2 = some (r1, r2, r3, r4, r5, r6, r7)) :
  Calls Try.prog 94 #[.pointer (some ⟨g, 0, none⟩), .int .i64 a1, .int .i64 a2] w fun e w' => e = .returned (.agg #[.int .i64 r1, .int .i64 r2, .int .i64 r3, .int .i64 r4, .int .i64 r5]) ∧ IsS170 w0 w' g s0_0 r6 r7 ∧ Below w0.heap.size w0 w' ∧ KeepBut w w' g none := by
 have hu37 := Try.underlying37
 have HI0 := Aside0.mk hI
 have HK := Aside0.mk (KeepBut.refl w g none)
 have HL := Aside0.mk hB.size
 clear hI
 have HW0 := Aside0.mk hB.size
 have HB := Aside0.mk hB
 clear hB
 have H : ((spec_l1Below.f s0_0 s0_1 s0_2 4).bind fun bt156 => ((spec_l1Below.f s0_0 bt156.2.1 bt156.2.2 4).bind fun bt159 => ((spec_l1Below.f s0_0 bt159.2.1 bt159.2.2 4).bind fun bt162 => ((spec_l1Max.f a2 1).bind fun t165 => ((spec_l1Below.f s0_0 bt162.2.1 bt162.2.2 t165).bind fun bt166 => ((spec_l1Below.f s0_0 bt166.2.1 bt166.2.2 16).bind fun bt169 => (if bt169.1 = 0 then (spec_l1DrawIns.j0 k a1 bt156.1 bt159.1 bt162.1 bt166.1 bt169.1 (bt169.1 == 0) s0_0 bt169.2.1 bt169.2.2) else (spec_l1DrawIns.j0 k a1 bt156.1 bt159.1 bt162.1 bt166.1 bt169.1 (bt169.1 == 1) s0_0 bt169.2.1 bt169.2.2)))))))) = some (r1, r2, r3, r4, r5, r6, r7) := h
 clear h
 replace H := Option.bind_eq_some_iff.mp H
 obtain ⟨⟨t156, t157, t158⟩, A40, H⟩ := H
 (try dsimp only at H)
 have A4 := Aside0.mk A40
 clear A40
 replace H := Option.bind_eq_some_iff.mp H
 obtain ⟨⟨t159, t160, t161⟩, A50, H⟩ := H
 (try dsimp only at H)
 have A5 := Aside0.mk A50
 clear A50
 replace H := Option.bind_eq_some_iff.mp H
 obtain ⟨⟨t162, t163, t164⟩, A60, H⟩ := H
 (try dsimp only at H)
 have A6 := Aside0.mk A60
 clear A60
 replace H := Option.bind_eq_some_iff.mp H
 obtain ⟨t165, A70, H⟩ := H
 (try dsimp only at H)
 have A7 := Aside0.mk A70
 clear A70
 replace H := Option.bind_eq_some_iff.mp H
 obtain ⟨⟨t166, t167, t168⟩, A80, H⟩ := H
 (try dsimp only at H)
 have A8 := Aside0.mk A80
 clear A80
 replace H := Option.bind_eq_some_iff.mp H
 obtain ⟨⟨t169, t170, t171⟩, A90, H⟩ := H
 (try dsimp only at H)
 have A9 := Aside0.mk A90
 clear A90
 have HC10 := Aside0.mk H
 clear H
 go_enter Try.func94, Try.ntmps94
 go_upto_if 23 with (first | ((with_reducible refine gate_dst (N := 6) rfl ?_); refine box_event ?hg (N := 6) ?hd (cs := #[.int .i64 0, .int .i64 0, .int .i64 0, .int .i64 0, .int .i64 0]) (t := 37) ?hr ?_; (case hd => rfl); (case hg => rfl); (case hr => first | (go_simp; done) | (go_simp; rfl)); intro gb155 hg w11 hbox hb; refine swap8_ (IsS170.below att5_0_11 hb) (KeepBut.trans att5_0_5 (KeepBut.of_below hb g none) (.inl rfl)) (below_step att5_0_12 hb) (hbox) ((by rw [hg]; exact (keep_size (w := w) (g := g) (row := none) att5_0_5) : w.heap.size ≤ gb155)) ((Nat.le_trans HW0.out (by rw [hg]; exact (keep_size (w := w) (g := g) (row := none) att5_0_5) : w.heap.size ≤ gb155) : w0.heap.size ≤ gb155)) ((by rw [hg]; exact Nat.ne_of_lt (IsS170.lt (show IsS170 w0 _ g s0_0 s0_1 s0_2 from by repeat (first | (with_reducible first | exact HI0.out | apply IsS170.alloc | apply IsS170.drewN | apply IsS170.drew | apply IsS170.set_1 | apply IsS170.set_2) | exact HI0.out))) : g ≠ gb155)) ((by rw [hg]; exact Nat.ne_of_gt (IsS170.lt (show IsS170 w0 _ g s0_0 s0_1 s0_2 from by repeat (first | (with_reducible first | exact HI0.out | apply IsS170.alloc | apply IsS170.drewN | apply IsS170.drew | apply IsS170.set_1 | apply IsS170.set_2) | exact HI0.out))) : gb155 ≠ g)) ?_; clear HI0 HK HB; intro HI0 HK HB BK155 GW155 GE155 NB0_155 NB155_0; clear hb hbox hg) | ((with_reducible refine gate_callee (f := 97) rfl ?_); refine goesL_ (some 12) rfl rfl Try.func97 (by kernel_rfl) rfl #[.pointer (some ⟨g, 0, none⟩), .int .i64 4] rfl atgM_ ?_; (with_reducible refine (spec_l1Below.calls g s0_0 s0_1 s0_2 4 t156 t157 t158 w0 _ ?side1 ?side2 A4.out).mono ?_); (case side1 => repeat (first | (with_reducible first | exact HI0.out | apply IsS170.alloc | apply IsS170.drewN | apply IsS170.drew | apply IsS170.set_1 | apply IsS170.set_2 | refine IsS170.far ?_ NB0_155.out _) | exact HI0.out)); (case side2 => repeat (first | (with_reducible first | exact HB.out | apply below_alloc | apply pw_below_drewN | apply below_drew1 | refine below_set ?_ (IsS170.ge HI0.out) | refine below_set ?_ GE155.out) | exact HB.out)); rintro e w12 ⟨rfl, hi, hb, hk⟩; refine ⟨_, rfl, ?_⟩; refine swap4_ (KeepBut.blk hk (g' := gb155) (o := .cells #[.int .i64 0, .int .i64 0, .int .i64 0, .int .i64 0, .int .i64 0] 37 (0, 0)) att5_0_6 NB155_0.out (by simp)) (KeepBut.trans att5_0_0 hk (.inl rfl)) (hb) (hi) ?_; clear BK155 HK HB HI0; intro BK155 HK HB HI0; (try clear hb); (try clear hb2); (try clear hk); (try clear hi)) | ((with_reducible refine gate_callee (f := 97) rfl ?_); refine goesL_ (some 14) rfl rfl Try.func97 (by kernel_rfl) rfl #[.pointer (some ⟨g, 0, none⟩), .int .i64 4] rfl atgM_ ?_; (with_reducible refine (spec_l1Below.calls g s0_0 t157 t158 4 t159 t160 t161 w0 _ ?side1 ?side2 A5.out).mono ?_); (case side1 => repeat (first | (with_reducible first | exact HI0.out | apply IsS170.alloc | apply IsS170.drewN | apply IsS170.drew | apply IsS170.set_1 | apply IsS170.set_2 | refine IsS170.far ?_ NB0_155.out _) | exact HI0.out)); (case side2 => repeat (first | (with_reducible first | exact HB.out | apply below_alloc | apply pw_below_drewN | apply below_drew1 | refine below_set ?_ (IsS170.ge HI0.out) | refine below_set ?_ GE155.out) | exact HB.out)); rintro e w13 ⟨rfl, hi, hb, hk⟩; refine ⟨_, rfl, ?_⟩; refine swap4_ (KeepBut.blk hk (g' := gb155) (o := .cells #[.int .i64 0, .int .i64 0, .int .i64 0, .int .i64 0, .int .i64 0] 37 (0, 0)) att5_0_6 NB155_0.out (by simp)) (KeepBut.trans att5_0_0 hk (.inl rfl)) (hb) (hi) ?_; clear BK155 HK HB HI0; intro BK155 HK HB HI0; (try clear hb); (try clear hb2); (try clear hk); (try clear hi)) | ((with_reducible refine gate_callee (f := 97) rfl ?_); refine goesL_ (some 16) rfl rfl Try.func97 (by kernel_rfl) rfl #[.pointer (some ⟨g, 0, none⟩), .int .i64 4] rfl atgM_ ?_; (with_reducible refine (spec_l1Below.calls g s0_0 t160 t161 4 t162 t163 t164 w0 _ ?side1 ?side2 A6.out).mono ?_); (case side1 => repeat (first | (with_reducible first | exact HI0.out | apply IsS170.alloc | apply IsS170.drewN | apply IsS170.drew | apply IsS170.set_1 | apply IsS170.set_2 | refine IsS170.far ?_ NB0_155.out _) | exact HI0.out)); (case side2 => repeat (first | (with_reducible first | exact HB.out | apply below_alloc | apply pw_below_drewN | apply below_drew1 | refine below_set ?_ (IsS170.ge HI0.out) | refine below_set ?_ GE155.out) | exact HB.out)); rintro e w14 ⟨rfl, hi, hb, hk⟩; refine ⟨_, rfl, ?_⟩; refine swap4_ (KeepBut.blk hk (g' := gb155) (o := .cells #[.int .i64 0, .int .i64 0, .int .i64 0, .int .i64 0, .int .i64 0] 37 (0, 0)) att5_0_6 NB155_0.out (by simp)) (KeepBut.trans att5_0_0 hk (.inl rfl)) (hb) (hi) ?_; clear BK155 HK HB HI0; intro BK155 HK HB HI0; (try clear hb); (try clear hb2); (try clear hk); (try clear hi)) | ((with_reducible refine gate_callee (f := 162) rfl ?_); refine goesL_ (some 19) rfl rfl Try.func162 (by kernel_rfl) rfl #[.int .i64 a2, .int .i64 1] rfl atgM_ ?_; (with_reducible refine (spec_l1Max.calls a2 1 t165 _ A7.out).mono ?_); rintro e w' ⟨rfl, ⟨nd, rfl⟩⟩; refine ⟨_, rfl, ?_⟩) | ((with_reducible refine gate_callee (f := 97) rfl ?_); refine goesL_ (some 20) rfl rfl Try.func97 (by kernel_rfl) rfl #[.pointer (some ⟨g, 0, none⟩), .int .i64 t165] rfl atgM_ ?_; (with_reducible refine (spec_l1Below.calls g s0_0 t163 t164 t165 t166 t167 t168 w0 _ ?side1 ?side2 A8.out).mono ?_); (case side1 => repeat (first | (with_reducible first | exact HI0.out | apply IsS170.alloc | apply IsS170.drewN | apply IsS170.drew | apply IsS170.set_1 | apply IsS170.set_2 | refine IsS170.far ?_ NB0_155.out _) | exact HI0.out)); (case side2 => repeat (first | (with_reducible first | exact HB.out | apply below_alloc | apply pw_below_drewN | apply below_drew1 | refine below_set ?_ (IsS170.ge HI0.out) | refine below_set ?_ GE155.out) | exact HB.out)); rintro e w15 ⟨rfl, hi, hb, hk⟩; refine ⟨_, rfl, ?_⟩; refine swap4_ (KeepBut.blk hk (g' := gb155) (o := .cells #[.int .i64 0, .int .i64 0, .int .i64 0, .int .i64 0, .int .i64 0] 37 (0, 0)) att5_0_6 NB155_0.out (by simp)) (KeepBut.trans att5_0_0 hk (.inl rfl)) (hb) (hi) ?_; clear BK155 HK HB HI0; intro BK155 HK HB HI0; (try clear hb); (try clear hb2); (try clear hk); (try clear hi)) | ((with_reducible refine gate_callee (f := 97) rfl ?_); refine goesL_ (some 22) rfl rfl Try.func97 (by kernel_rfl) rfl #[.pointer (some ⟨g, 0, none⟩), .int .i64 16] rfl atgM_ ?_; (with_reducible refine (spec_l1Below.calls g s0_0 t167 t168 16 t169 t170 t171 w0 _ ?side1 ?side2 A9.out).mono ?_); (case side1 => repeat (first | (with_reducible first | exact HI0.out | apply IsS170.alloc | apply IsS170.drewN | apply IsS170.drew | apply IsS170.set_1 | apply IsS170.set_2 | refine IsS170.far ?_ NB0_155.out _) | exact HI0.out)); (case side2 => repeat (first | (with_reducible first | exact HB.out | apply below_alloc | apply pw_below_drewN | apply below_drew1 | refine below_set ?_ (IsS170.ge HI0.out) | refine below_set ?_ GE155.out) | exact HB.out)); rintro e w16 ⟨rfl, hi, hb, hk⟩; refine ⟨_, rfl, ?_⟩; refine swap4_ (KeepBut.blk hk (g' := gb155) (o := .cells #[.int .i64 0, .int .i64 0, .int .i64 0, .int .i64 0, .int .i64 0] 37 (0, 0)) att5_0_6 NB155_0.out (by simp)) (KeepBut.trans att5_0_0 hk (.inl rfl)) (hb) (hi) ?_; clear BK155 HK HB HI0; intro BK155 HK HB HI0; (try clear hb); (try clear hb2); (try clear hk); (try clear hi)))
 (try simp only [Act.put, List.setIfInBounds_toArray, List.set_cons_zero, List.set_cons_succ])
 go_cut [23] (fun v23 wc => ∃ (kq : Nat) (x23_9 : Bool), v23 = .bool x23_9 ∧ Aside0 (spec_l1DrawIns.j0 kq a1 t156 t159 t162 t166 t169 x23_9 s0_0 t170 t171 = some (r1, r2, r3, r4, r5, r6, r7)) ∧ Aside0 (kq ≤ k) ∧ Aside0 (wc.heap[gb155]? = some (.cells #[.int .i64 0, .int .i64 0, .int .i64 0, .int .i64 0, .int .i64 0] 37 (0, 0))) ∧ Aside0 (IsS170 w0 wc g s0_0 t170 t171) ∧ Aside0 (KeepBut w wc g none) ∧ Aside0 (Below w0.heap.size w0 wc))
 case first =>
  have H := HC10.out
  clear HC10
  by_cases c17 : t169 = 0
  ·rw [if_pos c17] at H
   have c17b0 := beq_iff_eq.mpr c17
   have c17b1 := bne_eq_false_iff_eq.mpr c17
   clear c17
   (first | rw [c17b0] | (simp only [i64_w, i32_w]; rw [c17b0]) | skip)
   have H' := Aside0.mk H
   clear H
   go_wp2
   go_meet
   case rel => exact ⟨_, ((t169 == 0)), atgR_, H', ⟨by first | omega | exact Nat.le_refl _⟩, ⟨att5_0_6⟩, ⟨att5_0_7⟩, ⟨att5_0_0⟩, ⟨att5_0_8⟩⟩
  ·rw [if_neg c17] at H
   have c17b0 := beq_eq_false_iff_ne.mpr c17
   have c17b1 := bne_iff_ne.mpr c17
   (first | rw [c17b0] | (simp only [i64_w, i32_w]; rw [c17b0]) | skip)
   have H' := Aside0.mk H
   clear H
   go_wp2
   go_meet
   case rel => exact ⟨_, ((t169 == 1)), atgR_, H', ⟨by first | omega | exact Nat.le_refl _⟩, ⟨att5_0_6⟩, ⟨att5_0_7⟩, ⟨att5_0_0⟩, ⟨att5_0_8⟩⟩
 case rest =>
  clear HC10
  try clear c1
  try clear p2
  try clear c9
  try clear c16
  try clear c17
  try clear c17b0
  try clear c17b1
  obtain ⟨kq, x23_9, rfl, HA, HJ9, BK155, HI0, HK, HB⟩ := hcut
  cases kq with
  | zero => exact absurd HA.out (by simp [spec_l1DrawIns.j0])
  | succ kj9 =>
   have H := HA.out
   clear HA
   simp only [spec_l1DrawIns.j0] at H
   by_cases c18 : x23_9 = true
   ·subst c18
    rw [if_pos rfl] at H
    replace H := Option.bind_eq_some_iff.mp H
    obtain ⟨⟨t172, t173, t174⟩, A190, H⟩ := H
    (try dsimp only at H)
    have A19 := Aside0.mk A190
    clear A190
    simp only [Option.some.injEq, Prod.mk.injEq] at H
    obtain ⟨rfl, rfl, rfl, rfl, rfl, rfl, rfl⟩ := H
    go_wp2_with (first | ((with_reducible refine gate_callee (f := 97) rfl ?_); refine goesL_ (some 28) rfl rfl Try.func97 (by kernel_rfl) rfl #[.pointer (some ⟨g, 0, none⟩), .int .i64 9] rfl atgM_ ?_; (with_reducible refine (spec_l1Below.calls g s0_0 t170 t171 9 t172 t173 t174 w0 _ ?side1 ?side2 A19.out).mono ?_); (case side1 => repeat (first | (with_reducible first | exact HI0.out | apply IsS170.alloc | apply IsS170.drewN | apply IsS170.drew | apply IsS170.set_1 | apply IsS170.set_2 | refine IsS170.far ?_ NB0_155.out _) | exact HI0.out)); (case side2 => repeat (first | (with_reducible first | exact HB.out | apply below_alloc | apply pw_below_drewN | apply below_drew1 | refine below_set ?_ (IsS170.ge HI0.out) | refine below_set ?_ GE155.out) | exact HB.out)); rintro e w20 ⟨rfl, hi, hb, hk⟩; refine ⟨_, rfl, ?_⟩; refine swap4_ (KeepBut.blk hk (g' := gb155) (o := .cells #[.int .i64 0, .int .i64 0, .int .i64 0, .int .i64 0, .int .i64 0] 37 (0, 0)) att5_0_6 NB155_0.out (by simp)) (KeepBut.trans att5_0_0 hk (.inl rfl)) (hb) (hi) ?_; clear BK155 HK HB HI0; intro BK155 HK HB HI0; (try clear hb); (try clear hb2); (try clear hk); (try clear hi); have hnb21 := NB155_0.out; have hnc21 := NB0_155.out; obtain ⟨hcz22_0, hcz22_1, hcz22_2, hcz22_3, hcz22_4, hfz22_0, hfz22_1, hfz22_2, hfz22_3, hfz22_4⟩ := blkB5_ BK155))
    refine bodyPost_ret (results_cell_row rfl _ _ gb155 37 #[.int .i64 1, .int .i64 t156, .int .i64 0, .int .i64 0, .int .i64 (wrap64 (t172 - 2))] (0, 0) _ rfl (by (with_reducible repeat (first | refine blk_drewN ?_ _ | refine blk_drew ?_ | refine blk_alloc ?_ _)); refine blk_put (cs := #[.int .i64 1, .int .i64 t156, .int .i64 0, .int .i64 0, .int .i64 0]) ?_ 4 _ rfl; (with_reducible repeat (first | refine blk_drewN ?_ _ | refine blk_drew ?_ | refine blk_alloc ?_ _)); refine blk_put (cs := #[.int .i64 1, .int .i64 t156, .int .i64 0, .int .i64 0, .int .i64 0]) ?_ 3 _ rfl; (with_reducible repeat (first | refine blk_drewN ?_ _ | refine blk_drew ?_ | refine blk_alloc ?_ _)); refine blk_put (cs := #[.int .i64 1, .int .i64 t156, .int .i64 0, .int .i64 0, .int .i64 0]) ?_ 2 _ rfl; (with_reducible repeat (first | refine blk_drewN ?_ _ | refine blk_drew ?_ | refine blk_alloc ?_ _)); refine blk_put (cs := #[.int .i64 1, .int .i64 0, .int .i64 0, .int .i64 0, .int .i64 0]) ?_ 1 _ rfl; (with_reducible repeat (first | refine blk_drewN ?_ _ | refine blk_drew ?_ | refine blk_alloc ?_ _)); refine blk_put (cs := #[.int .i64 0, .int .i64 0, .int .i64 0, .int .i64 0, .int .i64 0]) ?_ 0 _ rfl; (with_reducible repeat (first | refine blk_drewN ?_ _ | refine blk_drew ?_ | refine blk_alloc ?_ _)); exact BK155.out) Try.underlying37 rfl (by kernel_rfl)) rfl ?_
    exact ⟨retT_, by repeat (first | (with_reducible first | exact HI0.out | apply IsS170.alloc | apply IsS170.drewN | apply IsS170.drew | apply IsS170.set_1 | apply IsS170.set_2 | refine IsS170.far ?_ NB0_155.out _) | exact HI0.out), by repeat (first | (with_reducible first | exact HB.out | apply below_alloc | apply pw_below_drewN | apply below_drew1 | refine below_set ?_ (IsS170.ge HI0.out) | refine below_set ?_ GE155.out) | exact HB.out), att5_0_0⟩
   ·replace c18 := Bool.eq_false_iff.mpr c18
    subst c18
    rw [if_neg (show ¬ (false = true) by decide)] at H
    have HC23 := Aside0.mk H
    clear H
    go_upto_if 31 with (fail)
    go_cut [31] (fun v31 wc => ∃ (kq : Nat) (x31_22 : Bool), v31 = .bool x31_22 ∧ Aside0 (spec_l1DrawIns.j1 kq a1 t156 t159 t162 t166 t169 x31_22 s0_0 t170 t171 = some (r1, r2, r3, r4, r5, r6, r7)) ∧ Aside0 (kq ≤ kj9) ∧ Aside0 (wc.heap[gb155]? = some (.cells #[.int .i64 0, .int .i64 0, .int .i64 0, .int .i64 0, .int .i64 0] 37 (0, 0))) ∧ Aside0 (IsS170 w0 wc g s0_0 t170 t171) ∧ Aside0 (KeepBut w wc g none) ∧ Aside0 (Below w0.heap.size w0 wc))
    case first =>
     have H := HC23.out
     clear HC23
     by_cases c24 : t169 = 2
     ·rw [if_pos c24] at H
      have c24b0 := beq_iff_eq.mpr c24
      have c24b1 := bne_eq_false_iff_eq.mpr c24
      clear c24
      (first | rw [c24b0] | (simp only [i64_w, i32_w]; rw [c24b0]) | skip)
      have H' := Aside0.mk H
      clear H
      go_wp2
      go_meet
      case rel => exact ⟨_, ((t169 == 2)), atgR_, H', ⟨by have := HJ9.out; first | omega | exact Nat.le_refl _⟩, ⟨att5_0_6⟩, ⟨att5_0_7⟩, ⟨att5_0_0⟩, ⟨att5_0_8⟩⟩
     ·rw [if_neg c24] at H
      have c24b0 := beq_eq_false_iff_ne.mpr c24
      have c24b1 := bne_iff_ne.mpr c24
      (first | rw [c24b0] | (simp only [i64_w, i32_w]; rw [c24b0]) | skip)
      have H' := Aside0.mk H
      clear H
      go_wp2
      go_meet
      case rel => exact ⟨_, ((t169 == 3)), atgR_, H', ⟨by have := HJ9.out; first | omega | exact Nat.le_refl _⟩, ⟨att5_0_6⟩, ⟨att5_0_7⟩, ⟨att5_0_0⟩, ⟨att5_0_8⟩⟩
    case rest =>
     clear HC23
     try clear c1
     try clear c2
     try clear p2
     try clear p6
     try clear c9
     try clear c16
     try clear c17
     try clear c17b0
     try clear c17b1
     try clear c18
     try clear c21
     try clear c24
     try clear c24b0
     try clear c24b1
     try clear hcz22_0 hcz22_1 hcz22_2 hcz22_3 hcz22_4 hfz22_0 hfz22_1 hfz22_2 hfz22_3 hfz22_4
     try clear p2
     obtain ⟨kq, x31_22, rfl, HA, HJ22, BK155, HI0, HK, HB⟩ := hcut
     cases kq with
     | zero => exact absurd HA.out (by simp [spec_l1DrawIns.j1])
     | succ kj22 =>
      have H := HA.out
      clear HA
      simp only [spec_l1DrawIns.j1] at H
      by_cases c25 : x31_22 = true
      ·subst c25
       rw [if_pos rfl] at H
       replace H := Option.bind_eq_some_iff.mp H
       obtain ⟨⟨t175, t176, t177⟩, A260, H⟩ := H
       (try dsimp only at H)
       have A26 := Aside0.mk A260
       clear A260
       simp only [Option.some.injEq, Prod.mk.injEq] at H
       obtain ⟨rfl, rfl, rfl, rfl, rfl, rfl, rfl⟩ := H
       go_wp2_with (first | ((with_reducible refine gate_callee (f := 97) rfl ?_); refine goesL_ (some 35) rfl rfl Try.func97 (by kernel_rfl) rfl #[.pointer (some ⟨g, 0, none⟩), .int .i64 3] rfl atgM_ ?_; (with_reducible refine (spec_l1Below.calls g s0_0 t170 t171 3 t175 t176 t177 w0 _ ?side1 ?side2 A26.out).mono ?_); (case side1 => repeat (first | (with_reducible first | exact HI0.out | apply IsS170.alloc | apply IsS170.drewN | apply IsS170.drew | apply IsS170.set_1 | apply IsS170.set_2 | refine IsS170.far ?_ NB0_155.out _) | exact HI0.out)); (case side2 => repeat (first | (with_reducible first | exact HB.out | apply below_alloc | apply pw_below_drewN | apply below_drew1 | refine below_set ?_ (IsS170.ge HI0.out) | refine below_set ?_ GE155.out) | exact HB.out)); rintro e w27 ⟨rfl, hi, hb, hk⟩; refine ⟨_, rfl, ?_⟩; refine swap4_ (KeepBut.blk hk (g' := gb155) (o := .cells #[.int .i64 0, .int .i64 0, .int .i64 0, .int .i64 0, .int .i64 0] 37 (0, 0)) att5_0_6 NB155_0.out (by simp)) (KeepBut.trans att5_0_0 hk (.inl rfl)) (hb) (hi) ?_; clear BK155 HK HB HI0; intro BK155 HK HB HI0; (try clear hb); (try clear hb2); (try clear hk); (try clear hi); have hnb28 := NB155_0.out; have hnc28 := NB0_155.out; obtain ⟨hcz29_0, hcz29_1, hcz29_2, hcz29_3, hcz29_4, hfz29_0, hfz29_1, hfz29_2, hfz29_3, hfz29_4⟩ := blkB5_ BK155))
       refine bodyPost_ret (results_cell_row rfl _ _ gb155 37 #[.int .i64 (wrap64 (2 + t175)), .int .i64 t156, .int .i64 t159, .int .i64 t162, .int .i64 0] (0, 0) _ rfl (by (with_reducible repeat (first | refine blk_drewN ?_ _ | refine blk_drew ?_ | refine blk_alloc ?_ _)); refine blk_put (cs := #[.int .i64 (wrap64 (2 + t175)), .int .i64 t156, .int .i64 t159, .int .i64 t162, .int .i64 0]) ?_ 4 _ rfl; (with_reducible repeat (first | refine blk_drewN ?_ _ | refine blk_drew ?_ | refine blk_alloc ?_ _)); refine blk_put (cs := #[.int .i64 (wrap64 (2 + t175)), .int .i64 t156, .int .i64 t159, .int .i64 0, .int .i64 0]) ?_ 3 _ rfl; (with_reducible repeat (first | refine blk_drewN ?_ _ | refine blk_drew ?_ | refine blk_alloc ?_ _)); refine blk_put (cs := #[.int .i64 (wrap64 (2 + t175)), .int .i64 t156, .int .i64 0, .int .i64 0, .int .i64 0]) ?_ 2 _ rfl; (with_reducible repeat (first | refine blk_drewN ?_ _ | refine blk_drew ?_ | refine blk_alloc ?_ _)); refine blk_put (cs := #[.int .i64 (wrap64 (2 + t175)), .int .i64 0, .int .i64 0, .int .i64 0, .int .i64 0]) ?_ 1 _ rfl; (with_reducible repeat (first | refine blk_drewN ?_ _ | refine blk_drew ?_ | refine blk_alloc ?_ _)); refine blk_put (cs := #[.int .i64 0, .int .i64 0, .int .i64 0, .int .i64 0, .int .i64 0]) ?_ 0 _ rfl; (with_reducible repeat (first | refine blk_drewN ?_ _ | refine blk_drew ?_ | refine blk_alloc ?_ _)); exact BK155.out) Try.underlying37 rfl (by kernel_rfl)) rfl ?_
       exact ⟨retT_, by repeat (first | (with_reducible first | exact HI0.out | apply IsS170.alloc | apply IsS170.drewN | apply IsS170.drew | apply IsS170.set_1 | apply IsS170.set_2 | refine IsS170.far ?_ NB0_155.out _) | exact HI0.out), by repeat (first | (with_reducible first | exact HB.out | apply below_alloc | apply pw_below_drewN | apply below_drew1 | refine below_set ?_ (IsS170.ge HI0.out) | refine below_set ?_ GE155.out) | exact HB.out), att5_0_0⟩
      ·replace c25 := Bool.eq_false_iff.mpr c25
       subst c25
       rw [if_neg (show ¬ (false = true) by decide)] at H
       have HC30 := Aside0.mk H
       clear H
       go_upto_if 41 with (fail)
       go_cut [41] (fun v41 wc => ∃ (kq : Nat) (x41_29 : Bool), v41 = .bool x41_29 ∧ Aside0 (spec_l1DrawIns.j2 kq a1 t156 t159 t166 t169 x41_29 s0_0 t170 t171 = some (r1, r2, r3, r4, r5, r6, r7)) ∧ Aside0 (kq ≤ kj22) ∧ Aside0 (wc.heap[gb155]? = some (.cells #[.int .i64 0, .int .i64 0, .int .i64 0, .int .i64 0, .int .i64 0] 37 (0, 0))) ∧ Aside0 (IsS170 w0 wc g s0_0 t170 t171) ∧ Aside0 (KeepBut w wc g none) ∧ Aside0 (Below w0.heap.size w0 wc))
       case first =>
        have H := HC30.out
        clear HC30
        by_cases c31 : t169 = 4
        ·rw [if_pos c31] at H
         have c31b0 := beq_iff_eq.mpr c31
         have c31b1 := bne_eq_false_iff_eq.mpr c31
         clear c31
         (first | rw [c31b0] | (simp only [i64_w, i32_w]; rw [c31b0]) | skip)
         have H' := Aside0.mk H
         clear H
         go_wp2
         go_meet
         case rel => exact ⟨_, ((t169 == 4)), atgR_, H', ⟨att5_0_16⟩, ⟨att5_0_6⟩, ⟨att5_0_7⟩, ⟨att5_0_0⟩, ⟨att5_0_8⟩⟩
        ·rw [if_neg c31] at H
         have c31b0 := beq_eq_false_iff_ne.mpr c31
         have c31b1 := bne_iff_ne.mpr c31
         (first | rw [c31b0] | (simp only [i64_w, i32_w]; rw [c31b0]) | skip)
         by_cases c32 : t169 = 5
         ·rw [if_pos c32] at H
          have c32b0 := beq_iff_eq.mpr c32
          have c32b1 := bne_eq_false_iff_eq.mpr c32
          clear c32
          have H' := Aside0.mk H
          clear H
          go_wp2
          go_meet
          case rel => exact ⟨_, ((t169 == 5)), atgR_, H', ⟨att5_0_16⟩, ⟨att5_0_6⟩, ⟨att5_0_7⟩, ⟨att5_0_0⟩, ⟨att5_0_8⟩⟩
         ·rw [if_neg c32] at H
          have c32b0 := beq_eq_false_iff_ne.mpr c32
          have c32b1 := bne_iff_ne.mpr c32
          have H' := Aside0.mk H
          clear H
          go_wp2
          go_meet
          case rel => exact ⟨_, ((t169 == 6)), atgR_, H', ⟨att5_0_16⟩, ⟨att5_0_6⟩, ⟨att5_0_7⟩, ⟨att5_0_0⟩, ⟨att5_0_8⟩⟩
       case rest =>
        clear HC30
        try clear c1
        try clear c2
        try clear p2
        try clear c3
        try clear p6
        try clear c9
        try clear c16
        try clear c17
        try clear c17b0
        try clear c17b1
        try clear c18
        try clear c21
        try clear c24
        try clear c24b0
        try clear c24b1
        try clear c25
        try clear c28
        try clear c31
        try clear c31b0
        try clear c31b1
        try clear c32
        try clear c32b0
        try clear c32b1
        try clear hcz22_0 hcz22_1 hcz22_2 hcz22_3 hcz22_4
        try clear hcz29_0 hcz29_1 hcz29_2 hcz29_3 hcz29_4
        try clear hfz22_0 hfz22_1 hfz22_2 hfz22_3 hfz22_4
        try clear hfz29_0 hfz29_1 hfz29_2 hfz29_3 hfz29_4
        try clear p2
        try clear p6
        obtain ⟨kq, x41_29, rfl, HA, HJ29, BK155, HI0, HK, HB⟩ := hcut
        cases kq with
        | zero => exact absurd HA.out (by simp [spec_l1DrawIns.j2])
        | succ kj29 =>
         have H := HA.out
         clear HA
         simp only [spec_l1DrawIns.j2] at H
         by_cases c33 : x41_29 = true
         ·subst c33
          rw [if_pos rfl] at H
          simp only [Option.some.injEq, Prod.mk.injEq] at H
          obtain ⟨rfl, rfl, rfl, rfl, rfl, rfl, rfl⟩ := H
          have hnb34 := NB155_0.out
          have hnc34 := NB0_155.out
          obtain ⟨hcz35_0, hcz35_1, hcz35_2, hcz35_3, hcz35_4, hfz35_0, hfz35_1, hfz35_2, hfz35_3, hfz35_4⟩ := blkB5_ BK155
          go_wp2
          refine bodyPost_ret (results_cell_row rfl _ _ gb155 37 #[.int .i64 5, .int .i64 0, .int .i64 t159, .int .i64 0, .int .i64 t166] (0, 0) _ rfl (by (with_reducible repeat (first | refine blk_drewN ?_ _ | refine blk_drew ?_ | refine blk_alloc ?_ _)); refine blk_put (cs := #[.int .i64 5, .int .i64 0, .int .i64 t159, .int .i64 0, .int .i64 0]) ?_ 4 _ rfl; (with_reducible repeat (first | refine blk_drewN ?_ _ | refine blk_drew ?_ | refine blk_alloc ?_ _)); refine blk_put (cs := #[.int .i64 5, .int .i64 0, .int .i64 t159, .int .i64 0, .int .i64 0]) ?_ 3 _ rfl; (with_reducible repeat (first | refine blk_drewN ?_ _ | refine blk_drew ?_ | refine blk_alloc ?_ _)); refine blk_put (cs := #[.int .i64 5, .int .i64 0, .int .i64 0, .int .i64 0, .int .i64 0]) ?_ 2 _ rfl; (with_reducible repeat (first | refine blk_drewN ?_ _ | refine blk_drew ?_ | refine blk_alloc ?_ _)); refine blk_put (cs := #[.int .i64 5, .int .i64 0, .int .i64 0, .int .i64 0, .int .i64 0]) ?_ 1 _ rfl; (with_reducible repeat (first | refine blk_drewN ?_ _ | refine blk_drew ?_ | refine blk_alloc ?_ _)); refine blk_put (cs := #[.int .i64 0, .int .i64 0, .int .i64 0, .int .i64 0, .int .i64 0]) ?_ 0 _ rfl; (with_reducible repeat (first | refine blk_drewN ?_ _ | refine blk_drew ?_ | refine blk_alloc ?_ _)); exact BK155.out) Try.underlying37 rfl (by kernel_rfl)) rfl ?_
          exact ⟨retT_, by repeat (first | (with_reducible first | exact HI0.out | apply IsS170.alloc | apply IsS170.drewN | apply IsS170.drew | apply IsS170.set_1 | apply IsS170.set_2 | refine IsS170.far ?_ NB0_155.out _) | exact HI0.out), by repeat (first | (with_reducible first | exact HB.out | apply below_alloc | apply pw_below_drewN | apply below_drew1 | refine below_set ?_ (IsS170.ge HI0.out) | refine below_set ?_ GE155.out) | exact HB.out), att5_0_0⟩
         ·replace c33 := Bool.eq_false_iff.mpr c33
          subst c33
          rw [if_neg (show ¬ (false = true) by decide)] at H
          have HC36 := Aside0.mk H
          clear H
          go_upto_if 48 with (fail)
          go_cut [48] (fun v48 wc => ∃ (kq : Nat) (x48_35 : Bool), v48 = .bool x48_35 ∧ Aside0 (spec_l1DrawIns.j3 kq a1 t156 t159 t166 t169 x48_35 s0_0 t170 t171 = some (r1, r2, r3, r4, r5, r6, r7)) ∧ Aside0 (kq ≤ kj29) ∧ Aside0 (wc.heap[gb155]? = some (.cells #[.int .i64 0, .int .i64 0, .int .i64 0, .int .i64 0, .int .i64 0] 37 (0, 0))) ∧ Aside0 (IsS170 w0 wc g s0_0 t170 t171) ∧ Aside0 (KeepBut w wc g none) ∧ Aside0 (Below w0.heap.size w0 wc))
          case first =>
           have H := HC36.out
           clear HC36
           by_cases c37 : t169 = 7
           ·rw [if_pos c37] at H
            have c37b0 := beq_iff_eq.mpr c37
            have c37b1 := bne_eq_false_iff_eq.mpr c37
            clear c37
            (first | rw [c37b0] | (simp only [i64_w, i32_w]; rw [c37b0]) | skip)
            have H' := Aside0.mk H
            clear H
            go_wp2
            go_meet
            case rel => exact ⟨_, ((t169 == 7)), atgR_, H', ⟨att5_0_15⟩, ⟨att5_0_6⟩, ⟨att5_0_7⟩, ⟨att5_0_0⟩, ⟨att5_0_8⟩⟩
           ·rw [if_neg c37] at H
            have c37b0 := beq_eq_false_iff_ne.mpr c37
            have c37b1 := bne_iff_ne.mpr c37
            (first | rw [c37b0] | (simp only [i64_w, i32_w]; rw [c37b0]) | skip)
            by_cases c38 : t169 = 8
            ·rw [if_pos c38] at H
             have c38b0 := beq_iff_eq.mpr c38
             have c38b1 := bne_eq_false_iff_eq.mpr c38
             clear c38
             have H' := Aside0.mk H
             clear H
             go_wp2
             go_meet
             case rel => exact ⟨_, ((t169 == 8)), atgR_, H', ⟨att5_0_15⟩, ⟨att5_0_6⟩, ⟨att5_0_7⟩, ⟨att5_0_0⟩, ⟨att5_0_8⟩⟩
            ·rw [if_neg c38] at H
             have c38b0 := beq_eq_false_iff_ne.mpr c38
             have c38b1 := bne_iff_ne.mpr c38
             have H' := Aside0.mk H
             clear H
             go_wp2
             go_meet
             case rel => exact ⟨_, ((t169 == 9)), atgR_, H', ⟨att5_0_15⟩, ⟨att5_0_6⟩, ⟨att5_0_7⟩, ⟨att5_0_0⟩, ⟨att5_0_8⟩⟩
          case rest =>
           clear HC36
           try clear c1
           try clear c2
           try clear p2
           try clear c3
           try clear p6
           try clear c9
           try clear c16
           try clear c17
           try clear c17b0
           try clear c17b1
           try clear c18
           try clear c21
           try clear c24
           try clear c24b0
           try clear c24b1
           try clear c25
           try clear c28
           try clear c31
           try clear c31b0
           try clear c31b1
           try clear c32
           try clear c32b0
           try clear c32b1
           try clear c33
           try clear c34
           try clear c37
           try clear c37b0
           try clear c37b1
           try clear c38
           try clear c38b0
           try clear c38b1
           try clear hcz22_0 hcz22_1 hcz22_2 hcz22_3 hcz22_4
           try clear hcz29_0 hcz29_1 hcz29_2 hcz29_3 hcz29_4
           try clear hcz35_0 hcz35_1 hcz35_2 hcz35_3 hcz35_4
           try clear hfz22_0 hfz22_1 hfz22_2 hfz22_3 hfz22_4
           try clear hfz29_0 hfz29_1 hfz29_2 hfz29_3 hfz29_4
           try clear hfz35_0 hfz35_1 hfz35_2 hfz35_3 hfz35_4
           try clear p2
           try clear p6
           obtain ⟨kq, x48_35, rfl, HA, HJ35, BK155, HI0, HK, HB⟩ := hcut
           cases kq with
           | zero => exact absurd HA.out (by simp [spec_l1DrawIns.j3])
           | succ kj35 =>
            have H := HA.out
            clear HA
            simp only [spec_l1DrawIns.j3] at H
            by_cases c39 : x48_35 = true
            ·subst c39
             rw [if_pos rfl] at H
             simp only [Option.some.injEq, Prod.mk.injEq] at H
             obtain ⟨rfl, rfl, rfl, rfl, rfl, rfl, rfl⟩ := H
             have hnb40 := NB155_0.out
             have hnc40 := NB0_155.out
             obtain ⟨hcz41_0, hcz41_1, hcz41_2, hcz41_3, hcz41_4, hfz41_0, hfz41_1, hfz41_2, hfz41_3, hfz41_4⟩ := blkB5_ BK155
             go_wp2
             refine bodyPost_ret (results_cell_row rfl _ _ gb155 37 #[.int .i64 6, .int .i64 t156, .int .i64 0, .int .i64 (Int.tmod (wrap64 (t156 + 1)) 4), .int .i64 t166] (0, 0) _ rfl (by (with_reducible repeat (first | refine blk_drewN ?_ _ | refine blk_drew ?_ | refine blk_alloc ?_ _)); refine blk_put (cs := #[.int .i64 6, .int .i64 t156, .int .i64 0, .int .i64 (Int.tmod (wrap64 (t156 + 1)) 4), .int .i64 0]) ?_ 4 _ rfl; (with_reducible repeat (first | refine blk_drewN ?_ _ | refine blk_drew ?_ | refine blk_alloc ?_ _)); refine blk_put (cs := #[.int .i64 6, .int .i64 t156, .int .i64 0, .int .i64 0, .int .i64 0]) ?_ 3 _ rfl; (with_reducible repeat (first | refine blk_drewN ?_ _ | refine blk_drew ?_ | refine blk_alloc ?_ _)); refine blk_put (cs := #[.int .i64 6, .int .i64 t156, .int .i64 0, .int .i64 0, .int .i64 0]) ?_ 2 _ rfl; (with_reducible repeat (first | refine blk_drewN ?_ _ | refine blk_drew ?_ | refine blk_alloc ?_ _)); refine blk_put (cs := #[.int .i64 6, .int .i64 0, .int .i64 0, .int .i64 0, .int .i64 0]) ?_ 1 _ rfl; (with_reducible repeat (first | refine blk_drewN ?_ _ | refine blk_drew ?_ | refine blk_alloc ?_ _)); refine blk_put (cs := #[.int .i64 0, .int .i64 0, .int .i64 0, .int .i64 0, .int .i64 0]) ?_ 0 _ rfl; (with_reducible repeat (first | refine blk_drewN ?_ _ | refine blk_drew ?_ | refine blk_alloc ?_ _)); exact BK155.out) Try.underlying37 rfl (by kernel_rfl)) rfl ?_
             exact ⟨retT_, by repeat (first | (with_reducible first | exact HI0.out | apply IsS170.alloc | apply IsS170.drewN | apply IsS170.drew | apply IsS170.set_1 | apply IsS170.set_2 | refine IsS170.far ?_ NB0_155.out _) | exact HI0.out), by repeat (first | (with_reducible first | exact HB.out | apply below_alloc | apply pw_below_drewN | apply below_drew1 | refine below_set ?_ (IsS170.ge HI0.out) | refine below_set ?_ GE155.out) | exact HB.out), att5_0_0⟩
            ·replace c39 := Bool.eq_false_iff.mpr c39
             subst c39
             rw [if_neg (show ¬ (false = true) by decide)] at H
             by_cases c42 : t169 = 10
             ·rw [if_pos c42] at H
              have c42b0 := beq_iff_eq.mpr c42
              have c42b1 := bne_eq_false_iff_eq.mpr c42
              clear c42
              simp only [Option.some.injEq, Prod.mk.injEq] at H
              obtain ⟨rfl, rfl, rfl, rfl, rfl, rfl, rfl⟩ := H
              have hnb43 := NB155_0.out
              have hnc43 := NB0_155.out
              obtain ⟨hcz44_0, hcz44_1, hcz44_2, hcz44_3, hcz44_4, hfz44_0, hfz44_1, hfz44_2, hfz44_3, hfz44_4⟩ := blkB5_ BK155
              go_wp2
              refine bodyPost_ret (results_cell_row rfl _ _ gb155 37 #[.int .i64 7, .int .i64 t156, .int .i64 t159, .int .i64 0, .int .i64 t166] (0, 0) _ rfl (by (with_reducible repeat (first | refine blk_drewN ?_ _ | refine blk_drew ?_ | refine blk_alloc ?_ _)); refine blk_put (cs := #[.int .i64 7, .int .i64 t156, .int .i64 t159, .int .i64 0, .int .i64 0]) ?_ 4 _ rfl; (with_reducible repeat (first | refine blk_drewN ?_ _ | refine blk_drew ?_ | refine blk_alloc ?_ _)); refine blk_put (cs := #[.int .i64 7, .int .i64 t156, .int .i64 t159, .int .i64 0, .int .i64 0]) ?_ 3 _ rfl; (with_reducible repeat (first | refine blk_drewN ?_ _ | refine blk_drew ?_ | refine blk_alloc ?_ _)); refine blk_put (cs := #[.int .i64 7, .int .i64 t156, .int .i64 0, .int .i64 0, .int .i64 0]) ?_ 2 _ rfl; (with_reducible repeat (first | refine blk_drewN ?_ _ | refine blk_drew ?_ | refine blk_alloc ?_ _)); refine blk_put (cs := #[.int .i64 7, .int .i64 0, .int .i64 0, .int .i64 0, .int .i64 0]) ?_ 1 _ rfl; (with_reducible repeat (first | refine blk_drewN ?_ _ | refine blk_drew ?_ | refine blk_alloc ?_ _)); refine blk_put (cs := #[.int .i64 0, .int .i64 0, .int .i64 0, .int .i64 0, .int .i64 0]) ?_ 0 _ rfl; (with_reducible repeat (first | refine blk_drewN ?_ _ | refine blk_drew ?_ | refine blk_alloc ?_ _)); exact BK155.out) Try.underlying37 rfl (by kernel_rfl)) rfl ?_
              exact ⟨retT_, by repeat (first | (with_reducible first | exact HI0.out | apply IsS170.alloc | apply IsS170.drewN | apply IsS170.drew | apply IsS170.set_1 | apply IsS170.set_2 | refine IsS170.far ?_ NB0_155.out _) | exact HI0.out), by repeat (first | (with_reducible first | exact HB.out | apply below_alloc | apply pw_below_drewN | apply below_drew1 | refine below_set ?_ (IsS170.ge HI0.out) | refine below_set ?_ GE155.out) | exact HB.out), att5_0_0⟩
             ·rw [if_neg c42] at H
              have c42b0 := beq_eq_false_iff_ne.mpr c42
              have c42b1 := bne_iff_ne.mpr c42
              by_cases c45 : t169 = 11
              ·rw [if_pos c45] at H
               have c45b0 := beq_iff_eq.mpr c45
               have c45b1 := bne_eq_false_iff_eq.mpr c45
               clear c45
               simp only [Option.some.injEq, Prod.mk.injEq] at H
               obtain ⟨rfl, rfl, rfl, rfl, rfl, rfl, rfl⟩ := H
               have hnb46 := NB155_0.out
               have hnc46 := NB0_155.out
               obtain ⟨hcz47_0, hcz47_1, hcz47_2, hcz47_3, hcz47_4, hfz47_0, hfz47_1, hfz47_2, hfz47_3, hfz47_4⟩ := blkB5_ BK155
               go_wp2
               refine bodyPost_ret (results_cell_row rfl _ _ gb155 37 #[.int .i64 8, .int .i64 t156, .int .i64 0, .int .i64 (Int.tmod (wrap64 (t156 + 1)) 4), .int .i64 t166] (0, 0) _ rfl (by (with_reducible repeat (first | refine blk_drewN ?_ _ | refine blk_drew ?_ | refine blk_alloc ?_ _)); refine blk_put (cs := #[.int .i64 8, .int .i64 t156, .int .i64 0, .int .i64 (Int.tmod (wrap64 (t156 + 1)) 4), .int .i64 0]) ?_ 4 _ rfl; (with_reducible repeat (first | refine blk_drewN ?_ _ | refine blk_drew ?_ | refine blk_alloc ?_ _)); refine blk_put (cs := #[.int .i64 8, .int .i64 t156, .int .i64 0, .int .i64 0, .int .i64 0]) ?_ 3 _ rfl; (with_reducible repeat (first | refine blk_drewN ?_ _ | refine blk_drew ?_ | refine blk_alloc ?_ _)); refine blk_put (cs := #[.int .i64 8, .int .i64 t156, .int .i64 0, .int .i64 0, .int .i64 0]) ?_ 2 _ rfl; (with_reducible repeat (first | refine blk_drewN ?_ _ | refine blk_drew ?_ | refine blk_alloc ?_ _)); refine blk_put (cs := #[.int .i64 8, .int .i64 0, .int .i64 0, .int .i64 0, .int .i64 0]) ?_ 1 _ rfl; (with_reducible repeat (first | refine blk_drewN ?_ _ | refine blk_drew ?_ | refine blk_alloc ?_ _)); refine blk_put (cs := #[.int .i64 0, .int .i64 0, .int .i64 0, .int .i64 0, .int .i64 0]) ?_ 0 _ rfl; (with_reducible repeat (first | refine blk_drewN ?_ _ | refine blk_drew ?_ | refine blk_alloc ?_ _)); exact BK155.out) Try.underlying37 rfl (by kernel_rfl)) rfl ?_
               exact ⟨retT_, by repeat (first | (with_reducible first | exact HI0.out | apply IsS170.alloc | apply IsS170.drewN | apply IsS170.drew | apply IsS170.set_1 | apply IsS170.set_2 | refine IsS170.far ?_ NB0_155.out _) | exact HI0.out), by repeat (first | (with_reducible first | exact HB.out | apply below_alloc | apply pw_below_drewN | apply below_drew1 | refine below_set ?_ (IsS170.ge HI0.out) | refine below_set ?_ GE155.out) | exact HB.out), att5_0_0⟩
              ·rw [if_neg c45] at H
               have c45b0 := beq_eq_false_iff_ne.mpr c45
               have c45b1 := bne_iff_ne.mpr c45
               by_cases c48 : t169 = 12
               ·rw [if_pos c48] at H
                have c48b0 := beq_iff_eq.mpr c48
                have c48b1 := bne_eq_false_iff_eq.mpr c48
                clear c48
                replace H := Option.bind_eq_some_iff.mp H
                obtain ⟨⟨t178, t179, t180⟩, A490, H⟩ := H
                (try dsimp only at H)
                have A49 := Aside0.mk A490
                clear A490
                by_cases c50 : t178 = true
                ·subst c50
                 rw [if_pos rfl] at H
                 simp only [Option.some.injEq, Prod.mk.injEq] at H
                 obtain ⟨rfl, rfl, rfl, rfl, rfl, rfl, rfl⟩ := H
                 go_wp2_with (first | ((with_reducible refine gate_callee (f := 95) rfl ?_); refine goesL_ (some 75) rfl rfl Try.func95 (by kernel_rfl) rfl #[.pointer (some ⟨g, 0, none⟩), .int .i64 3] rfl atgM_ ?_; (with_reducible refine (spec_l1Once.calls g s0_0 t170 t171 3 true t179 t180 w0 _ ?side1 ?side2 A49.out).mono ?_); (case side1 => repeat (first | (with_reducible first | exact HI0.out | apply IsS170.alloc | apply IsS170.drewN | apply IsS170.drew | apply IsS170.set_1 | apply IsS170.set_2 | refine IsS170.far ?_ NB0_155.out _) | exact HI0.out)); (case side2 => repeat (first | (with_reducible first | exact HB.out | apply below_alloc | apply pw_below_drewN | apply below_drew1 | refine below_set ?_ (IsS170.ge HI0.out) | refine below_set ?_ GE155.out) | exact HB.out)); rintro e w51 ⟨rfl, hi, hb, hk⟩; refine ⟨_, rfl, ?_⟩; refine swap4_ (KeepBut.blk hk (g' := gb155) (o := .cells #[.int .i64 0, .int .i64 0, .int .i64 0, .int .i64 0, .int .i64 0] 37 (0, 0)) att5_0_6 NB155_0.out (by simp)) (KeepBut.trans att5_0_0 hk (.inl rfl)) (hb) (hi) ?_; clear BK155 HK HB HI0; intro BK155 HK HB HI0; (try clear hb); (try clear hb2); (try clear hk); (try clear hi); have hnb52 := NB155_0.out; have hnc52 := NB0_155.out; obtain ⟨hcz53_0, hcz53_1, hcz53_2, hcz53_3, hcz53_4, hfz53_0, hfz53_1, hfz53_2, hfz53_3, hfz53_4⟩ := blkB5_ BK155))
                 refine bodyPost_ret (results_cell_row rfl _ _ gb155 37 #[.int .i64 9, .int .i64 0, .int .i64 0, .int .i64 0, .int .i64 t166] (0, 0) _ rfl (by (with_reducible repeat (first | refine blk_drewN ?_ _ | refine blk_drew ?_ | refine blk_alloc ?_ _)); refine blk_put (cs := #[.int .i64 9, .int .i64 0, .int .i64 0, .int .i64 0, .int .i64 0]) ?_ 4 _ rfl; (with_reducible repeat (first | refine blk_drewN ?_ _ | refine blk_drew ?_ | refine blk_alloc ?_ _)); refine blk_put (cs := #[.int .i64 9, .int .i64 0, .int .i64 0, .int .i64 0, .int .i64 0]) ?_ 3 _ rfl; (with_reducible repeat (first | refine blk_drewN ?_ _ | refine blk_drew ?_ | refine blk_alloc ?_ _)); refine blk_put (cs := #[.int .i64 9, .int .i64 0, .int .i64 0, .int .i64 0, .int .i64 0]) ?_ 2 _ rfl; (with_reducible repeat (first | refine blk_drewN ?_ _ | refine blk_drew ?_ | refine blk_alloc ?_ _)); refine blk_put (cs := #[.int .i64 9, .int .i64 0, .int .i64 0, .int .i64 0, .int .i64 0]) ?_ 1 _ rfl; (with_reducible repeat (first | refine blk_drewN ?_ _ | refine blk_drew ?_ | refine blk_alloc ?_ _)); refine blk_put (cs := #[.int .i64 0, .int .i64 0, .int .i64 0, .int .i64 0, .int .i64 0]) ?_ 0 _ rfl; (with_reducible repeat (first | refine blk_drewN ?_ _ | refine blk_drew ?_ | refine blk_alloc ?_ _)); exact BK155.out) Try.underlying37 rfl (by kernel_rfl)) rfl ?_
                 exact ⟨retT_, by repeat (first | (with_reducible first | exact HI0.out | apply IsS170.alloc | apply IsS170.drewN | apply IsS170.drew | apply IsS170.set_1 | apply IsS170.set_2 | refine IsS170.far ?_ NB0_155.out _) | exact HI0.out), by repeat (first | (with_reducible first | exact HB.out | apply below_alloc | apply pw_below_drewN | apply below_drew1 | refine below_set ?_ (IsS170.ge HI0.out) | refine below_set ?_ GE155.out) | exact HB.out), att5_0_0⟩
                ·replace c50 := Bool.eq_false_iff.mpr c50
                 subst c50
                 rw [if_neg (show ¬ (false = true) by decide)] at H
                 replace H := Option.bind_eq_some_iff.mp H
                 obtain ⟨⟨t181, t182, t183⟩, A540, H⟩ := H
                 (try dsimp only at H)
                 have A54 := Aside0.mk A540
                 clear A540
                 simp only [Option.some.injEq, Prod.mk.injEq] at H
                 obtain ⟨rfl, rfl, rfl, rfl, rfl, rfl, rfl⟩ := H
                 go_wp2_with (first | ((with_reducible refine gate_callee (f := 95) rfl ?_); refine goesL_ (some 75) rfl rfl Try.func95 (by kernel_rfl) rfl #[.pointer (some ⟨g, 0, none⟩), .int .i64 3] rfl atgM_ ?_; (with_reducible refine (spec_l1Once.calls g s0_0 t170 t171 3 false t179 t180 w0 _ ?side1 ?side2 A49.out).mono ?_); (case side1 => repeat (first | (with_reducible first | exact HI0.out | apply IsS170.alloc | apply IsS170.drewN | apply IsS170.drew | apply IsS170.set_1 | apply IsS170.set_2 | refine IsS170.far ?_ NB0_155.out _) | exact HI0.out)); (case side2 => repeat (first | (with_reducible first | exact HB.out | apply below_alloc | apply pw_below_drewN | apply below_drew1 | refine below_set ?_ (IsS170.ge HI0.out) | refine below_set ?_ GE155.out) | exact HB.out)); rintro e w55 ⟨rfl, hi, hb, hk⟩; refine ⟨_, rfl, ?_⟩; refine swap4_ (KeepBut.blk hk (g' := gb155) (o := .cells #[.int .i64 0, .int .i64 0, .int .i64 0, .int .i64 0, .int .i64 0] 37 (0, 0)) att5_0_6 NB155_0.out (by simp)) (KeepBut.trans att5_0_0 hk (.inl rfl)) (hb) (hi) ?_; clear BK155 HK HB HI0; intro BK155 HK HB HI0; (try clear hb); (try clear hb2); (try clear hk); (try clear hi)) | ((with_reducible refine gate_callee (f := 97) rfl ?_); refine goesL_ (some 80) rfl rfl Try.func97 (by kernel_rfl) rfl #[.pointer (some ⟨g, 0, none⟩), .int .i64 a1] rfl atgM_ ?_; (with_reducible refine (spec_l1Below.calls g s0_0 t179 t180 a1 t181 t182 t183 w0 _ ?side1 ?side2 A54.out).mono ?_); (case side1 => repeat (first | (with_reducible first | exact HI0.out | apply IsS170.alloc | apply IsS170.drewN | apply IsS170.drew | apply IsS170.set_1 | apply IsS170.set_2 | refine IsS170.far ?_ NB0_155.out _) | exact HI0.out)); (case side2 => repeat (first | (with_reducible first | exact HB.out | apply below_alloc | apply pw_below_drewN | apply below_drew1 | refine below_set ?_ (IsS170.ge HI0.out) | refine below_set ?_ GE155.out) | exact HB.out)); rintro e w56 ⟨rfl, hi, hb, hk⟩; refine ⟨_, rfl, ?_⟩; refine swap4_ (KeepBut.blk hk (g' := gb155) (o := .cells #[.int .i64 0, .int .i64 0, .int .i64 0, .int .i64 0, .int .i64 0] 37 (0, 0)) att5_0_6 NB155_0.out (by simp)) (KeepBut.trans att5_0_0 hk (.inl rfl)) (hb) (hi) ?_; clear BK155 HK HB HI0; intro BK155 HK HB HI0; (try clear hb); (try clear hb2); (try clear hk); (try clear hi); have hnb57 := NB155_0.out; have hnc57 := NB0_155.out; obtain ⟨hcz58_0, hcz58_1, hcz58_2, hcz58_3, hcz58_4, hfz58_0, hfz58_1, hfz58_2, hfz58_3, hfz58_4⟩ := blkB5_ BK155))
                 refine bodyPost_ret (results_cell_row rfl _ _ gb155 37 #[.int .i64 11, .int .i64 0, .int .i64 0, .int .i64 0, .int .i64 t181] (0, 0) _ rfl (by (with_reducible repeat (first | refine blk_drewN ?_ _ | refine blk_drew ?_ | refine blk_alloc ?_ _)); refine blk_put (cs := #[.int .i64 11, .int .i64 0, .int .i64 0, .int .i64 0, .int .i64 0]) ?_ 4 _ rfl; (with_reducible repeat (first | refine blk_drewN ?_ _ | refine blk_drew ?_ | refine blk_alloc ?_ _)); refine blk_put (cs := #[.int .i64 11, .int .i64 0, .int .i64 0, .int .i64 0, .int .i64 0]) ?_ 3 _ rfl; (with_reducible repeat (first | refine blk_drewN ?_ _ | refine blk_drew ?_ | refine blk_alloc ?_ _)); refine blk_put (cs := #[.int .i64 11, .int .i64 0, .int .i64 0, .int .i64 0, .int .i64 0]) ?_ 2 _ rfl; (with_reducible repeat (first | refine blk_drewN ?_ _ | refine blk_drew ?_ | refine blk_alloc ?_ _)); refine blk_put (cs := #[.int .i64 11, .int .i64 0, .int .i64 0, .int .i64 0, .int .i64 0]) ?_ 1 _ rfl; (with_reducible repeat (first | refine blk_drewN ?_ _ | refine blk_drew ?_ | refine blk_alloc ?_ _)); refine blk_put (cs := #[.int .i64 0, .int .i64 0, .int .i64 0, .int .i64 0, .int .i64 0]) ?_ 0 _ rfl; (with_reducible repeat (first | refine blk_drewN ?_ _ | refine blk_drew ?_ | refine blk_alloc ?_ _)); exact BK155.out) Try.underlying37 rfl (by kernel_rfl)) rfl ?_
                 exact ⟨retT_, by repeat (first | (with_reducible first | exact HI0.out | apply IsS170.alloc | apply IsS170.drewN | apply IsS170.drew | apply IsS170.set_1 | apply IsS170.set_2 | refine IsS170.far ?_ NB0_155.out _) | exact HI0.out), by repeat (first | (with_reducible first | exact HB.out | apply below_alloc | apply pw_below_drewN | apply below_drew1 | refine below_set ?_ (IsS170.ge HI0.out) | refine below_set ?_ GE155.out) | exact HB.out), att5_0_0⟩
               ·rw [if_neg c48] at H
                have c48b0 := beq_eq_false_iff_ne.mpr c48
                have c48b1 := bne_iff_ne.mpr c48
                by_cases c59 : t169 = 13
                ·rw [if_pos c59] at H
                 have c59b0 := beq_iff_eq.mpr c59
                 have c59b1 := bne_eq_false_iff_eq.mpr c59
                 clear c59
                 replace H := Option.bind_eq_some_iff.mp H
                 obtain ⟨⟨t184, t185, t186⟩, A600, H⟩ := H
                 (try dsimp only at H)
                 have A60 := Aside0.mk A600
                 clear A600
                 simp only [Option.some.injEq, Prod.mk.injEq] at H
                 obtain ⟨rfl, rfl, rfl, rfl, rfl, rfl, rfl⟩ := H
                 go_wp2_with (first | ((with_reducible refine gate_callee (f := 97) rfl ?_); refine goesL_ (some 87) rfl rfl Try.func97 (by kernel_rfl) rfl #[.pointer (some ⟨g, 0, none⟩), .int .i64 a1] rfl atgM_ ?_; (with_reducible refine (spec_l1Below.calls g s0_0 t170 t171 a1 t184 t185 t186 w0 _ ?side1 ?side2 A60.out).mono ?_); (case side1 => repeat (first | (with_reducible first | exact HI0.out | apply IsS170.alloc | apply IsS170.drewN | apply IsS170.drew | apply IsS170.set_1 | apply IsS170.set_2 | refine IsS170.far ?_ NB0_155.out _) | exact HI0.out)); (case side2 => repeat (first | (with_reducible first | exact HB.out | apply below_alloc | apply pw_below_drewN | apply below_drew1 | refine below_set ?_ (IsS170.ge HI0.out) | refine below_set ?_ GE155.out) | exact HB.out)); rintro e w61 ⟨rfl, hi, hb, hk⟩; refine ⟨_, rfl, ?_⟩; refine swap4_ (KeepBut.blk hk (g' := gb155) (o := .cells #[.int .i64 0, .int .i64 0, .int .i64 0, .int .i64 0, .int .i64 0] 37 (0, 0)) att5_0_6 NB155_0.out (by simp)) (KeepBut.trans att5_0_0 hk (.inl rfl)) (hb) (hi) ?_; clear BK155 HK HB HI0; intro BK155 HK HB HI0; (try clear hb); (try clear hb2); (try clear hk); (try clear hi); have hnb62 := NB155_0.out; have hnc62 := NB0_155.out; obtain ⟨hcz63_0, hcz63_1, hcz63_2, hcz63_3, hcz63_4, hfz63_0, hfz63_1, hfz63_2, hfz63_3, hfz63_4⟩ := blkB5_ BK155))
                 refine bodyPost_ret (results_cell_row rfl _ _ gb155 37 #[.int .i64 12, .int .i64 0, .int .i64 t159, .int .i64 0, .int .i64 t184] (0, 0) _ rfl (by (with_reducible repeat (first | refine blk_drewN ?_ _ | refine blk_drew ?_ | refine blk_alloc ?_ _)); refine blk_put (cs := #[.int .i64 12, .int .i64 0, .int .i64 t159, .int .i64 0, .int .i64 0]) ?_ 4 _ rfl; (with_reducible repeat (first | refine blk_drewN ?_ _ | refine blk_drew ?_ | refine blk_alloc ?_ _)); refine blk_put (cs := #[.int .i64 12, .int .i64 0, .int .i64 t159, .int .i64 0, .int .i64 0]) ?_ 3 _ rfl; (with_reducible repeat (first | refine blk_drewN ?_ _ | refine blk_drew ?_ | refine blk_alloc ?_ _)); refine blk_put (cs := #[.int .i64 12, .int .i64 0, .int .i64 0, .int .i64 0, .int .i64 0]) ?_ 2 _ rfl; (with_reducible repeat (first | refine blk_drewN ?_ _ | refine blk_drew ?_ | refine blk_alloc ?_ _)); refine blk_put (cs := #[.int .i64 12, .int .i64 0, .int .i64 0, .int .i64 0, .int .i64 0]) ?_ 1 _ rfl; (with_reducible repeat (first | refine blk_drewN ?_ _ | refine blk_drew ?_ | refine blk_alloc ?_ _)); refine blk_put (cs := #[.int .i64 0, .int .i64 0, .int .i64 0, .int .i64 0, .int .i64 0]) ?_ 0 _ rfl; (with_reducible repeat (first | refine blk_drewN ?_ _ | refine blk_drew ?_ | refine blk_alloc ?_ _)); exact BK155.out) Try.underlying37 rfl (by kernel_rfl)) rfl ?_
                 exact ⟨retT_, by repeat (first | (with_reducible first | exact HI0.out | apply IsS170.alloc | apply IsS170.drewN | apply IsS170.drew | apply IsS170.set_1 | apply IsS170.set_2 | refine IsS170.far ?_ NB0_155.out _) | exact HI0.out), by repeat (first | (with_reducible first | exact HB.out | apply below_alloc | apply pw_below_drewN | apply below_drew1 | refine below_set ?_ (IsS170.ge HI0.out) | refine below_set ?_ GE155.out) | exact HB.out), att5_0_0⟩
                ·rw [if_neg c59] at H
                 have c59b0 := beq_eq_false_iff_ne.mpr c59
                 have c59b1 := bne_iff_ne.mpr c59
                 simp only [Option.some.injEq, Prod.mk.injEq] at H
                 obtain ⟨rfl, rfl, rfl, rfl, rfl, rfl, rfl⟩ := H
                 have hnb64 := NB155_0.out
                 have hnc64 := NB0_155.out
                 obtain ⟨hcz65_0, hcz65_1, hcz65_2, hcz65_3, hcz65_4, hfz65_0, hfz65_1, hfz65_2, hfz65_3, hfz65_4⟩ := blkB5_ BK155
                 go_wp2
                 refine bodyPost_ret (results_cell_row rfl _ _ gb155 37 #[.int .i64 10, .int .i64 0, .int .i64 t159, .int .i64 0, .int .i64 0] (0, 0) _ rfl (by (with_reducible repeat (first | refine blk_drewN ?_ _ | refine blk_drew ?_ | refine blk_alloc ?_ _)); refine blk_put (cs := #[.int .i64 10, .int .i64 0, .int .i64 t159, .int .i64 0, .int .i64 0]) ?_ 4 _ rfl; (with_reducible repeat (first | refine blk_drewN ?_ _ | refine blk_drew ?_ | refine blk_alloc ?_ _)); refine blk_put (cs := #[.int .i64 10, .int .i64 0, .int .i64 t159, .int .i64 0, .int .i64 0]) ?_ 3 _ rfl; (with_reducible repeat (first | refine blk_drewN ?_ _ | refine blk_drew ?_ | refine blk_alloc ?_ _)); refine blk_put (cs := #[.int .i64 10, .int .i64 0, .int .i64 0, .int .i64 0, .int .i64 0]) ?_ 2 _ rfl; (with_reducible repeat (first | refine blk_drewN ?_ _ | refine blk_drew ?_ | refine blk_alloc ?_ _)); refine blk_put (cs := #[.int .i64 10, .int .i64 0, .int .i64 0, .int .i64 0, .int .i64 0]) ?_ 1 _ rfl; (with_reducible repeat (first | refine blk_drewN ?_ _ | refine blk_drew ?_ | refine blk_alloc ?_ _)); refine blk_put (cs := #[.int .i64 0, .int .i64 0, .int .i64 0, .int .i64 0, .int .i64 0]) ?_ 0 _ rfl; (with_reducible repeat (first | refine blk_drewN ?_ _ | refine blk_drew ?_ | refine blk_alloc ?_ _)); exact BK155.out) Try.underlying37 rfl (by kernel_rfl)) rfl ?_
                 exact ⟨retT_, by repeat (first | (with_reducible first | exact HI0.out | apply IsS170.alloc | apply IsS170.drewN | apply IsS170.drew | apply IsS170.set_1 | apply IsS170.set_2 | refine IsS170.far ?_ NB0_155.out _) | exact HI0.out), by repeat (first | (with_reducible first | exact HB.out | apply below_alloc | apply pw_below_drewN | apply below_drew1 | refine below_set ?_ (IsS170.ge HI0.out) | refine below_set ?_ GE155.out) | exact HB.out), att5_0_0⟩

/-! ### spec_l1Spoil: function 96 -/
def spec_l1Spoil.f (s0_0 : List Int) (s0_1 : Int) (s0_2 : Int) (a1_0 : Int) (a1_1 : Int) (a1_2 : Int) (a1_3 : Int) (a1_4 : Int) : Option (Int × Int × Int × Int × Int × Int × Int) := (spec_l1Below.f s0_0 s0_1 s0_2 8).bind fun bt189 => (if bt189.1 = 0 then ((spec_l1Below.f s0_0 bt189.2.1 bt189.2.2 16).bind fun bt192 => (some (wrap64 (bt192.1 - 1), a1_1, a1_2, a1_3, a1_4, bt192.2.1, bt192.2.2))) else (if bt189.1 = 1 then ((spec_l1Below.f s0_0 bt189.2.1 bt189.2.2 6).bind fun bt195 => (some (a1_0, wrap64 (bt195.1 - 1), a1_2, a1_3, a1_4, bt195.2.1, bt195.2.2))) else (if bt189.1 = 2 then ((spec_l1Below.f s0_0 bt189.2.1 bt189.2.2 6).bind fun bt198 => (some (a1_0, a1_1, wrap64 (bt198.1 - 1), a1_3, a1_4, bt198.2.1, bt198.2.2))) else (if bt189.1 = 3 then ((spec_l1Below.f s0_0 bt189.2.1 bt189.2.2 6).bind fun bt201 => (some (a1_0, a1_1, a1_2, wrap64 (bt201.1 - 1), a1_4, bt201.2.1, bt201.2.2))) else (if bt189.1 = 4 then ((spec_l1PickInt.f s0_0 bt189.2.1 bt189.2.2 (([(-1), 0, 3, 23, 24, 1000000000, 1000000001] : List Int))).bind fun bt207 => (some (a1_0, a1_1, a1_2, a1_3, bt207.1, bt207.2.1, bt207.2.2))) else (some (a1_0, a1_1, a1_2, a1_3, a1_4, bt189.2.1, bt189.2.2)))))))
set_option maxHeartbeats 80000000 in
set_option maxRecDepth 100000 in
theorem spec_l1Spoil.calls (g : Nat) (s0_0 : List Int) (s0_1 : Int) (s0_2 : Int) (a1_0 : Int) (a1_1 : Int) (a1_2 : Int) (a1_3 : Int) (a1_4 : Int) (r1 : Int) (r2 : Int) (r3 : Int) (r4 : Int) (r5 : Int) (r6 : Int) (r7 : Int) (w0 w : World) (hI : IsS170 w0 w g s0_0 s0_1 s0_2) (hB : Below w0.heap.size w0 w) (h : spec_l1Spoil.f s0_0 s0_1 s0_2 a1_0 a1_1 a1_2 a1_3 a1_4 = some (r1, r2, r3, r4, r5, r6, r7)) :
  Calls Try.prog 96 #[.pointer (some ⟨g, 0, none⟩), .agg #[.int .i64 a1_0, .int .i64 a1_1, .int .i64 a1_2, .int .i64 a1_3, .int .i64 a1_4]] w fun e w' => e = .returned (.agg #[.int .i64 r1, .int .i64 r2, .int .i64 r3, .int .i64 r4, .int .i64 r5]) ∧ IsS170 w0 w' g s0_0 r6 r7 ∧ Below w0.heap.size w0 w' ∧ KeepBut w w' g none := by
 have hu37 := Try.underlying37
 have HI0 := Aside0.mk hI
 have HK := Aside0.mk (KeepBut.refl w g none)
 have HL := Aside0.mk hB.size
 clear hI
 have HW0 := Aside0.mk hB.size
 have HB := Aside0.mk hB
 clear hB
 have H : ((spec_l1Below.f s0_0 s0_1 s0_2 8).bind fun bt189 => (if bt189.1 = 0 then ((spec_l1Below.f s0_0 bt189.2.1 bt189.2.2 16).bind fun bt192 => (some (wrap64 (bt192.1 - 1), a1_1, a1_2, a1_3, a1_4, bt192.2.1, bt192.2.2))) else (if bt189.1 = 1 then ((spec_l1Below.f s0_0 bt189.2.1 bt189.2.2 6).bind fun bt195 => (some (a1_0, wrap64 (bt195.1 - 1), a1_2, a1_3, a1_4, bt195.2.1, bt195.2.2))) else (if bt189.1 = 2 then ((spec_l1Below.f s0_0 bt189.2.1 bt189.2.2 6).bind fun bt198 => (some (a1_0, a1_1, wrap64 (bt198.1 - 1), a1_3, a1_4, bt198.2.1, bt198.2.2))) else (if bt189.1 = 3 then ((spec_l1Below.f s0_0 bt189.2.1 bt189.2.2 6).bind fun bt201 => (some (a1_0, a1_1, a1_2, wrap64 (bt201.1 - 1), a1_4, bt201.2.1, bt201.2.2))) else (if bt189.1 = 4 then ((spec_l1PickInt.f s0_0 bt189.2.1 bt189.2.2 (([(-1), 0, 3, 23, 24, 1000000000, 1000000001] : List Int))).bind fun bt207 => (some (a1_0, a1_1, a1_2, a1_3, bt207.1, bt207.2.1, bt207.2.2))) else (some (a1_0, a1_1, a1_2, a1_3, a1_4, bt189.2.1, bt189.2.2)))))))) = some (r1, r2, r3, r4, r5, r6, r7) := h
 clear h
 replace H := Option.bind_eq_some_iff.mp H
 obtain ⟨⟨t189, t190, t191⟩, A30, H⟩ := H
 (try dsimp only at H)
 have A3 := Aside0.mk A30
 clear A30
 by_cases c4 : t189 = 0
 ·rw [if_pos c4] at H
  have c4b0 := beq_iff_eq.mpr c4
  have c4b1 := bne_eq_false_iff_eq.mpr c4
  clear c4
  replace H := Option.bind_eq_some_iff.mp H
  obtain ⟨⟨t192, t193, t194⟩, A50, H⟩ := H
  (try dsimp only at H)
  have A5 := Aside0.mk A50
  clear A50
  simp only [Option.some.injEq, Prod.mk.injEq] at H
  obtain ⟨rfl, rfl, rfl, rfl, rfl, rfl, rfl⟩ := H
  go_enter Try.func96, Try.ntmps96
  go_wp2_with (first | ((with_reducible refine gate_dst (N := 3) rfl ?_); refine box_event ?hg (N := 3) ?hd (cs := #[.int .i64 a1_0, .int .i64 a1_1, .int .i64 a1_2, .int .i64 a1_3, .int .i64 a1_4]) (t := 37) ?hr ?_; (case hd => rfl); (case hg => rfl); (case hr => first | (go_simp; done) | (go_simp; rfl)); intro gb187 hg w6 hbox hb; refine swap8_ (IsS170.below att5_0_11 hb) (KeepBut.trans att5_0_5 (KeepBut.of_below hb g none) (.inl rfl)) (below_step att5_0_12 hb) (hbox) ((by rw [hg]; exact (keep_size (w := w) (g := g) (row := none) att5_0_5) : w.heap.size ≤ gb187)) ((Nat.le_trans HW0.out (by rw [hg]; exact (keep_size (w := w) (g := g) (row := none) att5_0_5) : w.heap.size ≤ gb187) : w0.heap.size ≤ gb187)) ((by rw [hg]; exact Nat.ne_of_lt (IsS170.lt (show IsS170 w0 _ g s0_0 s0_1 s0_2 from by repeat (first | (with_reducible first | exact HI0.out | apply IsS170.alloc | apply IsS170.drewN | apply IsS170.drew | apply IsS170.set_1 | apply IsS170.set_2) | exact HI0.out))) : g ≠ gb187)) ((by rw [hg]; exact Nat.ne_of_gt (IsS170.lt (show IsS170 w0 _ g s0_0 s0_1 s0_2 from by repeat (first | (with_reducible first | exact HI0.out | apply IsS170.alloc | apply IsS170.drewN | apply IsS170.drew | apply IsS170.set_1 | apply IsS170.set_2) | exact HI0.out))) : gb187 ≠ g)) ?_; clear HI0 HK HB; intro HI0 HK HB BK187 GW187 GE187 NB0_187 NB187_0; clear hb hbox hg) | ((with_reducible refine gate_dst (N := 4) rfl ?_); refine box_event ?hg (N := 4) ?hd (cs := #[.int .i64 0, .int .i64 0, .int .i64 0, .int .i64 0, .int .i64 0]) (t := 37) ?hr ?_; (case hd => rfl); (case hg => rfl); (case hr => first | (go_simp; done) | (go_simp; rfl)); intro gb188 hg w7 hbox hb; refine swap11_ (IsS170.below att5_0_10 hb) (blk_below (g := gb187) (o := .cells #[.int .i64 a1_0, .int .i64 a1_1, .int .i64 a1_2, .int .i64 a1_3, .int .i64 a1_4] 37 (0, 0)) att5_0_2 hb) (KeepBut.trans att5_0_3 (KeepBut.of_below hb g none) (.inl rfl)) (below_step att5_0_13 hb) (hbox) ((by rw [hg]; exact (keep_size (w := w) (g := g) (row := none) att5_0_3) : w.heap.size ≤ gb188)) ((Nat.le_trans HW0.out (by rw [hg]; exact (keep_size (w := w) (g := g) (row := none) att5_0_3) : w.heap.size ≤ gb188) : w0.heap.size ≤ gb188)) ((by rw [hg]; exact Nat.ne_of_lt (blk_lt (g := gb187) (o := .cells #[.int .i64 a1_0, .int .i64 a1_1, .int .i64 a1_2, .int .i64 a1_3, .int .i64 a1_4] 37 (0, 0)) att5_0_2) : gb187 ≠ gb188)) ((by rw [hg]; exact Nat.ne_of_gt (blk_lt (g := gb187) (o := .cells #[.int .i64 a1_0, .int .i64 a1_1, .int .i64 a1_2, .int .i64 a1_3, .int .i64 a1_4] 37 (0, 0)) att5_0_2) : gb188 ≠ gb187)) ((by rw [hg]; exact Nat.ne_of_lt (IsS170.lt (show IsS170 w0 _ g s0_0 s0_1 s0_2 from by repeat (first | (with_reducible first | exact HI0.out | apply IsS170.alloc | apply IsS170.drewN | apply IsS170.drew | apply IsS170.set_1 | apply IsS170.set_2 | refine IsS170.far ?_ NB0_187.out _) | exact HI0.out))) : g ≠ gb188)) ((by rw [hg]; exact Nat.ne_of_gt (IsS170.lt (show IsS170 w0 _ g s0_0 s0_1 s0_2 from by repeat (first | (with_reducible first | exact HI0.out | apply IsS170.alloc | apply IsS170.drewN | apply IsS170.drew | apply IsS170.set_1 | apply IsS170.set_2 | refine IsS170.far ?_ NB0_187.out _) | exact HI0.out))) : gb188 ≠ g)) ?_; clear HI0 BK187 HK HB; intro HI0 BK187 HK HB BK188 GW188 GE188 NB187_188 NB188_187 NB0_188 NB188_0; clear hb hbox hg) | ((with_reducible refine gate_callee (f := 97) rfl ?_); refine goesL_ (some 6) rfl rfl Try.func97 (by kernel_rfl) rfl #[.pointer (some ⟨g, 0, none⟩), .int .i64 8] rfl atgM_ ?_; (with_reducible refine (spec_l1Below.calls g s0_0 s0_1 s0_2 8 t189 t190 t191 w0 _ ?side1 ?side2 A3.out).mono ?_); (case side1 => repeat (first | (with_reducible first | exact HI0.out | apply IsS170.alloc | apply IsS170.drewN | apply IsS170.drew | apply IsS170.set_1 | apply IsS170.set_2 | refine IsS170.far ?_ NB0_187.out _ | refine IsS170.far ?_ NB0_188.out _) | exact HI0.out)); (case side2 => repeat (first | (with_reducible first | exact HB.out | apply below_alloc | apply pw_below_drewN | apply below_drew1 | refine below_set ?_ (IsS170.ge HI0.out) | refine below_set ?_ GE187.out | refine below_set ?_ GE188.out) | exact HB.out)); rintro e w8 ⟨rfl, hi, hb, hk⟩; refine ⟨_, rfl, ?_⟩; refine swap5_ (KeepBut.blk hk (g' := gb187) (o := .cells #[.int .i64 a1_0, .int .i64 a1_1, .int .i64 a1_2, .int .i64 a1_3, .int .i64 a1_4] 37 (0, 0)) att5_0_2 NB187_0.out (by simp)) (KeepBut.blk hk (g' := gb188) (o := .cells #[.int .i64 0, .int .i64 0, .int .i64 0, .int .i64 0, .int .i64 0] 37 (0, 0)) att5_0_9 NB188_0.out (by simp)) (KeepBut.trans att5_0_1 hk (.inl rfl)) (hb) (hi) ?_; clear BK187 BK188 HK HB HI0; intro BK187 BK188 HK HB HI0; (try clear hb); (try clear hb2); (try clear hk); (try clear hi)) | ((with_reducible refine gate_callee (f := 97) rfl ?_); refine goesL_ (some 10) rfl rfl Try.func97 (by kernel_rfl) rfl #[.pointer (some ⟨g, 0, none⟩), .int .i64 16] rfl atgM_ ?_; (with_reducible refine (spec_l1Below.calls g s0_0 t190 t191 16 t192 t193 t194 w0 _ ?side1 ?side2 A5.out).mono ?_); (case side1 => repeat (first | (with_reducible first | exact HI0.out | apply IsS170.alloc | apply IsS170.drewN | apply IsS170.drew | apply IsS170.set_1 | apply IsS170.set_2 | refine IsS170.far ?_ NB0_187.out _ | refine IsS170.far ?_ NB0_188.out _) | exact HI0.out)); (case side2 => repeat (first | (with_reducible first | exact HB.out | apply below_alloc | apply pw_below_drewN | apply below_drew1 | refine below_set ?_ (IsS170.ge HI0.out) | refine below_set ?_ GE187.out | refine below_set ?_ GE188.out) | exact HB.out)); rintro e w9 ⟨rfl, hi, hb, hk⟩; refine ⟨_, rfl, ?_⟩; refine swap5_ (KeepBut.blk hk (g' := gb187) (o := .cells #[.int .i64 a1_0, .int .i64 a1_1, .int .i64 a1_2, .int .i64 a1_3, .int .i64 a1_4] 37 (0, 0)) att5_0_2 NB187_0.out (by simp)) (KeepBut.blk hk (g' := gb188) (o := .cells #[.int .i64 0, .int .i64 0, .int .i64 0, .int .i64 0, .int .i64 0] 37 (0, 0)) att5_0_9 NB188_0.out (by simp)) (KeepBut.trans att5_0_1 hk (.inl rfl)) (hb) (hi) ?_; clear BK187 BK188 HK HB HI0; intro BK187 BK188 HK HB HI0; (try clear hb); (try clear hb2); (try clear hk); (try clear hi); have hnb10 := NB187_188.out; have hnc10 := NB188_187.out; have hnb11 := NB187_0.out; have hnc11 := NB0_187.out; obtain ⟨hcz12_0, hcz12_1, hcz12_2, hcz12_3, hcz12_4, hfz12_0, hfz12_1, hfz12_2, hfz12_3, hfz12_4⟩ := blkB5_ BK187; have hnb13 := NB188_0.out; have hnc13 := NB0_188.out; obtain ⟨hcz14_0, hcz14_1, hcz14_2, hcz14_3, hcz14_4, hfz14_0, hfz14_1, hfz14_2, hfz14_3, hfz14_4⟩ := blkB5_ BK188))
  refine bodyPost_ret (results_cell_row rfl _ _ gb188 37 #[.int .i64 (wrap64 (t192 - 1)), .int .i64 a1_1, .int .i64 a1_2, .int .i64 a1_3, .int .i64 a1_4] (0, 0) _ rfl (by (with_reducible repeat (first | refine blk_drewN ?_ _ | refine blk_drew ?_ | refine blk_alloc ?_ _)); refine blk_put (cs := #[.int .i64 (wrap64 (t192 - 1)), .int .i64 a1_1, .int .i64 a1_2, .int .i64 a1_3, .int .i64 0]) ?_ 4 _ rfl; (with_reducible repeat (first | refine blk_drewN ?_ _ | refine blk_drew ?_ | refine blk_alloc ?_ _)); refine blk_put (cs := #[.int .i64 (wrap64 (t192 - 1)), .int .i64 a1_1, .int .i64 a1_2, .int .i64 0, .int .i64 0]) ?_ 3 _ rfl; (with_reducible repeat (first | refine blk_drewN ?_ _ | refine blk_drew ?_ | refine blk_alloc ?_ _)); refine blk_put (cs := #[.int .i64 (wrap64 (t192 - 1)), .int .i64 a1_1, .int .i64 0, .int .i64 0, .int .i64 0]) ?_ 2 _ rfl; (with_reducible repeat (first | refine blk_drewN ?_ _ | refine blk_drew ?_ | refine blk_alloc ?_ _)); refine blk_put (cs := #[.int .i64 (wrap64 (t192 - 1)), .int .i64 0, .int .i64 0, .int .i64 0, .int .i64 0]) ?_ 1 _ rfl; (with_reducible repeat (first | refine blk_drewN ?_ _ | refine blk_drew ?_ | refine blk_alloc ?_ _)); refine blk_put (cs := #[.int .i64 0, .int .i64 0, .int .i64 0, .int .i64 0, .int .i64 0]) ?_ 0 _ rfl; (with_reducible repeat (first | refine blk_drewN ?_ _ | refine blk_drew ?_ | refine blk_alloc ?_ _)); refine blk_far ?_ NB188_187.out _; (with_reducible repeat (first | refine blk_drewN ?_ _ | refine blk_drew ?_ | refine blk_alloc ?_ _)); exact BK188.out) Try.underlying37 rfl (by kernel_rfl)) rfl ?_
  exact ⟨retT_, by repeat (first | (with_reducible first | exact HI0.out | apply IsS170.alloc | apply IsS170.drewN | apply IsS170.drew | apply IsS170.set_1 | apply IsS170.set_2 | refine IsS170.far ?_ NB0_187.out _ | refine IsS170.far ?_ NB0_188.out _) | exact HI0.out), by repeat (first | (with_reducible first | exact HB.out | apply below_alloc | apply pw_below_drewN | apply below_drew1 | refine below_set ?_ (IsS170.ge HI0.out) | refine below_set ?_ GE187.out | refine below_set ?_ GE188.out) | exact HB.out), att5_0_1⟩
 ·rw [if_neg c4] at H
  have c4b0 := beq_eq_false_iff_ne.mpr c4
  have c4b1 := bne_iff_ne.mpr c4
  by_cases c15 : t189 = 1
  ·rw [if_pos c15] at H
   have c15b0 := beq_iff_eq.mpr c15
   have c15b1 := bne_eq_false_iff_eq.mpr c15
   clear c15
   replace H := Option.bind_eq_some_iff.mp H
   obtain ⟨⟨t195, t196, t197⟩, A160, H⟩ := H
   (try dsimp only at H)
   have A16 := Aside0.mk A160
   clear A160
   simp only [Option.some.injEq, Prod.mk.injEq] at H
   obtain ⟨rfl, rfl, rfl, rfl, rfl, rfl, rfl⟩ := H
   go_enter Try.func96, Try.ntmps96
   go_wp2_with (first | ((with_reducible refine gate_dst (N := 3) rfl ?_); refine box_event ?hg (N := 3) ?hd (cs := #[.int .i64 a1_0, .int .i64 a1_1, .int .i64 a1_2, .int .i64 a1_3, .int .i64 a1_4]) (t := 37) ?hr ?_; (case hd => rfl); (case hg => rfl); (case hr => first | (go_simp; done) | (go_simp; rfl)); intro gb187 hg w17 hbox hb; refine swap8_ (IsS170.below att5_0_11 hb) (KeepBut.trans att5_0_5 (KeepBut.of_below hb g none) (.inl rfl)) (below_step att5_0_12 hb) (hbox) ((by rw [hg]; exact (keep_size (w := w) (g := g) (row := none) att5_0_5) : w.heap.size ≤ gb187)) ((Nat.le_trans HW0.out (by rw [hg]; exact (keep_size (w := w) (g := g) (row := none) att5_0_5) : w.heap.size ≤ gb187) : w0.heap.size ≤ gb187)) ((by rw [hg]; exact Nat.ne_of_lt (IsS170.lt (show IsS170 w0 _ g s0_0 s0_1 s0_2 from by repeat (first | (with_reducible first | exact HI0.out | apply IsS170.alloc | apply IsS170.drewN | apply IsS170.drew | apply IsS170.set_1 | apply IsS170.set_2) | exact HI0.out))) : g ≠ gb187)) ((by rw [hg]; exact Nat.ne_of_gt (IsS170.lt (show IsS170 w0 _ g s0_0 s0_1 s0_2 from by repeat (first | (with_reducible first | exact HI0.out | apply IsS170.alloc | apply IsS170.drewN | apply IsS170.drew | apply IsS170.set_1 | apply IsS170.set_2) | exact HI0.out))) : gb187 ≠ g)) ?_; clear HI0 HK HB; intro HI0 HK HB BK187 GW187 GE187 NB0_187 NB187_0; clear hb hbox hg) | ((with_reducible refine gate_dst (N := 4) rfl ?_); refine box_event ?hg (N := 4) ?hd (cs := #[.int .i64 0, .int .i64 0, .int .i64 0, .int .i64 0, .int .i64 0]) (t := 37) ?hr ?_; (case hd => rfl); (case hg => rfl); (case hr => first | (go_simp; done) | (go_simp; rfl)); intro gb188 hg w18 hbox hb; refine swap11_ (IsS170.below att5_0_10 hb) (blk_below (g := gb187) (o := .cells #[.int .i64 a1_0, .int .i64 a1_1, .int .i64 a1_2, .int .i64 a1_3, .int .i64 a1_4] 37 (0, 0)) att5_0_2 hb) (KeepBut.trans att5_0_3 (KeepBut.of_below hb g none) (.inl rfl)) (below_step att5_0_13 hb) (hbox) ((by rw [hg]; exact (keep_size (w := w) (g := g) (row := none) att5_0_3) : w.heap.size ≤ gb188)) ((Nat.le_trans HW0.out (by rw [hg]; exact (keep_size (w := w) (g := g) (row := none) att5_0_3) : w.heap.size ≤ gb188) : w0.heap.size ≤ gb188)) ((by rw [hg]; exact Nat.ne_of_lt (blk_lt (g := gb187) (o := .cells #[.int .i64 a1_0, .int .i64 a1_1, .int .i64 a1_2, .int .i64 a1_3, .int .i64 a1_4] 37 (0, 0)) att5_0_2) : gb187 ≠ gb188)) ((by rw [hg]; exact Nat.ne_of_gt (blk_lt (g := gb187) (o := .cells #[.int .i64 a1_0, .int .i64 a1_1, .int .i64 a1_2, .int .i64 a1_3, .int .i64 a1_4] 37 (0, 0)) att5_0_2) : gb188 ≠ gb187)) ((by rw [hg]; exact Nat.ne_of_lt (IsS170.lt (show IsS170 w0 _ g s0_0 s0_1 s0_2 from by repeat (first | (with_reducible first | exact HI0.out | apply IsS170.alloc | apply IsS170.drewN | apply IsS170.drew | apply IsS170.set_1 | apply IsS170.set_2 | refine IsS170.far ?_ NB0_187.out _) | exact HI0.out))) : g ≠ gb188)) ((by rw [hg]; exact Nat.ne_of_gt (IsS170.lt (show IsS170 w0 _ g s0_0 s0_1 s0_2 from by repeat (first | (with_reducible first | exact HI0.out | apply IsS170.alloc | apply IsS170.drewN | apply IsS170.drew | apply IsS170.set_1 | apply IsS170.set_2 | refine IsS170.far ?_ NB0_187.out _) | exact HI0.out))) : gb188 ≠ g)) ?_; clear HI0 BK187 HK HB; intro HI0 BK187 HK HB BK188 GW188 GE188 NB187_188 NB188_187 NB0_188 NB188_0; clear hb hbox hg) | ((with_reducible refine gate_callee (f := 97) rfl ?_); refine goesL_ (some 6) rfl rfl Try.func97 (by kernel_rfl) rfl #[.pointer (some ⟨g, 0, none⟩), .int .i64 8] rfl atgM_ ?_; (with_reducible refine (spec_l1Below.calls g s0_0 s0_1 s0_2 8 t189 t190 t191 w0 _ ?side1 ?side2 A3.out).mono ?_); (case side1 => repeat (first | (with_reducible first | exact HI0.out | apply IsS170.alloc | apply IsS170.drewN | apply IsS170.drew | apply IsS170.set_1 | apply IsS170.set_2 | refine IsS170.far ?_ NB0_187.out _ | refine IsS170.far ?_ NB0_188.out _) | exact HI0.out)); (case side2 => repeat (first | (with_reducible first | exact HB.out | apply below_alloc | apply pw_below_drewN | apply below_drew1 | refine below_set ?_ (IsS170.ge HI0.out) | refine below_set ?_ GE187.out | refine below_set ?_ GE188.out) | exact HB.out)); rintro e w19 ⟨rfl, hi, hb, hk⟩; refine ⟨_, rfl, ?_⟩; refine swap5_ (KeepBut.blk hk (g' := gb187) (o := .cells #[.int .i64 a1_0, .int .i64 a1_1, .int .i64 a1_2, .int .i64 a1_3, .int .i64 a1_4] 37 (0, 0)) att5_0_2 NB187_0.out (by simp)) (KeepBut.blk hk (g' := gb188) (o := .cells #[.int .i64 0, .int .i64 0, .int .i64 0, .int .i64 0, .int .i64 0] 37 (0, 0)) att5_0_9 NB188_0.out (by simp)) (KeepBut.trans att5_0_1 hk (.inl rfl)) (hb) (hi) ?_; clear BK187 BK188 HK HB HI0; intro BK187 BK188 HK HB HI0; (try clear hb); (try clear hb2); (try clear hk); (try clear hi)) | ((with_reducible refine gate_callee (f := 97) rfl ?_); refine goesL_ (some 16) rfl rfl Try.func97 (by kernel_rfl) rfl #[.pointer (some ⟨g, 0, none⟩), .int .i64 6] rfl atgM_ ?_; (with_reducible refine (spec_l1Below.calls g s0_0 t190 t191 6 t195 t196 t197 w0 _ ?side1 ?side2 A16.out).mono ?_); (case side1 => repeat (first | (with_reducible first | exact HI0.out | apply IsS170.alloc | apply IsS170.drewN | apply IsS170.drew | apply IsS170.set_1 | apply IsS170.set_2 | refine IsS170.far ?_ NB0_187.out _ | refine IsS170.far ?_ NB0_188.out _) | exact HI0.out)); (case side2 => repeat (first | (with_reducible first | exact HB.out | apply below_alloc | apply pw_below_drewN | apply below_drew1 | refine below_set ?_ (IsS170.ge HI0.out) | refine below_set ?_ GE187.out | refine below_set ?_ GE188.out) | exact HB.out)); rintro e w20 ⟨rfl, hi, hb, hk⟩; refine ⟨_, rfl, ?_⟩; refine swap5_ (KeepBut.blk hk (g' := gb187) (o := .cells #[.int .i64 a1_0, .int .i64 a1_1, .int .i64 a1_2, .int .i64 a1_3, .int .i64 a1_4] 37 (0, 0)) att5_0_2 NB187_0.out (by simp)) (KeepBut.blk hk (g' := gb188) (o := .cells #[.int .i64 0, .int .i64 0, .int .i64 0, .int .i64 0, .int .i64 0] 37 (0, 0)) att5_0_9 NB188_0.out (by simp)) (KeepBut.trans att5_0_1 hk (.inl rfl)) (hb) (hi) ?_; clear BK187 BK188 HK HB HI0; intro BK187 BK188 HK HB HI0; (try clear hb); (try clear hb2); (try clear hk); (try clear hi); have hnb21 := NB187_188.out; have hnc21 := NB188_187.out; have hnb22 := NB187_0.out; have hnc22 := NB0_187.out; obtain ⟨hcz23_0, hcz23_1, hcz23_2, hcz23_3, hcz23_4, hfz23_0, hfz23_1, hfz23_2, hfz23_3, hfz23_4⟩ := blkB5_ BK187; have hnb24 := NB188_0.out; have hnc24 := NB0_188.out; obtain ⟨hcz25_0, hcz25_1, hcz25_2, hcz25_3, hcz25_4, hfz25_0, hfz25_1, hfz25_2, hfz25_3, hfz25_4⟩ := blkB5_ BK188))
   refine bodyPost_ret (results_cell_row rfl _ _ gb188 37 #[.int .i64 a1_0, .int .i64 (wrap64 (t195 - 1)), .int .i64 a1_2, .int .i64 a1_3, .int .i64 a1_4] (0, 0) _ rfl (by (with_reducible repeat (first | refine blk_drewN ?_ _ | refine blk_drew ?_ | refine blk_alloc ?_ _)); refine blk_put (cs := #[.int .i64 a1_0, .int .i64 (wrap64 (t195 - 1)), .int .i64 a1_2, .int .i64 a1_3, .int .i64 0]) ?_ 4 _ rfl; (with_reducible repeat (first | refine blk_drewN ?_ _ | refine blk_drew ?_ | refine blk_alloc ?_ _)); refine blk_put (cs := #[.int .i64 a1_0, .int .i64 (wrap64 (t195 - 1)), .int .i64 a1_2, .int .i64 0, .int .i64 0]) ?_ 3 _ rfl; (with_reducible repeat (first | refine blk_drewN ?_ _ | refine blk_drew ?_ | refine blk_alloc ?_ _)); refine blk_put (cs := #[.int .i64 a1_0, .int .i64 (wrap64 (t195 - 1)), .int .i64 0, .int .i64 0, .int .i64 0]) ?_ 2 _ rfl; (with_reducible repeat (first | refine blk_drewN ?_ _ | refine blk_drew ?_ | refine blk_alloc ?_ _)); refine blk_put (cs := #[.int .i64 a1_0, .int .i64 0, .int .i64 0, .int .i64 0, .int .i64 0]) ?_ 1 _ rfl; (with_reducible repeat (first | refine blk_drewN ?_ _ | refine blk_drew ?_ | refine blk_alloc ?_ _)); refine blk_put (cs := #[.int .i64 0, .int .i64 0, .int .i64 0, .int .i64 0, .int .i64 0]) ?_ 0 _ rfl; (with_reducible repeat (first | refine blk_drewN ?_ _ | refine blk_drew ?_ | refine blk_alloc ?_ _)); refine blk_far ?_ NB188_187.out _; (with_reducible repeat (first | refine blk_drewN ?_ _ | refine blk_drew ?_ | refine blk_alloc ?_ _)); exact BK188.out) Try.underlying37 rfl (by kernel_rfl)) rfl ?_
   exact ⟨retT_, by repeat (first | (with_reducible first | exact HI0.out | apply IsS170.alloc | apply IsS170.drewN | apply IsS170.drew | apply IsS170.set_1 | apply IsS170.set_2 | refine IsS170.far ?_ NB0_187.out _ | refine IsS170.far ?_ NB0_188.out _) | exact HI0.out), by repeat (first | (with_reducible first | exact HB.out | apply below_alloc | apply pw_below_drewN | apply below_drew1 | refine below_set ?_ (IsS170.ge HI0.out) | refine below_set ?_ GE187.out | refine below_set ?_ GE188.out) | exact HB.out), att5_0_1⟩
  ·rw [if_neg c15] at H
   have c15b0 := beq_eq_false_iff_ne.mpr c15
   have c15b1 := bne_iff_ne.mpr c15
   by_cases c26 : t189 = 2
   ·rw [if_pos c26] at H
    have c26b0 := beq_iff_eq.mpr c26
    have c26b1 := bne_eq_false_iff_eq.mpr c26
    clear c26
    replace H := Option.bind_eq_some_iff.mp H
    obtain ⟨⟨t198, t199, t200⟩, A270, H⟩ := H
    (try dsimp only at H)
    have A27 := Aside0.mk A270
    clear A270
    simp only [Option.some.injEq, Prod.mk.injEq] at H
    obtain ⟨rfl, rfl, rfl, rfl, rfl, rfl, rfl⟩ := H
    go_enter Try.func96, Try.ntmps96
    go_wp2_with (first | ((with_reducible refine gate_dst (N := 3) rfl ?_); refine box_event ?hg (N := 3) ?hd (cs := #[.int .i64 a1_0, .int .i64 a1_1, .int .i64 a1_2, .int .i64 a1_3, .int .i64 a1_4]) (t := 37) ?hr ?_; (case hd => rfl); (case hg => rfl); (case hr => first | (go_simp; done) | (go_simp; rfl)); intro gb187 hg w28 hbox hb; refine swap8_ (IsS170.below att5_0_11 hb) (KeepBut.trans att5_0_5 (KeepBut.of_below hb g none) (.inl rfl)) (below_step att5_0_12 hb) (hbox) ((by rw [hg]; exact (keep_size (w := w) (g := g) (row := none) att5_0_5) : w.heap.size ≤ gb187)) ((Nat.le_trans HW0.out (by rw [hg]; exact (keep_size (w := w) (g := g) (row := none) att5_0_5) : w.heap.size ≤ gb187) : w0.heap.size ≤ gb187)) ((by rw [hg]; exact Nat.ne_of_lt (IsS170.lt (show IsS170 w0 _ g s0_0 s0_1 s0_2 from by repeat (first | (with_reducible first | exact HI0.out | apply IsS170.alloc | apply IsS170.drewN | apply IsS170.drew | apply IsS170.set_1 | apply IsS170.set_2) | exact HI0.out))) : g ≠ gb187)) ((by rw [hg]; exact Nat.ne_of_gt (IsS170.lt (show IsS170 w0 _ g s0_0 s0_1 s0_2 from by repeat (first | (with_reducible first | exact HI0.out | apply IsS170.alloc | apply IsS170.drewN | apply IsS170.drew | apply IsS170.set_1 | apply IsS170.set_2) | exact HI0.out))) : gb187 ≠ g)) ?_; clear HI0 HK HB; intro HI0 HK HB BK187 GW187 GE187 NB0_187 NB187_0; clear hb hbox hg) | ((with_reducible refine gate_dst (N := 4) rfl ?_); refine box_event ?hg (N := 4) ?hd (cs := #[.int .i64 0, .int .i64 0, .int .i64 0, .int .i64 0, .int .i64 0]) (t := 37) ?hr ?_; (case hd => rfl); (case hg => rfl); (case hr => first | (go_simp; done) | (go_simp; rfl)); intro gb188 hg w29 hbox hb; refine swap11_ (IsS170.below att5_0_10 hb) (blk_below (g := gb187) (o := .cells #[.int .i64 a1_0, .int .i64 a1_1, .int .i64 a1_2, .int .i64 a1_3, .int .i64 a1_4] 37 (0, 0)) att5_0_2 hb) (KeepBut.trans att5_0_3 (KeepBut.of_below hb g none) (.inl rfl)) (below_step att5_0_13 hb) (hbox) ((by rw [hg]; exact (keep_size (w := w) (g := g) (row := none) att5_0_3) : w.heap.size ≤ gb188)) ((Nat.le_trans HW0.out (by rw [hg]; exact (keep_size (w := w) (g := g) (row := none) att5_0_3) : w.heap.size ≤ gb188) : w0.heap.size ≤ gb188)) ((by rw [hg]; exact Nat.ne_of_lt (blk_lt (g := gb187) (o := .cells #[.int .i64 a1_0, .int .i64 a1_1, .int .i64 a1_2, .int .i64 a1_3, .int .i64 a1_4] 37 (0, 0)) att5_0_2) : gb187 ≠ gb188)) ((by rw [hg]; exact Nat.ne_of_gt (blk_lt (g := gb187) (o := .cells #[.int .i64 a1_0, .int .i64 a1_1, .int .i64 a1_2, .int .i64 a1_3, .int .i64 a1_4] 37 (0, 0)) att5_0_2) : gb188 ≠ gb187)) ((by rw [hg]; exact Nat.ne_of_lt (IsS170.lt (show IsS170 w0 _ g s0_0 s0_1 s0_2 from by repeat (first | (with_reducible first | exact HI0.out | apply IsS170.alloc | apply IsS170.drewN | apply IsS170.drew | apply IsS170.set_1 | apply IsS170.set_2 | refine IsS170.far ?_ NB0_187.out _) | exact HI0.out))) : g ≠ gb188)) ((by rw [hg]; exact Nat.ne_of_gt (IsS170.lt (show IsS170 w0 _ g s0_0 s0_1 s0_2 from by repeat (first | (with_reducible first | exact HI0.out | apply IsS170.alloc | apply IsS170.drewN | apply IsS170.drew | apply IsS170.set_1 | apply IsS170.set_2 | refine IsS170.far ?_ NB0_187.out _) | exact HI0.out))) : gb188 ≠ g)) ?_; clear HI0 BK187 HK HB; intro HI0 BK187 HK HB BK188 GW188 GE188 NB187_188 NB188_187 NB0_188 NB188_0; clear hb hbox hg) | ((with_reducible refine gate_callee (f := 97) rfl ?_); refine goesL_ (some 6) rfl rfl Try.func97 (by kernel_rfl) rfl #[.pointer (some ⟨g, 0, none⟩), .int .i64 8] rfl atgM_ ?_; (with_reducible refine (spec_l1Below.calls g s0_0 s0_1 s0_2 8 t189 t190 t191 w0 _ ?side1 ?side2 A3.out).mono ?_); (case side1 => repeat (first | (with_reducible first | exact HI0.out | apply IsS170.alloc | apply IsS170.drewN | apply IsS170.drew | apply IsS170.set_1 | apply IsS170.set_2 | refine IsS170.far ?_ NB0_187.out _ | refine IsS170.far ?_ NB0_188.out _) | exact HI0.out)); (case side2 => repeat (first | (with_reducible first | exact HB.out | apply below_alloc | apply pw_below_drewN | apply below_drew1 | refine below_set ?_ (IsS170.ge HI0.out) | refine below_set ?_ GE187.out | refine below_set ?_ GE188.out) | exact HB.out)); rintro e w30 ⟨rfl, hi, hb, hk⟩; refine ⟨_, rfl, ?_⟩; refine swap5_ (KeepBut.blk hk (g' := gb187) (o := .cells #[.int .i64 a1_0, .int .i64 a1_1, .int .i64 a1_2, .int .i64 a1_3, .int .i64 a1_4] 37 (0, 0)) att5_0_2 NB187_0.out (by simp)) (KeepBut.blk hk (g' := gb188) (o := .cells #[.int .i64 0, .int .i64 0, .int .i64 0, .int .i64 0, .int .i64 0] 37 (0, 0)) att5_0_9 NB188_0.out (by simp)) (KeepBut.trans att5_0_1 hk (.inl rfl)) (hb) (hi) ?_; clear BK187 BK188 HK HB HI0; intro BK187 BK188 HK HB HI0; (try clear hb); (try clear hb2); (try clear hk); (try clear hi)) | ((with_reducible refine gate_callee (f := 97) rfl ?_); refine goesL_ (some 22) rfl rfl Try.func97 (by kernel_rfl) rfl #[.pointer (some ⟨g, 0, none⟩), .int .i64 6] rfl atgM_ ?_; (with_reducible refine (spec_l1Below.calls g s0_0 t190 t191 6 t198 t199 t200 w0 _ ?side1 ?side2 A27.out).mono ?_); (case side1 => repeat (first | (with_reducible first | exact HI0.out | apply IsS170.alloc | apply IsS170.drewN | apply IsS170.drew | apply IsS170.set_1 | apply IsS170.set_2 | refine IsS170.far ?_ NB0_187.out _ | refine IsS170.far ?_ NB0_188.out _) | exact HI0.out)); (case side2 => repeat (first | (with_reducible first | exact HB.out | apply below_alloc | apply pw_below_drewN | apply below_drew1 | refine below_set ?_ (IsS170.ge HI0.out) | refine below_set ?_ GE187.out | refine below_set ?_ GE188.out) | exact HB.out)); rintro e w31 ⟨rfl, hi, hb, hk⟩; refine ⟨_, rfl, ?_⟩; refine swap5_ (KeepBut.blk hk (g' := gb187) (o := .cells #[.int .i64 a1_0, .int .i64 a1_1, .int .i64 a1_2, .int .i64 a1_3, .int .i64 a1_4] 37 (0, 0)) att5_0_2 NB187_0.out (by simp)) (KeepBut.blk hk (g' := gb188) (o := .cells #[.int .i64 0, .int .i64 0, .int .i64 0, .int .i64 0, .int .i64 0] 37 (0, 0)) att5_0_9 NB188_0.out (by simp)) (KeepBut.trans att5_0_1 hk (.inl rfl)) (hb) (hi) ?_; clear BK187 BK188 HK HB HI0; intro BK187 BK188 HK HB HI0; (try clear hb); (try clear hb2); (try clear hk); (try clear hi); have hnb32 := NB187_188.out; have hnc32 := NB188_187.out; have hnb33 := NB187_0.out; have hnc33 := NB0_187.out; obtain ⟨hcz34_0, hcz34_1, hcz34_2, hcz34_3, hcz34_4, hfz34_0, hfz34_1, hfz34_2, hfz34_3, hfz34_4⟩ := blkB5_ BK187; have hnb35 := NB188_0.out; have hnc35 := NB0_188.out; obtain ⟨hcz36_0, hcz36_1, hcz36_2, hcz36_3, hcz36_4, hfz36_0, hfz36_1, hfz36_2, hfz36_3, hfz36_4⟩ := blkB5_ BK188))
    refine bodyPost_ret (results_cell_row rfl _ _ gb188 37 #[.int .i64 a1_0, .int .i64 a1_1, .int .i64 (wrap64 (t198 - 1)), .int .i64 a1_3, .int .i64 a1_4] (0, 0) _ rfl (by (with_reducible repeat (first | refine blk_drewN ?_ _ | refine blk_drew ?_ | refine blk_alloc ?_ _)); refine blk_put (cs := #[.int .i64 a1_0, .int .i64 a1_1, .int .i64 (wrap64 (t198 - 1)), .int .i64 a1_3, .int .i64 0]) ?_ 4 _ rfl; (with_reducible repeat (first | refine blk_drewN ?_ _ | refine blk_drew ?_ | refine blk_alloc ?_ _)); refine blk_put (cs := #[.int .i64 a1_0, .int .i64 a1_1, .int .i64 (wrap64 (t198 - 1)), .int .i64 0, .int .i64 0]) ?_ 3 _ rfl; (with_reducible repeat (first | refine blk_drewN ?_ _ | refine blk_drew ?_ | refine blk_alloc ?_ _)); refine blk_put (cs := #[.int .i64 a1_0, .int .i64 a1_1, .int .i64 0, .int .i64 0, .int .i64 0]) ?_ 2 _ rfl; (with_reducible repeat (first | refine blk_drewN ?_ _ | refine blk_drew ?_ | refine blk_alloc ?_ _)); refine blk_put (cs := #[.int .i64 a1_0, .int .i64 0, .int .i64 0, .int .i64 0, .int .i64 0]) ?_ 1 _ rfl; (with_reducible repeat (first | refine blk_drewN ?_ _ | refine blk_drew ?_ | refine blk_alloc ?_ _)); refine blk_put (cs := #[.int .i64 0, .int .i64 0, .int .i64 0, .int .i64 0, .int .i64 0]) ?_ 0 _ rfl; (with_reducible repeat (first | refine blk_drewN ?_ _ | refine blk_drew ?_ | refine blk_alloc ?_ _)); refine blk_far ?_ NB188_187.out _; (with_reducible repeat (first | refine blk_drewN ?_ _ | refine blk_drew ?_ | refine blk_alloc ?_ _)); exact BK188.out) Try.underlying37 rfl (by kernel_rfl)) rfl ?_
    exact ⟨retT_, by repeat (first | (with_reducible first | exact HI0.out | apply IsS170.alloc | apply IsS170.drewN | apply IsS170.drew | apply IsS170.set_1 | apply IsS170.set_2 | refine IsS170.far ?_ NB0_187.out _ | refine IsS170.far ?_ NB0_188.out _) | exact HI0.out), by repeat (first | (with_reducible first | exact HB.out | apply below_alloc | apply pw_below_drewN | apply below_drew1 | refine below_set ?_ (IsS170.ge HI0.out) | refine below_set ?_ GE187.out | refine below_set ?_ GE188.out) | exact HB.out), att5_0_1⟩
   ·rw [if_neg c26] at H
    have c26b0 := beq_eq_false_iff_ne.mpr c26
    have c26b1 := bne_iff_ne.mpr c26
    by_cases c37 : t189 = 3
    ·rw [if_pos c37] at H
     have c37b0 := beq_iff_eq.mpr c37
     have c37b1 := bne_eq_false_iff_eq.mpr c37
     clear c37
     replace H := Option.bind_eq_some_iff.mp H
     obtain ⟨⟨t201, t202, t203⟩, A380, H⟩ := H
     (try dsimp only at H)
     have A38 := Aside0.mk A380
     clear A380
     simp only [Option.some.injEq, Prod.mk.injEq] at H
     obtain ⟨rfl, rfl, rfl, rfl, rfl, rfl, rfl⟩ := H
     go_enter Try.func96, Try.ntmps96
     go_wp2_with (first | ((with_reducible refine gate_dst (N := 3) rfl ?_); refine box_event ?hg (N := 3) ?hd (cs := #[.int .i64 a1_0, .int .i64 a1_1, .int .i64 a1_2, .int .i64 a1_3, .int .i64 a1_4]) (t := 37) ?hr ?_; (case hd => rfl); (case hg => rfl); (case hr => first | (go_simp; done) | (go_simp; rfl)); intro gb187 hg w39 hbox hb; refine swap8_ (IsS170.below att5_0_11 hb) (KeepBut.trans att5_0_5 (KeepBut.of_below hb g none) (.inl rfl)) (below_step att5_0_12 hb) (hbox) ((by rw [hg]; exact (keep_size (w := w) (g := g) (row := none) att5_0_5) : w.heap.size ≤ gb187)) ((Nat.le_trans HW0.out (by rw [hg]; exact (keep_size (w := w) (g := g) (row := none) att5_0_5) : w.heap.size ≤ gb187) : w0.heap.size ≤ gb187)) ((by rw [hg]; exact Nat.ne_of_lt (IsS170.lt (show IsS170 w0 _ g s0_0 s0_1 s0_2 from by repeat (first | (with_reducible first | exact HI0.out | apply IsS170.alloc | apply IsS170.drewN | apply IsS170.drew | apply IsS170.set_1 | apply IsS170.set_2) | exact HI0.out))) : g ≠ gb187)) ((by rw [hg]; exact Nat.ne_of_gt (IsS170.lt (show IsS170 w0 _ g s0_0 s0_1 s0_2 from by repeat (first | (with_reducible first | exact HI0.out | apply IsS170.alloc | apply IsS170.drewN | apply IsS170.drew | apply IsS170.set_1 | apply IsS170.set_2) | exact HI0.out))) : gb187 ≠ g)) ?_; clear HI0 HK HB; intro HI0 HK HB BK187 GW187 GE187 NB0_187 NB187_0; clear hb hbox hg) | ((with_reducible refine gate_dst (N := 4) rfl ?_); refine box_event ?hg (N := 4) ?hd (cs := #[.int .i64 0, .int .i64 0, .int .i64 0, .int .i64 0, .int .i64 0]) (t := 37) ?hr ?_; (case hd => rfl); (case hg => rfl); (case hr => first | (go_simp; done) | (go_simp; rfl)); intro gb188 hg w40 hbox hb; refine swap11_ (IsS170.below att5_0_10 hb) (blk_below (g := gb187) (o := .cells #[.int .i64 a1_0, .int .i64 a1_1, .int .i64 a1_2, .int .i64 a1_3, .int .i64 a1_4] 37 (0, 0)) att5_0_2 hb) (KeepBut.trans att5_0_3 (KeepBut.of_below hb g none) (.inl rfl)) (below_step att5_0_13 hb) (hbox) ((by rw [hg]; exact (keep_size (w := w) (g := g) (row := none) att5_0_3) : w.heap.size ≤ gb188)) ((Nat.le_trans HW0.out (by rw [hg]; exact (keep_size (w := w) (g := g) (row := none) att5_0_3) : w.heap.size ≤ gb188) : w0.heap.size ≤ gb188)) ((by rw [hg]; exact Nat.ne_of_lt (blk_lt (g := gb187) (o := .cells #[.int .i64 a1_0, .int .i64 a1_1, .int .i64 a1_2, .int .i64 a1_3, .int .i64 a1_4] 37 (0, 0)) att5_0_2) : gb187 ≠ gb188)) ((by rw [hg]; exact Nat.ne_of_gt (blk_lt (g := gb187) (o := .cells #[.int .i64 a1_0, .int .i64 a1_1, .int .i64 a1_2, .int .i64 a1_3, .int .i64 a1_4] 37 (0, 0)) att5_0_2) : gb188 ≠ gb187)) ((by rw [hg]; exact Nat.ne_of_lt (IsS170.lt (show IsS170 w0 _ g s0_0 s0_1 s0_2 from by repeat (first | (with_reducible first | exact HI0.out | apply IsS170.alloc | apply IsS170.drewN | apply IsS170.drew | apply IsS170.set_1 | apply IsS170.set_2 | refine IsS170.far ?_ NB0_187.out _) | exact HI0.out))) : g ≠ gb188)) ((by rw [hg]; exact Nat.ne_of_gt (IsS170.lt (show IsS170 w0 _ g s0_0 s0_1 s0_2 from by repeat (first | (with_reducible first | exact HI0.out | apply IsS170.alloc | apply IsS170.drewN | apply IsS170.drew | apply IsS170.set_1 | apply IsS170.set_2 | refine IsS170.far ?_ NB0_187.out _) | exact HI0.out))) : gb188 ≠ g)) ?_; clear HI0 BK187 HK HB; intro HI0 BK187 HK HB BK188 GW188 GE188 NB187_188 NB188_187 NB0_188 NB188_0; clear hb hbox hg) | ((with_reducible refine gate_callee (f := 97) rfl ?_); refine goesL_ (some 6) rfl rfl Try.func97 (by kernel_rfl) rfl #[.pointer (some ⟨g, 0, none⟩), .int .i64 8] rfl atgM_ ?_; (with_reducible refine (spec_l1Below.calls g s0_0 s0_1 s0_2 8 t189 t190 t191 w0 _ ?side1 ?side2 A3.out).mono ?_); (case side1 => repeat (first | (with_reducible first | exact HI0.out | apply IsS170.alloc | apply IsS170.drewN | apply IsS170.drew | apply IsS170.set_1 | apply IsS170.set_2 | refine IsS170.far ?_ NB0_187.out _ | refine IsS170.far ?_ NB0_188.out _) | exact HI0.out)); (case side2 => repeat (first | (with_reducible first | exact HB.out | apply below_alloc | apply pw_below_drewN | apply below_drew1 | refine below_set ?_ (IsS170.ge HI0.out) | refine below_set ?_ GE187.out | refine below_set ?_ GE188.out) | exact HB.out)); rintro e w41 ⟨rfl, hi, hb, hk⟩; refine ⟨_, rfl, ?_⟩; refine swap5_ (KeepBut.blk hk (g' := gb187) (o := .cells #[.int .i64 a1_0, .int .i64 a1_1, .int .i64 a1_2, .int .i64 a1_3, .int .i64 a1_4] 37 (0, 0)) att5_0_2 NB187_0.out (by simp)) (KeepBut.blk hk (g' := gb188) (o := .cells #[.int .i64 0, .int .i64 0, .int .i64 0, .int .i64 0, .int .i64 0] 37 (0, 0)) att5_0_9 NB188_0.out (by simp)) (KeepBut.trans att5_0_1 hk (.inl rfl)) (hb) (hi) ?_; clear BK187 BK188 HK HB HI0; intro BK187 BK188 HK HB HI0; (try clear hb); (try clear hb2); (try clear hk); (try clear hi)) | ((with_reducible refine gate_callee (f := 97) rfl ?_); refine goesL_ (some 28) rfl rfl Try.func97 (by kernel_rfl) rfl #[.pointer (some ⟨g, 0, none⟩), .int .i64 6] rfl atgM_ ?_; (with_reducible refine (spec_l1Below.calls g s0_0 t190 t191 6 t201 t202 t203 w0 _ ?side1 ?side2 A38.out).mono ?_); (case side1 => repeat (first | (with_reducible first | exact HI0.out | apply IsS170.alloc | apply IsS170.drewN | apply IsS170.drew | apply IsS170.set_1 | apply IsS170.set_2 | refine IsS170.far ?_ NB0_187.out _ | refine IsS170.far ?_ NB0_188.out _) | exact HI0.out)); (case side2 => repeat (first | (with_reducible first | exact HB.out | apply below_alloc | apply pw_below_drewN | apply below_drew1 | refine below_set ?_ (IsS170.ge HI0.out) | refine below_set ?_ GE187.out | refine below_set ?_ GE188.out) | exact HB.out)); rintro e w42 ⟨rfl, hi, hb, hk⟩; refine ⟨_, rfl, ?_⟩; refine swap5_ (KeepBut.blk hk (g' := gb187) (o := .cells #[.int .i64 a1_0, .int .i64 a1_1, .int .i64 a1_2, .int .i64 a1_3, .int .i64 a1_4] 37 (0, 0)) att5_0_2 NB187_0.out (by simp)) (KeepBut.blk hk (g' := gb188) (o := .cells #[.int .i64 0, .int .i64 0, .int .i64 0, .int .i64 0, .int .i64 0] 37 (0, 0)) att5_0_9 NB188_0.out (by simp)) (KeepBut.trans att5_0_1 hk (.inl rfl)) (hb) (hi) ?_; clear BK187 BK188 HK HB HI0; intro BK187 BK188 HK HB HI0; (try clear hb); (try clear hb2); (try clear hk); (try clear hi); have hnb43 := NB187_188.out; have hnc43 := NB188_187.out; have hnb44 := NB187_0.out; have hnc44 := NB0_187.out; obtain ⟨hcz45_0, hcz45_1, hcz45_2, hcz45_3, hcz45_4, hfz45_0, hfz45_1, hfz45_2, hfz45_3, hfz45_4⟩ := blkB5_ BK187; have hnb46 := NB188_0.out; have hnc46 := NB0_188.out; obtain ⟨hcz47_0, hcz47_1, hcz47_2, hcz47_3, hcz47_4, hfz47_0, hfz47_1, hfz47_2, hfz47_3, hfz47_4⟩ := blkB5_ BK188))
     refine bodyPost_ret (results_cell_row rfl _ _ gb188 37 #[.int .i64 a1_0, .int .i64 a1_1, .int .i64 a1_2, .int .i64 (wrap64 (t201 - 1)), .int .i64 a1_4] (0, 0) _ rfl (by (with_reducible repeat (first | refine blk_drewN ?_ _ | refine blk_drew ?_ | refine blk_alloc ?_ _)); refine blk_put (cs := #[.int .i64 a1_0, .int .i64 a1_1, .int .i64 a1_2, .int .i64 (wrap64 (t201 - 1)), .int .i64 0]) ?_ 4 _ rfl; (with_reducible repeat (first | refine blk_drewN ?_ _ | refine blk_drew ?_ | refine blk_alloc ?_ _)); refine blk_put (cs := #[.int .i64 a1_0, .int .i64 a1_1, .int .i64 a1_2, .int .i64 0, .int .i64 0]) ?_ 3 _ rfl; (with_reducible repeat (first | refine blk_drewN ?_ _ | refine blk_drew ?_ | refine blk_alloc ?_ _)); refine blk_put (cs := #[.int .i64 a1_0, .int .i64 a1_1, .int .i64 0, .int .i64 0, .int .i64 0]) ?_ 2 _ rfl; (with_reducible repeat (first | refine blk_drewN ?_ _ | refine blk_drew ?_ | refine blk_alloc ?_ _)); refine blk_put (cs := #[.int .i64 a1_0, .int .i64 0, .int .i64 0, .int .i64 0, .int .i64 0]) ?_ 1 _ rfl; (with_reducible repeat (first | refine blk_drewN ?_ _ | refine blk_drew ?_ | refine blk_alloc ?_ _)); refine blk_put (cs := #[.int .i64 0, .int .i64 0, .int .i64 0, .int .i64 0, .int .i64 0]) ?_ 0 _ rfl; (with_reducible repeat (first | refine blk_drewN ?_ _ | refine blk_drew ?_ | refine blk_alloc ?_ _)); refine blk_far ?_ NB188_187.out _; (with_reducible repeat (first | refine blk_drewN ?_ _ | refine blk_drew ?_ | refine blk_alloc ?_ _)); exact BK188.out) Try.underlying37 rfl (by kernel_rfl)) rfl ?_
     exact ⟨retT_, by repeat (first | (with_reducible first | exact HI0.out | apply IsS170.alloc | apply IsS170.drewN | apply IsS170.drew | apply IsS170.set_1 | apply IsS170.set_2 | refine IsS170.far ?_ NB0_187.out _ | refine IsS170.far ?_ NB0_188.out _) | exact HI0.out), by repeat (first | (with_reducible first | exact HB.out | apply below_alloc | apply pw_below_drewN | apply below_drew1 | refine below_set ?_ (IsS170.ge HI0.out) | refine below_set ?_ GE187.out | refine below_set ?_ GE188.out) | exact HB.out), att5_0_1⟩
    ·rw [if_neg c37] at H
     have c37b0 := beq_eq_false_iff_ne.mpr c37
     have c37b1 := bne_iff_ne.mpr c37
     by_cases c48 : t189 = 4
     ·rw [if_pos c48] at H
      have c48b0 := beq_iff_eq.mpr c48
      have c48b1 := bne_eq_false_iff_eq.mpr c48
      clear c48
      obtain ⟨y204, hy204⟩ : ∃ y_ : List Int, y_ = (([(-1), 0, 3, 23, 24, 1000000000, 1000000001] : List Int)) := ⟨_, rfl⟩
      replace H : ((spec_l1PickInt.f s0_0 t190 t191 y204).bind fun bt207 => (some (a1_0, a1_1, a1_2, a1_3, bt207.1, bt207.2.1, bt207.2.2))) = some (r1, r2, r3, r4, r5, r6, r7) := by rw [hy204]; exact H
      have Ny204 := Aside0.mk hy204
      clear hy204
      replace H := Option.bind_eq_some_iff.mp H
      obtain ⟨⟨t207, t208, t209⟩, A490, H⟩ := H
      (try dsimp only at H)
      have A49 := Aside0.mk A490
      clear A490
      simp only [Option.some.injEq, Prod.mk.injEq] at H
      obtain ⟨rfl, rfl, rfl, rfl, rfl, rfl, rfl⟩ := H
      go_enter Try.func96, Try.ntmps96
      go_wp2_with (first | ((with_reducible refine gate_dst (N := 3) rfl ?_); refine box_event ?hg (N := 3) ?hd (cs := #[.int .i64 a1_0, .int .i64 a1_1, .int .i64 a1_2, .int .i64 a1_3, .int .i64 a1_4]) (t := 37) ?hr ?_; (case hd => rfl); (case hg => rfl); (case hr => first | (go_simp; done) | (go_simp; rfl)); intro gb187 hg w50 hbox hb; refine swap8_ (IsS170.below att5_0_11 hb) (KeepBut.trans att5_0_5 (KeepBut.of_below hb g none) (.inl rfl)) (below_step att5_0_12 hb) (hbox) ((by rw [hg]; exact (keep_size (w := w) (g := g) (row := none) att5_0_5) : w.heap.size ≤ gb187)) ((Nat.le_trans HW0.out (by rw [hg]; exact (keep_size (w := w) (g := g) (row := none) att5_0_5) : w.heap.size ≤ gb187) : w0.heap.size ≤ gb187)) ((by rw [hg]; exact Nat.ne_of_lt (IsS170.lt (show IsS170 w0 _ g s0_0 s0_1 s0_2 from by repeat (first | (with_reducible first | exact HI0.out | apply IsS170.alloc | apply IsS170.drewN | apply IsS170.drew | apply IsS170.set_1 | apply IsS170.set_2) | exact HI0.out))) : g ≠ gb187)) ((by rw [hg]; exact Nat.ne_of_gt (IsS170.lt (show IsS170 w0 _ g s0_0 s0_1 s0_2 from by repeat (first | (with_reducible first | exact HI0.out | apply IsS170.alloc | apply IsS170.drewN | apply IsS170.drew | apply IsS170.set_1 | apply IsS170.set_2) | exact HI0.out))) : gb187 ≠ g)) ?_; clear HI0 HK HB; intro HI0 HK HB BK187 GW187 GE187 NB0_187 NB187_0; clear hb hbox hg) | ((with_reducible refine gate_dst (N := 4) rfl ?_); refine box_event ?hg (N := 4) ?hd (cs := #[.int .i64 0, .int .i64 0, .int .i64 0, .int .i64 0, .int .i64 0]) (t := 37) ?hr ?_; (case hd => rfl); (case hg => rfl); (case hr => first | (go_simp; done) | (go_simp; rfl)); intro gb188 hg w51 hbox hb; refine swap11_ (IsS170.below att5_0_10 hb) (blk_below (g := gb187) (o := .cells #[.int .i64 a1_0, .int .i64 a1_1, .int .i64 a1_2, .int .i64 a1_3, .int .i64 a1_4] 37 (0, 0)) att5_0_2 hb) (KeepBut.trans att5_0_3 (KeepBut.of_below hb g none) (.inl rfl)) (below_step att5_0_13 hb) (hbox) ((by rw [hg]; exact (keep_size (w := w) (g := g) (row := none) att5_0_3) : w.heap.size ≤ gb188)) ((Nat.le_trans HW0.out (by rw [hg]; exact (keep_size (w := w) (g := g) (row := none) att5_0_3) : w.heap.size ≤ gb188) : w0.heap.size ≤ gb188)) ((by rw [hg]; exact Nat.ne_of_lt (blk_lt (g := gb187) (o := .cells #[.int .i64 a1_0, .int .i64 a1_1, .int .i64 a1_2, .int .i64 a1_3, .int .i64 a1_4] 37 (0, 0)) att5_0_2) : gb187 ≠ gb188)) ((by rw [hg]; exact Nat.ne_of_gt (blk_lt (g := gb187) (o := .cells #[.int .i64 a1_0, .int .i64 a1_1, .int .i64 a1_2, .int .i64 a1_3, .int .i64 a1_4] 37 (0, 0)) att5_0_2) : gb188 ≠ gb187)) ((by rw [hg]; exact Nat.ne_of_lt (IsS170.lt (show IsS170 w0 _ g s0_0 s0_1 s0_2 from by repeat (first | (with_reducible first | exact HI0.out | apply IsS170.alloc | apply IsS170.drewN | apply IsS170.drew | apply IsS170.set_1 | apply IsS170.set_2 | refine IsS170.far ?_ NB0_187.out _) | exact HI0.out))) : g ≠ gb188)) ((by rw [hg]; exact Nat.ne_of_gt (IsS170.lt (show IsS170 w0 _ g s0_0 s0_1 s0_2 from by repeat (first | (with_reducible first | exact HI0.out | apply IsS170.alloc | apply IsS170.drewN | apply IsS170.drew | apply IsS170.set_1 | apply IsS170.set_2 | refine IsS170.far ?_ NB0_187.out _) | exact HI0.out))) : gb188 ≠ g)) ?_; clear HI0 BK187 HK HB; intro HI0 BK187 HK HB BK188 GW188 GE188 NB187_188 NB188_187 NB0_188 NB188_0; clear hb hbox hg) | ((with_reducible refine gate_callee (f := 97) rfl ?_); refine goesL_ (some 6) rfl rfl Try.func97 (by kernel_rfl) rfl #[.pointer (some ⟨g, 0, none⟩), .int .i64 8] rfl atgM_ ?_; (with_reducible refine (spec_l1Below.calls g s0_0 s0_1 s0_2 8 t189 t190 t191 w0 _ ?side1 ?side2 A3.out).mono ?_); (case side1 => repeat (first | (with_reducible first | exact HI0.out | apply IsS170.alloc | apply IsS170.drewN | apply IsS170.drew | apply IsS170.set_1 | apply IsS170.set_2 | refine IsS170.far ?_ NB0_187.out _ | refine IsS170.far ?_ NB0_188.out _) | exact HI0.out)); (case side2 => repeat (first | (with_reducible first | exact HB.out | apply below_alloc | apply pw_below_drewN | apply below_drew1 | refine below_set ?_ (IsS170.ge HI0.out) | refine below_set ?_ GE187.out | refine below_set ?_ GE188.out) | exact HB.out)); rintro e w52 ⟨rfl, hi, hb, hk⟩; refine ⟨_, rfl, ?_⟩; refine swap5_ (KeepBut.blk hk (g' := gb187) (o := .cells #[.int .i64 a1_0, .int .i64 a1_1, .int .i64 a1_2, .int .i64 a1_3, .int .i64 a1_4] 37 (0, 0)) att5_0_2 NB187_0.out (by simp)) (KeepBut.blk hk (g' := gb188) (o := .cells #[.int .i64 0, .int .i64 0, .int .i64 0, .int .i64 0, .int .i64 0] 37 (0, 0)) att5_0_9 NB188_0.out (by simp)) (KeepBut.trans att5_0_1 hk (.inl rfl)) (hb) (hi) ?_; clear BK187 BK188 HK HB HI0; intro BK187 BK188 HK HB HI0; (try clear hb); (try clear hb2); (try clear hk); (try clear hi)) | ((with_reducible refine gate_dst (N := 34) rfl ?_); refine Kd.R_lit (Kd.int .i64) _ 3 ?hg (N := 34) ?hd (xs := ([(-1), 0, 3, 23, 24, 1000000000, 1000000001] : List Int)) (inner := [.int .i64 (-1), .int .i64 0, .int .i64 3, .int .i64 23, .int .i64 24, .int .i64 1000000000, .int .i64 1000000001]) (ok := fun _ => True) (okp := fun _ => True) ?hr ?hp (fun _ hk => hk) trivial (Below.refl _ _) (Nat.le_refl _) (by simp) ?_; (case hd => rfl); (case hg => rfl); (case hr => first | (go_simp; done) | (go_simp; rfl)); (case hp => exact (Reps.one (show Kd.M (Kd.int .i64) _ _ _ (-1) [.int .i64 (-1)] from rfl) (Reps.one (show Kd.M (Kd.int .i64) _ _ _ 0 [.int .i64 0] from rfl) (Reps.one (show Kd.M (Kd.int .i64) _ _ _ 3 [.int .i64 3] from rfl) (Reps.one (show Kd.M (Kd.int .i64) _ _ _ 23 [.int .i64 23] from rfl) (Reps.one (show Kd.M (Kd.int .i64) _ _ _ 24 [.int .i64 24] from rfl) (Reps.one (show Kd.M (Kd.int .i64) _ _ _ 1000000000 [.int .i64 1000000000] from rfl) (Reps.one (show Kd.M (Kd.int .i64) _ _ _ 1000000001 [.int .i64 1000000001] from rfl) (Reps.none _ _))))))))); intro v205 w53 ho54 hb hg_ hnew_; clear hg_ hnew_; (first | rw [← Ny204.out] at ho54 | (simp only [Int.reduceToNat] at ho54; rw [← Ny204.out] at ho54)); refine swap6_ (Kd.R_lower ho54 (keep_size (w := w) (g := g) (row := none) att5_0_1)) (IsS170.below (by repeat (first | (with_reducible first | exact HI0.out | apply IsS170.alloc | apply IsS170.drewN | apply IsS170.drew | apply IsS170.set_1 | apply IsS170.set_2 | refine IsS170.far ?_ NB0_187.out _ | refine IsS170.far ?_ NB0_188.out _) | exact HI0.out)) hb) (blk_below (g := gb187) (o := .cells #[.int .i64 a1_0, .int .i64 a1_1, .int .i64 a1_2, .int .i64 a1_3, .int .i64 a1_4] 37 (0, 0)) att5_0_2 hb) (blk_below (g := gb188) (o := .cells #[.int .i64 0, .int .i64 0, .int .i64 0, .int .i64 0, .int .i64 0] 37 (0, 0)) att5_0_9 hb) (KeepBut.trans att5_0_1 (KeepBut.of_below hb g none) (.inl rfl)) (below_step (by repeat (first | (with_reducible first | exact HB.out | apply below_alloc | apply pw_below_drewN | apply below_drew1 | refine below_set ?_ (IsS170.ge HI0.out) | refine below_set ?_ GE187.out | refine below_set ?_ GE188.out) | exact HB.out)) hb) ?_; clear HI0 BK187 BK188 HK HB; intro HO206 HI0 BK187 BK188 HK HB; clear hb ho54; obtain ⟨Ao55, co55, eo55⟩ := Kd.R_slice HO206.out; subst eo55) | ((with_reducible refine gate_callee (f := 161) rfl ?_); refine goesL_ (some 35) rfl rfl Try.func161 (by kernel_rfl) rfl #[.pointer (some ⟨g, 0, none⟩), .slice Ao55 y204.length co55] rfl atgM_ ?_; (with_reducible refine (spec_l1PickInt.calls g s0_0 t190 t191 _ _ y204 t207 t208 t209 w0 _ ?side1 ?side2 ?side3 ?side4 ?side5 A49.out).mono ?_); (case side1 => repeat (first | (with_reducible first | exact HI0.out | apply IsS170.alloc | apply IsS170.drewN | apply IsS170.drew | apply IsS170.set_1 | apply IsS170.set_2 | refine IsS170.far ?_ NB0_187.out _ | refine IsS170.far ?_ NB0_188.out _) | exact HI0.out)); (case side2 => repeat (first | (with_reducible first | exact HB.out | apply below_alloc | apply pw_below_drewN | apply below_drew1 | refine below_set ?_ (IsS170.ge HI0.out) | refine below_set ?_ GE187.out | refine below_set ?_ GE188.out) | exact HB.out)); (case side3 => repeat (first | exact (Kd.R_reads' HO206.out).2.2 | (with_reducible refine Kd.C_alloc ?_ _) | (with_reducible refine Kd.C_drewN ?_ _) | (with_reducible refine Kd.C_drew ?_))); (case side4 => exact (Kd.R_reads' HO206.out).2.1); (case side5 => exact far_slice (IsS170.own_ne HI0.out HO206.out (by decide))); rintro e w56 ⟨rfl, hi, hb, hk⟩; refine ⟨_, rfl, ?_⟩; refine swap6_ (KeepBut.blk hk (g' := gb187) (o := .cells #[.int .i64 a1_0, .int .i64 a1_1, .int .i64 a1_2, .int .i64 a1_3, .int .i64 a1_4] 37 (0, 0)) att5_0_2 NB187_0.out (by simp)) (KeepBut.blk hk (g' := gb188) (o := .cells #[.int .i64 0, .int .i64 0, .int .i64 0, .int .i64 0, .int .i64 0] 37 (0, 0)) att5_0_9 NB188_0.out (by simp)) (Kd.R_mono (Kd.R_keep (IsS170.apart (show IsS170 w0 _ g s0_0 t190 t191 from by repeat (first | (with_reducible first | exact HI0.out | apply IsS170.alloc | apply IsS170.drewN | apply IsS170.drew | apply IsS170.set_1 | apply IsS170.set_2 | refine IsS170.far ?_ NB0_187.out _ | refine IsS170.far ?_ NB0_188.out _) | exact HI0.out)) (by exact toR_ (HO206.out)) (by decide)) hk (fun _ h => h.2)) (fun _ h => h.1)) (KeepBut.trans att5_0_1 hk (.inl rfl)) (hb) (hi) ?_; clear BK187 BK188 HO206 HK HB HI0; intro BK187 BK188 HO206 HK HB HI0; (try clear hb); (try clear hb2); (try clear hk); (try clear hi); have hnb57 := NB187_188.out; have hnc57 := NB188_187.out; have hnb58 := NB187_0.out; have hnc58 := NB0_187.out; obtain ⟨hcz59_0, hcz59_1, hcz59_2, hcz59_3, hcz59_4, hfz59_0, hfz59_1, hfz59_2, hfz59_3, hfz59_4⟩ := blkB5_ BK187; have hnb60 := NB188_0.out; have hnc60 := NB0_188.out; obtain ⟨hcz61_0, hcz61_1, hcz61_2, hcz61_3, hcz61_4, hfz61_0, hfz61_1, hfz61_2, hfz61_3, hfz61_4⟩ := blkB5_ BK188))
      refine bodyPost_ret (results_cell_row rfl _ _ gb188 37 #[.int .i64 a1_0, .int .i64 a1_1, .int .i64 a1_2, .int .i64 a1_3, .int .i64 t207] (0, 0) _ rfl (by (with_reducible repeat (first | refine blk_drewN ?_ _ | refine blk_drew ?_ | refine blk_alloc ?_ _)); refine blk_put (cs := #[.int .i64 a1_0, .int .i64 a1_1, .int .i64 a1_2, .int .i64 a1_3, .int .i64 0]) ?_ 4 _ rfl; (with_reducible repeat (first | refine blk_drewN ?_ _ | refine blk_drew ?_ | refine blk_alloc ?_ _)); refine blk_put (cs := #[.int .i64 a1_0, .int .i64 a1_1, .int .i64 a1_2, .int .i64 0, .int .i64 0]) ?_ 3 _ rfl; (with_reducible repeat (first | refine blk_drewN ?_ _ | refine blk_drew ?_ | refine blk_alloc ?_ _)); refine blk_put (cs := #[.int .i64 a1_0, .int .i64 a1_1, .int .i64 0, .int .i64 0, .int .i64 0]) ?_ 2 _ rfl; (with_reducible repeat (first | refine blk_drewN ?_ _ | refine blk_drew ?_ | refine blk_alloc ?_ _)); refine blk_put (cs := #[.int .i64 a1_0, .int .i64 0, .int .i64 0, .int .i64 0, .int .i64 0]) ?_ 1 _ rfl; (with_reducible repeat (first | refine blk_drewN ?_ _ | refine blk_drew ?_ | refine blk_alloc ?_ _)); refine blk_put (cs := #[.int .i64 0, .int .i64 0, .int .i64 0, .int .i64 0, .int .i64 0]) ?_ 0 _ rfl; (with_reducible repeat (first | refine blk_drewN ?_ _ | refine blk_drew ?_ | refine blk_alloc ?_ _)); refine blk_far ?_ NB188_187.out _; (with_reducible repeat (first | refine blk_drewN ?_ _ | refine blk_drew ?_ | refine blk_alloc ?_ _)); exact BK188.out) Try.underlying37 rfl (by kernel_rfl)) rfl ?_
      exact ⟨retT_, by repeat (first | (with_reducible first | exact HI0.out | apply IsS170.alloc | apply IsS170.drewN | apply IsS170.drew | apply IsS170.set_1 | apply IsS170.set_2 | refine IsS170.far ?_ NB0_187.out _ | refine IsS170.far ?_ NB0_188.out _) | exact HI0.out), by repeat (first | (with_reducible first | exact HB.out | apply below_alloc | apply pw_below_drewN | apply below_drew1 | refine below_set ?_ (IsS170.ge HI0.out) | refine below_set ?_ GE187.out | refine below_set ?_ GE188.out) | exact HB.out), att5_0_1⟩
     ·rw [if_neg c48] at H
      have c48b0 := beq_eq_false_iff_ne.mpr c48
      have c48b1 := bne_iff_ne.mpr c48
      simp only [Option.some.injEq, Prod.mk.injEq] at H
      obtain ⟨rfl, rfl, rfl, rfl, rfl, rfl, rfl⟩ := H
      go_enter Try.func96, Try.ntmps96
      go_wp2_with (first | ((with_reducible refine gate_dst (N := 3) rfl ?_); refine box_event ?hg (N := 3) ?hd (cs := #[.int .i64 a1_0, .int .i64 a1_1, .int .i64 a1_2, .int .i64 a1_3, .int .i64 a1_4]) (t := 37) ?hr ?_; (case hd => rfl); (case hg => rfl); (case hr => first | (go_simp; done) | (go_simp; rfl)); intro gb187 hg w62 hbox hb; refine swap8_ (IsS170.below att5_0_11 hb) (KeepBut.trans att5_0_5 (KeepBut.of_below hb g none) (.inl rfl)) (below_step att5_0_12 hb) (hbox) ((by rw [hg]; exact (keep_size (w := w) (g := g) (row := none) att5_0_5) : w.heap.size ≤ gb187)) ((Nat.le_trans HW0.out (by rw [hg]; exact (keep_size (w := w) (g := g) (row := none) att5_0_5) : w.heap.size ≤ gb187) : w0.heap.size ≤ gb187)) ((by rw [hg]; exact Nat.ne_of_lt (IsS170.lt (show IsS170 w0 _ g s0_0 s0_1 s0_2 from by repeat (first | (with_reducible first | exact HI0.out | apply IsS170.alloc | apply IsS170.drewN | apply IsS170.drew | apply IsS170.set_1 | apply IsS170.set_2) | exact HI0.out))) : g ≠ gb187)) ((by rw [hg]; exact Nat.ne_of_gt (IsS170.lt (show IsS170 w0 _ g s0_0 s0_1 s0_2 from by repeat (first | (with_reducible first | exact HI0.out | apply IsS170.alloc | apply IsS170.drewN | apply IsS170.drew | apply IsS170.set_1 | apply IsS170.set_2) | exact HI0.out))) : gb187 ≠ g)) ?_; clear HI0 HK HB; intro HI0 HK HB BK187 GW187 GE187 NB0_187 NB187_0; clear hb hbox hg) | ((with_reducible refine gate_dst (N := 4) rfl ?_); refine box_event ?hg (N := 4) ?hd (cs := #[.int .i64 0, .int .i64 0, .int .i64 0, .int .i64 0, .int .i64 0]) (t := 37) ?hr ?_; (case hd => rfl); (case hg => rfl); (case hr => first | (go_simp; done) | (go_simp; rfl)); intro gb188 hg w63 hbox hb; refine swap11_ (IsS170.below att5_0_10 hb) (blk_below (g := gb187) (o := .cells #[.int .i64 a1_0, .int .i64 a1_1, .int .i64 a1_2, .int .i64 a1_3, .int .i64 a1_4] 37 (0, 0)) att5_0_2 hb) (KeepBut.trans att5_0_3 (KeepBut.of_below hb g none) (.inl rfl)) (below_step att5_0_13 hb) (hbox) ((by rw [hg]; exact (keep_size (w := w) (g := g) (row := none) att5_0_3) : w.heap.size ≤ gb188)) ((Nat.le_trans HW0.out (by rw [hg]; exact (keep_size (w := w) (g := g) (row := none) att5_0_3) : w.heap.size ≤ gb188) : w0.heap.size ≤ gb188)) ((by rw [hg]; exact Nat.ne_of_lt (blk_lt (g := gb187) (o := .cells #[.int .i64 a1_0, .int .i64 a1_1, .int .i64 a1_2, .int .i64 a1_3, .int .i64 a1_4] 37 (0, 0)) att5_0_2) : gb187 ≠ gb188)) ((by rw [hg]; exact Nat.ne_of_gt (blk_lt (g := gb187) (o := .cells #[.int .i64 a1_0, .int .i64 a1_1, .int .i64 a1_2, .int .i64 a1_3, .int .i64 a1_4] 37 (0, 0)) att5_0_2) : gb188 ≠ gb187)) ((by rw [hg]; exact Nat.ne_of_lt (IsS170.lt (show IsS170 w0 _ g s0_0 s0_1 s0_2 from by repeat (first | (with_reducible first | exact HI0.out | apply IsS170.alloc | apply IsS170.drewN | apply IsS170.drew | apply IsS170.set_1 | apply IsS170.set_2 | refine IsS170.far ?_ NB0_187.out _) | exact HI0.out))) : g ≠ gb188)) ((by rw [hg]; exact Nat.ne_of_gt (IsS170.lt (show IsS170 w0 _ g s0_0 s0_1 s0_2 from by repeat (first | (with_reducible first | exact HI0.out | apply IsS170.alloc | apply IsS170.drewN | apply IsS170.drew | apply IsS170.set_1 | apply IsS170.set_2 | refine IsS170.far ?_ NB0_187.out _) | exact HI0.out))) : gb188 ≠ g)) ?_; clear HI0 BK187 HK HB; intro HI0 BK187 HK HB BK188 GW188 GE188 NB187_188 NB188_187 NB0_188 NB188_0; clear hb hbox hg) | ((with_reducible refine gate_callee (f := 97) rfl ?_); refine goesL_ (some 6) rfl rfl Try.func97 (by kernel_rfl) rfl #[.pointer (some ⟨g, 0, none⟩), .int .i64 8] rfl atgM_ ?_; (with_reducible refine (spec_l1Below.calls g s0_0 s0_1 s0_2 8 t189 t190 t191 w0 _ ?side1 ?side2 A3.out).mono ?_); (case side1 => repeat (first | (with_reducible first | exact HI0.out | apply IsS170.alloc | apply IsS170.drewN | apply IsS170.drew | apply IsS170.set_1 | apply IsS170.set_2 | refine IsS170.far ?_ NB0_187.out _ | refine IsS170.far ?_ NB0_188.out _) | exact HI0.out)); (case side2 => repeat (first | (with_reducible first | exact HB.out | apply below_alloc | apply pw_below_drewN | apply below_drew1 | refine below_set ?_ (IsS170.ge HI0.out) | refine below_set ?_ GE187.out | refine below_set ?_ GE188.out) | exact HB.out)); rintro e w64 ⟨rfl, hi, hb, hk⟩; refine ⟨_, rfl, ?_⟩; refine swap5_ (KeepBut.blk hk (g' := gb187) (o := .cells #[.int .i64 a1_0, .int .i64 a1_1, .int .i64 a1_2, .int .i64 a1_3, .int .i64 a1_4] 37 (0, 0)) att5_0_2 NB187_0.out (by simp)) (KeepBut.blk hk (g' := gb188) (o := .cells #[.int .i64 0, .int .i64 0, .int .i64 0, .int .i64 0, .int .i64 0] 37 (0, 0)) att5_0_9 NB188_0.out (by simp)) (KeepBut.trans att5_0_1 hk (.inl rfl)) (hb) (hi) ?_; clear BK187 BK188 HK HB HI0; intro BK187 BK188 HK HB HI0; (try clear hb); (try clear hb2); (try clear hk); (try clear hi); have hnb65 := NB187_188.out; have hnc65 := NB188_187.out; have hnb66 := NB187_0.out; have hnc66 := NB0_187.out; obtain ⟨hcz67_0, hcz67_1, hcz67_2, hcz67_3, hcz67_4, hfz67_0, hfz67_1, hfz67_2, hfz67_3, hfz67_4⟩ := blkB5_ BK187; have hnb68 := NB188_0.out; have hnc68 := NB0_188.out; obtain ⟨hcz69_0, hcz69_1, hcz69_2, hcz69_3, hcz69_4, hfz69_0, hfz69_1, hfz69_2, hfz69_3, hfz69_4⟩ := blkB5_ BK188))
      refine bodyPost_ret (results_cell_row rfl _ _ gb188 37 #[.int .i64 a1_0, .int .i64 a1_1, .int .i64 a1_2, .int .i64 a1_3, .int .i64 a1_4] (0, 0) _ rfl (by (with_reducible repeat (first | refine blk_drewN ?_ _ | refine blk_drew ?_ | refine blk_alloc ?_ _)); refine blk_put (cs := #[.int .i64 a1_0, .int .i64 a1_1, .int .i64 a1_2, .int .i64 a1_3, .int .i64 0]) ?_ 4 _ rfl; (with_reducible repeat (first | refine blk_drewN ?_ _ | refine blk_drew ?_ | refine blk_alloc ?_ _)); refine blk_put (cs := #[.int .i64 a1_0, .int .i64 a1_1, .int .i64 a1_2, .int .i64 0, .int .i64 0]) ?_ 3 _ rfl; (with_reducible repeat (first | refine blk_drewN ?_ _ | refine blk_drew ?_ | refine blk_alloc ?_ _)); refine blk_put (cs := #[.int .i64 a1_0, .int .i64 a1_1, .int .i64 0, .int .i64 0, .int .i64 0]) ?_ 2 _ rfl; (with_reducible repeat (first | refine blk_drewN ?_ _ | refine blk_drew ?_ | refine blk_alloc ?_ _)); refine blk_put (cs := #[.int .i64 a1_0, .int .i64 0, .int .i64 0, .int .i64 0, .int .i64 0]) ?_ 1 _ rfl; (with_reducible repeat (first | refine blk_drewN ?_ _ | refine blk_drew ?_ | refine blk_alloc ?_ _)); refine blk_put (cs := #[.int .i64 0, .int .i64 0, .int .i64 0, .int .i64 0, .int .i64 0]) ?_ 0 _ rfl; (with_reducible repeat (first | refine blk_drewN ?_ _ | refine blk_drew ?_ | refine blk_alloc ?_ _)); exact BK188.out) Try.underlying37 rfl (by kernel_rfl)) rfl ?_
      exact ⟨retT_, by repeat (first | (with_reducible first | exact HI0.out | apply IsS170.alloc | apply IsS170.drewN | apply IsS170.drew | apply IsS170.set_1 | apply IsS170.set_2 | refine IsS170.far ?_ NB0_187.out _ | refine IsS170.far ?_ NB0_188.out _) | exact HI0.out), by repeat (first | (with_reducible first | exact HB.out | apply below_alloc | apply pw_below_drewN | apply below_drew1 | refine below_set ?_ (IsS170.ge HI0.out) | refine below_set ?_ GE187.out | refine below_set ?_ GE188.out) | exact HB.out), att5_0_1⟩

end Go.Proofs.Ytonlhgkpmjefkaa.XFnEmitted
