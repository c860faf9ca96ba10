/- Each Go function that the law reaches as a Lean function, and that Go comes to just its answer; written by this session's xprint.py over the kit's printer. -/
import Derived.Test.YtonlhgkpmjefkaaXFnExactPipex0
import Derived.Test.YtonlhgkpmjefkaaXFnExactPipex3
import Derived.Test.YtonlhgkpmjefkaaXFnExactPipex5
namespace Go.Proofs.Ytonlhgkpmjefkaa.XFnExactPipe
open Go.RowKit Go.Proofs.YtonlhgkpmjefkaaW.PrintWords Go.Proofs.YtonlhgkpmjefkaaW.PrintLast Go.Proofs.YtonlhgkpmjefkaaW.PrintMore
attribute [local go_sem] max2_int min2_int max_two min_two max_three min_three max_four min_four   -- for this text's walks alone
set_option linter.unusedVariables false
set_option linter.unusedSimpArgs false

theorem att7_0_0 {p : Prop} (h : p := by repeat (first | (with_reducible first | exact HB.out | apply below_alloc | apply pw_below_drewN | apply below_drew1 | refine below_set ?_ GE167.out | refine below_set ?_ GE174.out) | exact HB.out)) : p := h
theorem att7_0_1 {p : Prop} (h : p := by repeat (first | (with_reducible first | exact HB.out | apply below_alloc | apply pw_below_drewN | apply below_drew1) | exact HB.out)) : p := h
theorem att7_0_2 {p : Prop} (h : p := by (try simp only [List.map_toArray, List.map_cons, List.map_nil]); first | done | rfl | (simp only [List.length_drop, List.length_take]; rfl)) : p := h
theorem att7_0_3 {p : Prop} (h : p := by (with_reducible repeat (first | refine blk_drewN ?_ _ | refine blk_drew ?_ | refine blk_alloc ?_ _)); exact BK167.out) : p := h
theorem att7_0_4 {p : Prop} (h : p := by repeat (first | (with_reducible first | exact HB.out | apply below_alloc | apply pw_below_drewN | apply below_drew1 | refine below_set ?_ GE167.out) | exact HB.out)) : p := h
theorem att7_0_5 {p : Prop} (h : p := by (with_reducible repeat (first | refine blk_drewN ?_ _ | refine blk_drew ?_ | refine blk_alloc ?_ _)); exact BK174.out) : p := h
theorem att7_0_6 {p : Prop} (h : p := by (with_reducible repeat (first | refine blk_drewN ?_ _ | refine blk_drew ?_ | refine blk_alloc ?_ _)); refine blk_far ?_ NB167_174.out _; (with_reducible repeat (first | refine blk_drewN ?_ _ | refine blk_drew ?_ | refine blk_alloc ?_ _)); exact BK167.out) : p := h
theorem att7_0_7 {p : Prop} (h : p := by (with_reducible repeat (first | refine blk_drewN ?_ _ | refine blk_drew ?_ | refine blk_alloc ?_ _)); refine blk_put (cs := #[.slice Ao11 y171.length co11, u175001]) ?_ 1 _ rfl; (with_reducible repeat (first | refine blk_drewN ?_ _ | refine blk_drew ?_ | refine blk_alloc ?_ _)); exact BK174.out) : p := h
theorem att7_0_8 {p : Prop} (h : p := by (with_reducible repeat (first | apply Kd.R_alloc | apply Kd.R_drewN | apply Kd.R_drew)); exact HO_9.out) : p := h
theorem att7_0_9 {p : Prop} (h : p := by (with_reducible repeat (first | refine blk_drewN ?_ _ | refine blk_drew ?_ | refine blk_alloc ?_ _)); refine blk_put (cs := #[.slice none 0 0, .slice none 0 0]) ?_ 1 _ rfl; (with_reducible repeat (first | refine blk_drewN ?_ _ | refine blk_drew ?_ | refine blk_alloc ?_ _)); refine blk_put (cs := #[.slice none 0 0, .slice none 0 0]) ?_ 0 _ rfl; (with_reducible repeat (first | refine blk_drewN ?_ _ | refine blk_drew ?_ | refine blk_alloc ?_ _)); exact BK167.out) : p := h
theorem att7_0_10 {p : Prop} (h : p := by (with_reducible repeat (first | apply Kd.S_alloc | apply Kd.S_drewN | apply Kd.S_drew)); exact HO_175001.out) : p := h
theorem att7_0_11 {p : Prop} (h : p := by (with_reducible repeat (first | apply Kd.R_alloc | apply Kd.R_drewN | apply Kd.R_drew)); exact HO_175000.out) : p := h
theorem att7_0_12 {p : Prop} (h : p := by first | (with_reducible assumption) | assumption) : p := h
theorem att7_0_13 {p : Prop} (h : p := by repeat (first | exact Drawn0.refl _ | apply Drawn0.step)) : p := h
theorem att7_0_14 {p : Prop} (h : p := by (with_reducible repeat (first | apply Kd.R_alloc | apply Kd.R_drewN | apply Kd.R_drew)); exact HO173.out) : p := h
theorem att7_0_15 {p : Prop} (h : p := by first | rfl | (simp; done) | (simp [*]; done)) : p := h
theorem att7_0_16 {p : Prop} (h : p := by (with_reducible repeat (first | apply Kd.R_alloc | apply Kd.R_drewN | apply Kd.R_drew)); exact (Kd.R_mono (Kd.R_far (p := ⟨gb174, 1, none⟩) (Kd.R_types HO_175000.out BK174.out (by decide)) (fun _ hk => hk.2) (.slice Ao54 y193.length co54)) (fun _ h_ => h_.1))) : p := h
theorem att7_0_17 {p : Prop} (h : p := by (with_reducible repeat (first | apply Kd.R_alloc | apply Kd.R_drewN | apply Kd.R_drew)); exact (Kd.R_mono (Kd.R_far (p := ⟨gb174, 1, none⟩) (Kd.R_types HO_175000.out BK174.out (by decide)) (fun _ hk => hk.2) (.slice Ao45 y193.length co45)) (fun _ h_ => h_.1))) : p := h
theorem att7_0_18 {p : Prop} (h : p := by (with_reducible repeat (first | apply Kd.S_alloc | apply Kd.S_drewN | apply Kd.S_drew)); exact (Kd.S_mono (Kd.S_far (p := ⟨gb174, 1, none⟩) (Kd.S_types HO195.out BK174.out (by decide)) (fun _ hk => hk.2) (.slice Ao54 y193.length co54)) (fun _ h_ => h_.1))) : p := h
theorem att7_0_19 {p : Prop} (h : p := by (with_reducible repeat (first | apply Kd.S_alloc | apply Kd.S_drewN | apply Kd.S_drew)); exact (Kd.S_mono (Kd.S_far (p := ⟨gb174, 1, none⟩) (Kd.S_types HO195.out BK174.out (by decide)) (fun _ hk => hk.2) (.slice Ao45 y193.length co45)) (fun _ h_ => h_.1))) : p := h
theorem att7_0_20 {p : Prop} (h : p := by (with_reducible repeat (first | apply Kd.S_alloc | apply Kd.S_drewN | apply Kd.S_drew)); exact Kd.S_mono HO_175001.out (fun k_ hk => ⟨trivial, fun e_ => hk e_⟩)) : p := h
theorem att7_0_21 {p : Prop} (h : p := by (with_reducible repeat (first | apply Kd.R_alloc | apply Kd.R_drewN | apply Kd.R_drew)); exact Kd.R_mono HO182.out (fun _ hk => hk.2)) : p := h
theorem att7_0_22 {p : Prop} (h : p := by (with_reducible repeat (first | apply Kd.R_alloc | apply Kd.R_drewN | apply Kd.R_drew)); exact Kd.R_mono HO178.out (fun _ hk => hk.2)) : p := h
theorem att7_0_23 {p : Prop} (h : p := by (with_reducible repeat (first | apply Kd.R_alloc | apply Kd.R_drewN | apply Kd.R_drew)); exact HO178.out) : p := h
/-! ### spec_Pipe: function 35 -/
mutual
def spec_Pipe.j0 : Nat → List Int → List (S37) → List (S37) → Bool → List Int → Option (List Int × (List (List (S37))) × Bool)
 | 0, _, _, _, _, _ => none
 | k + 1, x1, x7, x9, x35, x175000 => if x35 = true then (some (([] : List Int), ([] : List (List (S37))), false)) else (if ([] : List (List (S37))).length < 5864062014805 then (spec_Pipe.l0 k x1 x9 0 x175000 (([] : List (List (S37))) ++ [x7])) else (none))
def spec_Pipe.l0 : Nat → List Int → List (S37) → Int → List Int → List (List (S37)) → Option (List Int × (List (List (S37))) × Bool)
 | 0, _, _, _, _, _ => none
 | k + 1, x1, x9, x11, x175000, x175001 => if (wrap64 (x11 + 1)) < (x1.length : Int) then ((spec_PassBody.f x11 (wrap64 (x11 + 1))).bind fun bt186 => (if x175001.length < 5864062014805 then (spec_Pipe.l0 k x1 x9 (wrap64 (x11 + 1)) x175000 (x175001 ++ [bt186.1])) else (none))) else (if x175001.length < 5864062014805 then ((some (x175001 ++ [x9] : List (List (S37)))).bind fun y193 => ((spec_ProgOk.f k x175000 y193).bind fun t196 => (if t196 = true then (some (x175000, y193, true)) else (some (([] : List Int), ([] : List (List (S37))), false))))) else (none))
end
def spec_Pipe.f (k : Nat) (a0 : Int) (l1 : List Int) : Option (List Int × (List (List (S37))) × Bool) := (some (([] : List Int) : List Int)).bind fun y168 => (if y168.length + l1.length < 17592186044416 then ((some (y168 ++ l1 : List Int)).bind fun y171 => ((spec_MakeBody.f a0 0).bind fun bt175 => ((spec_SumBody.f (wrap64 ((l1.length : Int) - 1))).bind fun bt179 => (if bt175.2 = true then (spec_Pipe.j0 k l1 bt175.1 bt179.1 (!bt179.2) y171) else (spec_Pipe.j0 k l1 bt175.1 bt179.1 true y171))))) else (none))
theorem spec_Pipe.mono_l : ∀ k, (∀ y0 y1 y2 y3 y4, LeO (spec_Pipe.j0 k y0 y1 y2 y3 y4) (spec_Pipe.j0 (k + 1) y0 y1 y2 y3 y4)) ∧ (∀ y0 y1 y2 y3 y4, LeO (spec_Pipe.l0 k y0 y1 y2 y3 y4) (spec_Pipe.l0 (k + 1) y0 y1 y2 y3 y4))
 | 0 => ⟨fun _ _ _ _ _ r h => by simp [spec_Pipe.j0] at h, fun _ _ _ _ _ r h => by simp [spec_Pipe.l0] at h⟩
 | k + 1 => by
  obtain ⟨ih0, ih1⟩ := spec_Pipe.mono_l k
  refine ⟨?_, ?_⟩
  ·intro y0 y1 y2 y3 y4
   unfold spec_Pipe.j0
   repeat' first
   | (with_reducible exact ih0 _ _ _ _ _)
   | (with_reducible exact ih1 _ _ _ _ _)
   | (with_reducible exact spec_ProgOk.mono _ _ _)
   | (with_reducible exact LeO.refl _)
   | (with_reducible exact LeO.none _)
   | (with_reducible refine LeO.ite ?_ ?_)
   | (with_reducible refine LeO.bind ?_ (fun _ => ?_))
   | exact ih0 _ _ _ _ _
   | exact ih1 _ _ _ _ _
   | exact spec_ProgOk.mono _ _ _
   | exact LeO.none _
   | refine LeO.ite ?_ ?_
   | refine LeO.bind ?_ (fun _ => ?_)
  ·intro y0 y1 y2 y3 y4
   unfold spec_Pipe.l0
   repeat' first
   | (with_reducible exact ih0 _ _ _ _ _)
   | (with_reducible exact ih1 _ _ _ _ _)
   | (with_reducible exact spec_ProgOk.mono _ _ _)
   | (with_reducible exact LeO.refl _)
   | (with_reducible exact LeO.none _)
   | (with_reducible refine LeO.ite ?_ ?_)
   | (with_reducible refine LeO.bind ?_ (fun _ => ?_))
   | exact ih0 _ _ _ _ _
   | exact ih1 _ _ _ _ _
   | exact spec_ProgOk.mono _ _ _
   | exact LeO.none _
   | refine LeO.ite ?_ ?_
   | refine LeO.bind ?_ (fun _ => ?_)
theorem spec_Pipe.mono : ∀ a0 a1 k, LeO (spec_Pipe.f k a0 a1) (spec_Pipe.f (k + 1) a0 a1) := by
 intro a0 a1 k
 obtain ⟨ih0, ih1⟩ := spec_Pipe.mono_l k
 unfold spec_Pipe.f
 repeat' first
   | (with_reducible exact ih0 _ _ _ _ _)
   | (with_reducible exact ih1 _ _ _ _ _)
   | (with_reducible exact spec_ProgOk.mono _ _ _)
   | (with_reducible exact LeO.refl _)
   | (with_reducible exact LeO.none _)
   | (with_reducible refine LeO.ite ?_ ?_)
   | (with_reducible refine LeO.bind ?_ (fun _ => ?_))
   | exact ih0 _ _ _ _ _
   | exact ih1 _ _ _ _ _
   | exact spec_ProgOk.mono _ _ _
   | exact LeO.none _
   | refine LeO.ite ?_ ?_
   | refine LeO.bind ?_ (fun _ => ?_)
set_option maxHeartbeats 80000000 in
set_option maxRecDepth 100000 in
theorem spec_Pipe.calls (k : Nat) (a0 : Int) (A1 : Option Addr) (c1 : Nat) (l1 : List Int) (r1 : List Int) (r2 : List (List (S37))) (r3 : Bool) (w : World) (hr1 : Kd.C (Kd.int .i64) w A1 l1.length l1) (hc1 : l1.length ≤ c1) (h : spec_Pipe.f k a0 l1 = some (r1, r2, r3)) :
  Calls Try.prog 35 #[.int .i64 a0, .slice A1 l1.length c1] w fun e w' => ∃ v0_ v1_ : Value, e = .returned (.tuple #[.agg #[v0_, v1_], .bool r3]) ∧ Kd.R (Kd.int .i64) 3 w' w.heap.size (fun _ => True) v0_ r1 ∧ Kd.S (Kd.slice 37 k37) 51 w' w.heap.size (fun _ => True) v1_ r2 ∧ Below w.heap.size w w' := by
 have hu30 := Try.underlying30
 have HR1 := Aside0.mk hr1
 have HC1 := Aside0.mk hc1
 clear hr1 hc1
 have HB := Aside0.mk (Below.refl w.heap.size w)
 have H : ((some (([] : List Int) : List Int)).bind fun y168 => (if y168.length + l1.length < 17592186044416 then ((some (y168 ++ l1 : List Int)).bind fun y171 => ((spec_MakeBody.f a0 0).bind fun bt175 => ((spec_SumBody.f (wrap64 ((l1.length : Int) - 1))).bind fun bt179 => (if bt175.2 = true then (spec_Pipe.j0 k l1 bt175.1 bt179.1 (!bt179.2) y171) else (spec_Pipe.j0 k l1 bt175.1 bt179.1 true y171))))) else (none))) = some (r1, r2, r3) := h
 clear h
 obtain ⟨y168, hy168⟩ : ∃ y_ : List Int, y_ = (([] : List Int)) := ⟨_, rfl⟩
 replace H : (if y168.length + l1.length < 17592186044416 then ((some (y168 ++ l1 : List Int)).bind fun y171 => ((spec_MakeBody.f a0 0).bind fun bt175 => ((spec_SumBody.f (wrap64 ((l1.length : Int) - 1))).bind fun bt179 => (if bt175.2 = true then (spec_Pipe.j0 k l1 bt175.1 bt179.1 (!bt179.2) y171) else (spec_Pipe.j0 k l1 bt175.1 bt179.1 true y171))))) else (none)) = some (r1, r2, r3) := by first | (rw [hy168]; with_reducible exact H) | (have H2_ := (Option.bind_some _ _).symm.trans H; rw [hy168]; with_reducible exact H2_) | (have H2_ := (Option.bind_some _ _).symm.trans H; with_reducible exact H2_) | with_reducible exact H | (rw [hy168]; exact H) | exact H
 have Ny168 := Aside0.mk hy168
 clear hy168
 by_cases c3 : y168.length + l1.length < 17592186044416
 ·rw [if_pos c3] at H
  have LMc3 := Aside0.mk c3
  clear c3
  obtain ⟨y171, hy171⟩ : ∃ y_ : List Int, y_ = (y168 ++ l1) := ⟨_, rfl⟩
  replace H : ((spec_MakeBody.f a0 0).bind fun bt175 => ((spec_SumBody.f (wrap64 ((l1.length : Int) - 1))).bind fun bt179 => (if bt175.2 = true then (spec_Pipe.j0 k l1 bt175.1 bt179.1 (!bt179.2) y171) else (spec_Pipe.j0 k l1 bt175.1 bt179.1 true y171)))) = some (r1, r2, r3) := by first | (rw [hy171]; with_reducible exact H) | (have H2_ := (Option.bind_some _ _).symm.trans H; rw [hy171]; with_reducible exact H2_) | (have H2_ := (Option.bind_some _ _).symm.trans H; with_reducible exact H2_) | with_reducible exact H | (rw [hy171]; exact H) | exact H
  have Ny171 := Aside0.mk hy171
  clear hy171
  replace H := Option.bind_eq_some_iff.mp H
  obtain ⟨⟨t175, t176⟩, A40, H⟩ := H
  (try dsimp only at H)
  have A4 := Aside0.mk A40
  clear A40
  replace H := Option.bind_eq_some_iff.mp H
  obtain ⟨⟨t179, t180⟩, A50, H⟩ := H
  (try dsimp only at H)
  have A5 := Aside0.mk A50
  clear A50
  have HC6 := Aside0.mk H
  clear H
  go_enter Try.func35, Try.ntmps35
  go_upto_region 4 with (first | ((with_reducible refine gate_dst (N := 4) rfl ?_); refine box_event ?hg (N := 4) ?hd (cs := #[.slice none 0 0, .slice none 0 0]) (t := 30) ?hr ?_; (case hd => rfl); (case hg => rfl); (case hr => first | (go_simp; done) | (go_simp; rfl)); intro gb167 hg w7 hbox hb; have n0_ := Aside0.mk (below_step att7_0_1 hb); have n1_ := Aside0.mk (hbox); have n2_ := Aside0.mk ((by rw [hg]; exact (below_size att7_0_1) : w.heap.size ≤ gb167)); have n3_ := Aside0.mk ((by rw [hg]; exact (below_size att7_0_1) : w.heap.size ≤ gb167)); clear HB; have HB := n0_; have BK167 := n1_; have GW167 := n2_; have GE167 := n3_; clear n0_ n1_ n2_ n3_; clear hb hbox hg) | ((with_reducible refine gate_dst (N := 14) rfl ?_); refine Kd.R_lit (Kd.int .i64) _ 3 ?hg (N := 14) ?hd (xs := ([] : List Int)) (inner := []) (ok := fun _ => True) (okp := fun _ => True) ?hr ?hp (fun _ hk => hk) trivial (Below.refl _ _) (Nat.le_refl _) (by simp) ?_; (case hd => rfl); (case hg => rfl); (case hr => first | (go_simp; done) | (go_simp; rfl)); (case hp => exact (Reps.none _ _)); intro v169 w8 ho9 hb hg_ hnew_; clear hg_ hnew_; (first | rw [← Ny168.out] at ho9 | (simp only [Int.reduceToNat] at ho9; rw [← Ny168.out] at ho9)); have n0_ := Aside0.mk (Kd.R_lower ho9 (below_size att7_0_4)); have n1_ := Aside0.mk (blk_below (g := gb167) (o := .cells #[.slice none 0 0, .slice none 0 0] 30 (0, 0)) att7_0_3 hb); have n2_ := Aside0.mk (below_step att7_0_4 hb); clear BK167; clear HB; have HO170 := n0_; have BK167 := n1_; have HB := n2_; clear n0_ n1_ n2_; clear hb ho9) | ((with_reducible refine gate_builtin (b := .append) (xs := #[.tmp 14, .tmp 15]) rfl ?_); at_builtin; refine Kd.R_append_rows (Kd.int .i64) (w0 := w) w.heap.size rfl (.tmp 14) (.tmp 15) 22 3 (.int .i64 0) 8 rfl Try.underlying22 info3 rfl (by decide) (by omega) v169 y168 l1 _ _ _ (fun _ => True) (fun _ => False) rfl rfl ?aO ?aR (fun _ _ h => h) (fun _ h => h.elim) ?aF ?aB ?aS ?aL ?_; (case aR => repeat (first | exact (Kd.C_below HR1.out HB.out) | (with_reducible refine Kd.C_alloc ?_ _) | (with_reducible refine Kd.C_drewN ?_ _) | (with_reducible refine Kd.C_drew ?_))); (case aB => exact att7_0_4); (case aF => exact (fun _ _ => trivial)); (case aO => exact (by (with_reducible repeat (first | apply Kd.R_alloc | apply Kd.R_drewN | apply Kd.R_drew)); exact HO170.out)); (case aS => exact (below_size att7_0_4)); (case aL => have := LMc3.out; omega); intro v172 w10 ho hb hg hat; rw [← Ny171.out] at ho; have n0_ := Aside0.mk (blk_grown (g := gb167) (o := .cells #[.slice none 0 0, .slice none 0 0] 30 (0, 0)) att7_0_3 hg (Kd.R_ne HO170.out BK167.out (by decide))); have n1_ := Aside0.mk (hb); have n2_ := Aside0.mk (ho); clear BK167; clear HB; clear HO170; have BK167 := n0_; have HB := n1_; have HO173 := n2_; clear n0_ n1_ n2_; clear ho hb hg hat; obtain ⟨Ao11, co11, eo11⟩ := Kd.R_slice HO173.out; subst eo11) | ((with_reducible refine gate_dst (N := 6) rfl ?_); refine box_event ?hg (N := 6) ?hd (cs := #[.slice none 0 0, .slice none 0 0]) (t := 30) ?hr ?_; (case hd => rfl); (case hg => rfl); (case hr => first | (go_simp; done) | (go_simp; rfl)); intro gb174 hg w12 hbox hb; have n0_ := Aside0.mk (Kd.R_below att7_0_14 hb); have n1_ := Aside0.mk (blk_below (g := gb167) (o := .cells #[.slice none 0 0, .slice none 0 0] 30 (0, 0)) att7_0_3 hb); have n2_ := Aside0.mk (below_step att7_0_4 hb); have n3_ := Aside0.mk (hbox); have n4_ := Aside0.mk ((by rw [hg]; exact (below_size att7_0_4) : w.heap.size ≤ gb174)); have n5_ := Aside0.mk ((by rw [hg]; exact (below_size att7_0_4) : w.heap.size ≤ gb174)); have n6_ := Aside0.mk ((by rw [hg]; exact Nat.ne_of_lt (blk_lt (g := gb167) (o := .cells #[.slice none 0 0, .slice none 0 0] 30 (0, 0)) att7_0_3) : gb167 ≠ gb174)); have n7_ := Aside0.mk ((by rw [hg]; exact Nat.ne_of_gt (blk_lt (g := gb167) (o := .cells #[.slice none 0 0, .slice none 0 0] 30 (0, 0)) att7_0_3) : gb174 ≠ gb167)); clear HO173; clear BK167; clear HB; have HO173 := n0_; have BK167 := n1_; have HB := n2_; have BK174 := n3_; have GW174 := n4_; have GE174 := n5_; have NB167_174 := n6_; have NB174_167 := n7_; clear n0_ n1_ n2_ n3_ n4_ n5_ n6_ n7_; clear hb hbox hg; have hnb13 := NB174_167.out; have hnc13 := NB167_174.out; have hcz14_0 : w12.cell? ⟨gb174, 0, none⟩ = some (.slice none 0 0) := (blk_cell BK174.out 0).trans rfl; have hcz14_1 : w12.cell? ⟨gb174, 1, none⟩ = some (.slice none 0 0) := (blk_cell BK174.out 1).trans rfl; have hfz14_0 := blk_frozen BK174.out 0; have hfz14_1 := blk_frozen BK174.out 1) | ((with_reducible refine gate_callee (f := 44) rfl ?_); refine goesL_ (some 20) rfl rfl Try.func44 (by kernel_rfl) rfl #[.int .i64 a0, .int .i64 0] rfl att7_0_2 ?_; (with_reducible refine (spec_MakeBody.calls a0 0 t175 t176 _ A4.out).mono ?_); rintro e w15 ⟨v177, rfl, ho0, hb⟩; refine ⟨_, rfl, ?_⟩; have n0_ := Aside0.mk (Kd.R_below (by (with_reducible repeat (first | apply Kd.R_alloc | apply Kd.R_drewN | apply Kd.R_drew)); exact (Kd.R_mono (Kd.R_far (p := ⟨gb174, 1, none⟩) (Kd.R_far (p := ⟨gb174, 0, none⟩) (Kd.R_types HO173.out BK174.out (by decide)) (fun _ hk => hk.2) (.slice Ao11 y171.length co11)) (fun _ hk => hk.2) (.slice none 0 0)) (fun _ h_ => h_.1))) hb); have n1_ := Aside0.mk (Kd.R_lower ho0 (below_size att7_0_0)); have n2_ := Aside0.mk (blk_below (g := gb167) (o := .cells #[.slice none 0 0, .slice none 0 0] 30 (0, 0)) (by (with_reducible repeat (first | refine blk_drewN ?_ _ | refine blk_drew ?_ | refine blk_alloc ?_ _)); refine blk_far ?_ NB167_174.out _; (with_reducible repeat (first | refine blk_drewN ?_ _ | refine blk_drew ?_ | refine blk_alloc ?_ _)); refine blk_far ?_ NB167_174.out _; (with_reducible repeat (first | refine blk_drewN ?_ _ | refine blk_drew ?_ | refine blk_alloc ?_ _)); exact BK167.out) hb); have n3_ := Aside0.mk (blk_below (g := gb174) (o := .cells #[.slice Ao11 y171.length co11, .slice none 0 0] 30 (0, 0)) (by (with_reducible repeat (first | refine blk_drewN ?_ _ | refine blk_drew ?_ | refine blk_alloc ?_ _)); refine blk_put (cs := #[.slice Ao11 y171.length co11, .slice none 0 0]) ?_ 1 _ rfl; (with_reducible repeat (first | refine blk_drewN ?_ _ | refine blk_drew ?_ | refine blk_alloc ?_ _)); refine blk_put (cs := #[.slice none 0 0, .slice none 0 0]) ?_ 0 _ rfl; (with_reducible repeat (first | refine blk_drewN ?_ _ | refine blk_drew ?_ | refine blk_alloc ?_ _)); exact BK174.out) hb); have n4_ := Aside0.mk (below_step att7_0_0 hb); clear HO173; clear BK167; clear BK174; clear HB; have HO173 := n0_; have HO178 := n1_; have BK167 := n2_; have BK174 := n3_; have HB := n4_; clear n0_ n1_ n2_ n3_ n4_; (try clear hb); (try clear hb2); (try clear hk); (try clear hi); (try clear ho0)) | ((with_reducible refine gate_callee (f := 50) rfl ?_); refine goesL_ (some 27) rfl rfl Try.func50 (by kernel_rfl) rfl #[.int .i64 (wrap64 ((l1.length : Int) - 1))] rfl att7_0_2 ?_; (with_reducible refine (spec_SumBody.calls (wrap64 ((l1.length : Int) - 1)) t179 t180 _ A5.out).mono ?_); rintro e w16 ⟨v181, rfl, ho0, hb⟩; refine ⟨_, rfl, ?_⟩; have n0_ := Aside0.mk (Kd.R_below att7_0_14 hb); have n1_ := Aside0.mk (Kd.R_elder' att7_0_23 (Kd.R_base ho0) hb); have n2_ := Aside0.mk (Kd.R_lower (Kd.R_new' ho0 (Kd.R_lt att7_0_23)) (below_size att7_0_0)); have n3_ := Aside0.mk (blk_below (g := gb167) (o := .cells #[.slice none 0 0, .slice none 0 0] 30 (0, 0)) att7_0_3 hb); have n4_ := Aside0.mk (blk_below (g := gb174) (o := .cells #[.slice Ao11 y171.length co11, .slice none 0 0] 30 (0, 0)) att7_0_5 hb); have n5_ := Aside0.mk (below_step att7_0_0 hb); clear HO173; clear HO178; clear BK167; clear BK174; clear HB; have HO173 := n0_; have HO178 := n1_; have HO182 := n2_; have BK167 := n3_; have BK174 := n4_; have HB := n5_; clear n0_ n1_ n2_ n3_ n4_ n5_; (try clear hb); (try clear hb2); (try clear hk); (try clear hi); (try clear ho0)))
  (try simp only [Act.put, List.setIfInBounds_toArray, List.set_cons_zero, List.set_cons_succ])
  go_cut [35] (fun v35 wc => ∃ (kq : Nat) (x35_5 : Bool), v35 = .bool x35_5 ∧ Aside0 (spec_Pipe.j0 kq l1 t175 t179 x35_5 y171 = some (r1, r2, r3)) ∧ Aside0 (kq ≤ k) ∧ Aside0 (Kd.R k37 37 wc w.heap.size (fun k_ => some k_ ≠ (v181 : Value).ownBlock) v177 t175) ∧ Aside0 (Kd.R k37 37 wc w.heap.size (fun k_ => some k_ ≠ (v177 : Value).ownBlock) v181 t179) ∧ Aside0 (Kd.R (Kd.int .i64) 3 wc w.heap.size (fun _ => True) (.slice Ao11 y171.length co11) y171) ∧ Aside0 (wc.heap[gb167]? = some (.cells #[(.slice none 0 0), (.slice none 0 0)] 30 (0, 0))) ∧ Aside0 (wc.heap[gb174]? = some (.cells #[(.slice Ao11 y171.length co11), (.slice none 0 0)] 30 (0, 0))) ∧ Aside0 (Below w.heap.size w wc))
  case first =>
   have H := HC6.out
   clear HC6
   by_cases c17 : t176 = true
   ·subst c17
    rw [if_pos rfl] at H
    have H' := Aside0.mk H
    clear H
    go_wp2
    go_meet
    case rel => exact ⟨_, (!t180), att7_0_15, H', ⟨by first | omega | exact Nat.le_refl _⟩, ⟨att7_0_22⟩, ⟨att7_0_21⟩, ⟨att7_0_14⟩, ⟨att7_0_3⟩, ⟨att7_0_5⟩, ⟨att7_0_0⟩⟩
   ·replace c17 := Bool.eq_false_iff.mpr c17
    subst c17
    rw [if_neg (show ¬ (false = true) by decide)] at H
    have H' := Aside0.mk H
    clear H
    go_wp2
    go_meet
    case rel => exact ⟨_, (true), att7_0_15, H', ⟨by first | omega | exact Nat.le_refl _⟩, ⟨att7_0_22⟩, ⟨att7_0_21⟩, ⟨att7_0_14⟩, ⟨att7_0_3⟩, ⟨att7_0_5⟩, ⟨att7_0_0⟩⟩
  case rest =>
   clear HC6
   try clear c1
   try clear p2
   try clear c3
   try clear c4
   try clear c5
   try clear p6
   try clear c13
   try clear c17
   try clear hcz14_0
   try clear hcz14_1
   try clear hfz14_0
   try clear hfz14_1
   obtain ⟨kq, x35_5, rfl, HA, HJ5, HO_7, HO_9, HO_175000, BK167, BK174, HB⟩ := hcut
   cases kq with
   | zero => exact absurd HA.out (by simp [spec_Pipe.j0])
   | succ kj5 =>
    have H := HA.out
    clear HA
    simp only [spec_Pipe.j0] at H
    by_cases c18 : x35_5 = true
    ·subst c18
     rw [if_pos rfl] at H
     simp only [Option.some.injEq, Prod.mk.injEq] at H
     obtain ⟨rfl, rfl, rfl⟩ := H
     have hnb19 := NB167_174.out
     have hnc19 := NB174_167.out
     have hcz20_0 : wc.cell? ⟨gb167, 0, none⟩ = some (.slice none 0 0) := (blk_cell BK167.out 0).trans rfl
     have hcz20_1 : wc.cell? ⟨gb167, 1, none⟩ = some (.slice none 0 0) := (blk_cell BK167.out 1).trans rfl
     have hfz20_0 := blk_frozen BK167.out 0
     have hfz20_1 := blk_frozen BK167.out 1
     go_wp2
     refine bodyPost_ret (results_ct rfl _ _ gb167 30 #[.slice none 0 0, .slice none 0 0] (0, 0) _ rfl att7_0_9 Try.underlying30 rfl (by kernel_rfl)) rfl ?_
     exact ⟨_, _, by first | rfl | (simp [errW_none, errW_some] <;> rfl) | (simp [*, errW_none, errW_some] <;> rfl), by first | exact Kd.R_nil _ _ _ _ _ | exact Kd.N_nil _ _ _ _ _ | exact Kd.V_nil _ _ _ _ _ | exact Kd.Q_nil _ _ _ _ _ | exact Kd.S_nil _ _ _ _ _, by first | exact Kd.S_nil _ _ _ _ _ | exact Kd.N_nil _ _ _ _ _ | exact Kd.V_nil _ _ _ _ _ | exact Kd.Q_nil _ _ _ _ _ | exact Kd.R_nil _ _ _ _ _, att7_0_0⟩
    ·replace c18 := Bool.eq_false_iff.mpr c18
     subst c18
     rw [if_neg (show ¬ (false = true) by decide)] at H
     by_cases c21 : ([] : List (List (S37))).length < 5864062014805
     ·rw [if_pos c21] at H
      have LMc21 := Aside0.mk c21
      clear c21
      obtain ⟨y183, hy183⟩ : ∃ y_ : List (List (S37)), y_ = (([] : List (List (S37))) ++ [t175]) := ⟨_, rfl⟩
      replace H : (spec_Pipe.l0 kj5 l1 t179 0 y171 y183) = some (r1, r2, r3) := by first | (rw [hy183]; with_reducible exact H) | (have H2_ := (Option.bind_some _ _).symm.trans H; rw [hy183]; with_reducible exact H2_) | (have H2_ := (Option.bind_some _ _).symm.trans H; with_reducible exact H2_) | with_reducible exact H | (rw [hy183]; exact H) | exact H
      have Ny183 := Aside0.mk hy183
      clear hy183
      have H' := Aside0.mk H
      clear H
      have hnb22 := NB174_167.out
      have hnc22 := NB167_174.out
      have hcz23_0 : wc.cell? ⟨gb174, 0, none⟩ = some (.slice Ao11 y171.length co11) := (blk_cell BK174.out 0).trans rfl
      have hcz23_1 : wc.cell? ⟨gb174, 1, none⟩ = some (.slice none 0 0) := (blk_cell BK174.out 1).trans rfl
      have hfz23_0 := blk_frozen BK174.out 0
      have hfz23_1 := blk_frozen BK174.out 1
      obtain ⟨Ao25, co25, eo25⟩ := Kd.R_slice HO_7.out
      subst eo25
      go_wp2_with (first | ((with_reducible refine gate_builtin (b := .append) (xs := #[.tmp 38, .tmp 40]) rfl ?_); at_builtin; refine Kd.S_append (Kd.slice 37 k37) (w0 := w) w.heap.size rfl (.tmp 38) (.tmp 40) 28 51 (.slice none 0 0) 24 rfl Try.underlying28 info51 rfl (by decide) (by omega) (.slice none 0 0) ([] : List (List (S37))) t175 [.slice Ao25 t175.length co25] (fun k_ => some k_ ≠ (v181 : Value).ownBlock) (fun k_ => some k_ = (.slice Ao25 t175.length co25 : Value).ownBlock) rfl rfl ?aP (fun k_ hk_ => ((Kd.R_mono (ok' := fun k_ => ((fun k_ => some k_ ≠ (v181 : Value).ownBlock)) k_ ∧ some k_ ≠ (.slice none 0 0 : Value).ownBlock) (HO_7.out) (fun k_ hk => ⟨hk, (by simp [Value.ownBlock])⟩))).1 k_ hk_.symm) ?aF ?aO ?aB ?aS ?aL ?_; (case aP => exact Kd.M_row (Kd.R_mono (Kd.R_tight rfl (Kd.R_mono (ok' := fun k_ => ((fun k_ => some k_ ≠ (v181 : Value).ownBlock)) k_ ∧ some k_ ≠ (.slice none 0 0 : Value).ownBlock) (HO_7.out) (fun k_ hk => ⟨hk, (by simp [Value.ownBlock])⟩))) (fun _ h_ => h_))); (case aB => exact att7_0_0); (case aF => exact (fun k_ hk => Kd.fresh' (Kd.R_lt att7_0_8) k_ hk)); (case aO => exact ((Kd.S_nil _ _ _ _ _))); (case aS => exact (below_size att7_0_0)); (case aL => have := LMc21.out; omega); intro v184 w24 ho hb hg hat; rw [← Ny183.out] at ho; have n0_ := Aside0.mk (Kd.R_grown att7_0_8 hg (fun _ _ => by simp [Value.ownBlock])); have n1_ := Aside0.mk (Kd.R_grown att7_0_11 hg (fun _ _ => by simp [Value.ownBlock])); have n2_ := Aside0.mk (blk_grown (g := gb167) (o := .cells #[.slice none 0 0, .slice none 0 0] 30 (0, 0)) att7_0_3 hg (by simp [Value.ownBlock])); have n3_ := Aside0.mk (blk_grown (g := gb174) (o := .cells #[.slice Ao11 y171.length co11, .slice none 0 0] 30 (0, 0)) att7_0_5 hg (by simp [Value.ownBlock])); have n4_ := Aside0.mk (hb); have n5_ := Aside0.mk (ho); clear HO_9; clear HO_175000; clear BK167; clear BK174; clear HB; clear HO_7; have HO_9 := n0_; have HO_175000 := n1_; have BK167 := n2_; have BK174 := n3_; have HB := n4_; have HO185 := n5_; clear n0_ n1_ n2_ n3_ n4_ n5_; clear ho hb hg hat; obtain ⟨Ao26, co26, eo26⟩ := Kd.S_slice HO185.out; subst eo26; have hcz27_0 : w24.cell? ⟨gb174, 0, none⟩ = some (.slice Ao11 y171.length co11) := (blk_cell BK174.out 0).trans rfl; have hcz27_1 : w24.cell? ⟨gb174, 1, none⟩ = some (.slice none 0 0) := (blk_cell BK174.out 1).trans rfl; have hfz27_0 := blk_frozen BK174.out 0; have hfz27_1 := blk_frozen BK174.out 1))
      go_loopg [11] kj5 (fun kq v11 w' => ∃ (x11_2 : Int) (x175001_2 : List (List (S37))) (u175001 : Value), v11 = .int .i64 x11_2 ∧ Aside0 (spec_Pipe.l0 kq l1 t179 x11_2 y171 x175001_2 = some (r1, r2, r3)) ∧ Aside0 (kq ≤ kj5) ∧ Aside0 (Kd.R k37 37 w' w.heap.size (fun _ => True) v181 t179) ∧ Aside0 (Kd.R (Kd.int .i64) 3 w' w.heap.size (fun _ => True) (.slice Ao11 y171.length co11) y171) ∧ Aside0 (Kd.S (Kd.slice 37 k37) 51 w' w.heap.size (fun k_ => some k_ ≠ (v181 : Value).ownBlock) u175001 x175001_2) ∧ Aside0 (w'.heap[gb167]? = some (.cells #[(.slice none 0 0), (.slice none 0 0)] 30 (0, 0))) ∧ Aside0 (w'.heap[gb174]? = some (.cells #[(.slice Ao11 y171.length co11), u175001] 30 (0, 0))) ∧ Aside0 (Below w.heap.size w w'))
      case atStart => exact ⟨(0), (y183), (.slice Ao26 y183.length co26), att7_0_15, H', ⟨Nat.le_refl _⟩, ⟨by (with_reducible repeat (first | apply Kd.R_alloc | apply Kd.R_drewN | apply Kd.R_drew)); exact Kd.R_mono (Kd.R_far (p := ⟨gb174, 1, none⟩) (Kd.R_types HO_9.out BK174.out (by decide)) (fun _ hk => hk.2) (.slice Ao26 y183.length co26)) (fun _ hk => trivial)⟩, ⟨by (with_reducible repeat (first | apply Kd.R_alloc | apply Kd.R_drewN | apply Kd.R_drew)); exact Kd.R_mono (Kd.R_far (p := ⟨gb174, 1, none⟩) (Kd.R_types HO_175000.out BK174.out (by decide)) (fun _ hk => hk.2) (.slice Ao26 y183.length co26)) (fun _ hk => trivial)⟩, ⟨by (with_reducible repeat (first | apply Kd.S_alloc | apply Kd.S_drewN | apply Kd.S_drew)); exact Kd.S_mono (Kd.S_far (p := ⟨gb174, 1, none⟩) (Kd.S_types HO185.out BK174.out (by decide)) (fun _ hk => hk.2) (.slice Ao26 y183.length co26)) (fun _ hk => hk.1)⟩, ⟨att7_0_6⟩, ⟨by (with_reducible repeat (first | refine blk_drewN ?_ _ | refine blk_drew ?_ | refine blk_alloc ?_ _)); refine blk_put (cs := #[.slice Ao11 y171.length co11, .slice none 0 0]) ?_ 1 _ rfl; (with_reducible repeat (first | refine blk_drewN ?_ _ | refine blk_drew ?_ | refine blk_alloc ?_ _)); exact BK174.out⟩, ⟨att7_0_0⟩⟩
      case round =>
       clear H'
       try clear c1
       try clear c2
       try clear p2
       try clear c3
       try clear c4
       try clear c5
       try clear p6
       try clear c13
       try clear c17
       try clear c18
       try clear c19
       try clear c21
       try clear c22
       try clear hcz14_0
       try clear hcz14_1
       try clear hcz20_0
       try clear hcz20_1
       try clear hcz23_0
       try clear hcz23_1
       try clear hcz27_0
       try clear hcz27_1
       try clear hfz14_0
       try clear hfz14_1
       try clear hfz20_0
       try clear hfz20_1
       try clear hfz23_0
       try clear hfz23_1
       try clear hfz27_0
       try clear hfz27_1
       try clear p2
       try clear p6
       obtain ⟨x11_2, x175001_2, u175001, rfl, HA, HK2, HO_9, HO_175000, HO_175001, BK167, BK174, HB⟩ := hrel
       cases gk with
       | zero => exact absurd HA.out (by simp [spec_Pipe.l0])
       | succ k2 =>
        have H := HA.out
        clear HA
        simp only [spec_Pipe.l0] at H
        by_cases c28 : (wrap64 (x11_2 + 1)) < (l1.length : Int)
        ·rw [if_pos c28] at H
         have c28b0 : decide ((wrap64 (x11_2 + 1)) < (l1.length : Int)) = true := decide_eq_true c28
         clear c28
         replace H := Option.bind_eq_some_iff.mp H
         obtain ⟨⟨t186, t187⟩, A290, H⟩ := H
         (try dsimp only at H)
         have A29 := Aside0.mk A290
         clear A290
         by_cases c30 : x175001_2.length < 5864062014805
         ·rw [if_pos c30] at H
          have LMc30 := Aside0.mk c30
          clear c30
          obtain ⟨y190, hy190⟩ : ∃ y_ : List (List (S37)), y_ = (x175001_2 ++ [t186]) := ⟨_, rfl⟩
          replace H : (spec_Pipe.l0 k2 l1 t179 (wrap64 (x11_2 + 1)) y171 y190) = some (r1, r2, r3) := by first | (rw [hy190]; with_reducible exact H) | (have H2_ := (Option.bind_some _ _).symm.trans H; rw [hy190]; with_reducible exact H2_) | (have H2_ := (Option.bind_some _ _).symm.trans H; with_reducible exact H2_) | with_reducible exact H | (rw [hy190]; exact H) | exact H
          have Ny190 := Aside0.mk hy190
          clear hy190
          have H' := Aside0.mk H
          clear H
          go_wp2_with (first | ((with_reducible refine gate_callee (f := 47) rfl ?_); refine goesL_ (some 54) rfl rfl Try.func47 (by kernel_rfl) rfl #[.int .i64 x11_2, .int .i64 (wrap64 (x11_2 + 1))] rfl att7_0_2 ?_; (with_reducible refine (spec_PassBody.calls x11_2 (wrap64 (x11_2 + 1)) t186 t187 _ A29.out).mono ?_); rintro e w31 ⟨v188, rfl, ho0, hb⟩; refine ⟨_, rfl, ?_⟩; have n0_ := Aside0.mk (Kd.R_elder' att7_0_8 (Kd.R_base ho0) hb); have n1_ := Aside0.mk (Kd.R_below att7_0_11 hb); have n2_ := Aside0.mk (Kd.S_elder' att7_0_10 (Kd.R_base ho0) hb); have n3_ := Aside0.mk (Kd.R_lower (Kd.R_new' ho0 (Kd.R_lt att7_0_8)) (below_size att7_0_0)); have n4_ := Aside0.mk (blk_below (g := gb167) (o := .cells #[.slice none 0 0, .slice none 0 0] 30 (0, 0)) att7_0_3 hb); have n5_ := Aside0.mk (blk_below (g := gb174) (o := .cells #[.slice Ao11 y171.length co11, u175001] 30 (0, 0)) att7_0_5 hb); have n6_ := Aside0.mk (below_step att7_0_0 hb); clear HO_9; clear HO_175000; clear HO_175001; clear BK167; clear BK174; clear HB; have HO_9 := n0_; have HO_175000 := n1_; have HO_175001 := n2_; have HO189 := n3_; have BK167 := n4_; have BK174 := n5_; have HB := n6_; clear n0_ n1_ n2_ n3_ n4_ n5_ n6_; (try clear hb); (try clear hb2); (try clear hk); (try clear hi); (try clear ho0); have hnb32 := NB174_167.out; have hnc32 := NB167_174.out; have hcz33_0 : w31.cell? ⟨gb174, 0, none⟩ = some (.slice Ao11 y171.length co11) := (blk_cell BK174.out 0).trans rfl; have hcz33_1 : w31.cell? ⟨gb174, 1, none⟩ = some (u175001) := (blk_cell BK174.out 1).trans rfl; have hfz33_0 := blk_frozen BK174.out 0; have hfz33_1 := blk_frozen BK174.out 1; obtain ⟨Ao35, co35, eo35⟩ := Kd.R_slice HO189.out; subst eo35) | ((with_reducible refine gate_builtin (b := .append) (xs := #[.tmp 58, .tmp 60]) rfl ?_); at_builtin; refine Kd.S_append (Kd.slice 37 k37) (w0 := w) w.heap.size rfl (.tmp 58) (.tmp 60) 28 51 (.slice none 0 0) 24 rfl Try.underlying28 info51 rfl (by decide) (by omega) u175001 x175001_2 t186 [.slice Ao35 t186.length co35] (fun k_ => some k_ ≠ (v181 : Value).ownBlock) (fun k_ => some k_ = (.slice Ao35 t186.length co35 : Value).ownBlock) rfl rfl ?aP (fun k_ hk_ => ((Kd.R_mono (ok' := fun k_ => ((fun k_ => some k_ ≠ (v181 : Value).ownBlock)) k_ ∧ some k_ ≠ (u175001 : Value).ownBlock) (Kd.R_apart' (HO189.out) (Kd.S_typed HO_175001.out) (by decide)) (fun k_ hk => ⟨hk.1.2, hk.2⟩))).1 k_ hk_.symm) ?aF ?aO ?aB ?aS ?aL ?_; (case aP => exact Kd.M_row (Kd.R_mono (Kd.R_tight rfl (Kd.R_mono (ok' := fun k_ => ((fun k_ => some k_ ≠ (v181 : Value).ownBlock)) k_ ∧ some k_ ≠ (u175001 : Value).ownBlock) (Kd.R_apart' (HO189.out) (Kd.S_typed HO_175001.out) (by decide)) (fun k_ hk => ⟨hk.1.2, hk.2⟩))) (fun _ h_ => h_))); (case aB => exact att7_0_0); (case aF => exact (fun k_ hk => Kd.fresh' (Kd.R_lt att7_0_8) k_ hk)); (case aO => exact (by (with_reducible repeat (first | apply Kd.S_alloc | apply Kd.S_drewN | apply Kd.S_drew)); exact Kd.S_mono HO_175001.out (fun k_ hk => ⟨hk.1, fun e_ => hk.2 e_⟩))); (case aS => exact (below_size att7_0_0)); (case aL => have := LMc30.out; omega); intro v191 w34 ho hb hg hat; rw [← Ny190.out] at ho; have n0_ := Aside0.mk (Kd.R_over' att7_0_8 (Kd.S_typed att7_0_10) (by decide) hg); have n1_ := Aside0.mk (Kd.R_over' att7_0_11 (Kd.S_typed att7_0_10) (by decide) hg); have n2_ := Aside0.mk (blk_grown (g := gb167) (o := .cells #[.slice none 0 0, .slice none 0 0] 30 (0, 0)) att7_0_3 hg (Kd.S_ne HO_175001.out BK167.out (by decide))); have n3_ := Aside0.mk (blk_grown (g := gb174) (o := .cells #[.slice Ao11 y171.length co11, u175001] 30 (0, 0)) att7_0_5 hg (Kd.S_ne HO_175001.out BK174.out (by decide))); have n4_ := Aside0.mk (hb); have n5_ := Aside0.mk (ho); clear HO_9; clear HO_175000; clear BK167; clear BK174; clear HB; clear HO_175001; clear HO189; have HO_9 := n0_; have HO_175000 := n1_; have BK167 := n2_; have BK174 := n3_; have HB := n4_; have HO192 := n5_; clear n0_ n1_ n2_ n3_ n4_ n5_; clear ho hb hg hat; obtain ⟨Ao36, co36, eo36⟩ := Kd.S_slice HO192.out; subst eo36; have hcz37_0 : w34.cell? ⟨gb174, 0, none⟩ = some (.slice Ao11 y171.length co11) := (blk_cell BK174.out 0).trans rfl; have hcz37_1 : w34.cell? ⟨gb174, 1, none⟩ = some (u175001) := (blk_cell BK174.out 1).trans rfl; have hfz37_0 := blk_frozen BK174.out 0; have hfz37_1 := blk_frozen BK174.out 1))
          go_roundg k2
          case measure => have := HJ5.out; have := HK2.out; omega
          case rel => exact ⟨(wrap64 (x11_2 + 1)), (y190), (.slice Ao36 y190.length co36), att7_0_15, H', ⟨by have := HJ5.out; have := HK2.out; omega⟩, ⟨by (with_reducible repeat (first | apply Kd.R_alloc | apply Kd.R_drewN | apply Kd.R_drew)); exact Kd.R_mono (Kd.R_far (p := ⟨gb174, 1, none⟩) (Kd.R_types HO_9.out BK174.out (by decide)) (fun _ hk => hk.2) (.slice Ao36 y190.length co36)) (fun _ hk => trivial)⟩, ⟨by (with_reducible repeat (first | apply Kd.R_alloc | apply Kd.R_drewN | apply Kd.R_drew)); exact Kd.R_mono (Kd.R_far (p := ⟨gb174, 1, none⟩) (Kd.R_types HO_175000.out BK174.out (by decide)) (fun _ hk => hk.2) (.slice Ao36 y190.length co36)) (fun _ hk => trivial)⟩, ⟨by (with_reducible repeat (first | apply Kd.S_alloc | apply Kd.S_drewN | apply Kd.S_drew)); exact Kd.S_mono (Kd.S_far (p := ⟨gb174, 1, none⟩) (Kd.S_types HO192.out BK174.out (by decide)) (fun _ hk => hk.2) (.slice Ao36 y190.length co36)) (fun _ hk => hk.1)⟩, ⟨att7_0_6⟩, ⟨att7_0_7⟩, ⟨att7_0_0⟩⟩
         ·rw [if_neg c30] at H
          exact absurd H (by simp)
        ·rw [if_neg c28] at H
         have c28b0 : decide ((wrap64 (x11_2 + 1)) < (l1.length : Int)) = false := decide_eq_false c28
         clear c28
         by_cases c38 : x175001_2.length < 5864062014805
         ·rw [if_pos c38] at H
          have LMc38 := Aside0.mk c38
          clear c38
          obtain ⟨y193, hy193⟩ : ∃ y_ : List (List (S37)), y_ = (x175001_2 ++ [t179]) := ⟨_, rfl⟩
          replace H : ((spec_ProgOk.f k2 y171 y193).bind fun t196 => (if t196 = true then (some (y171, y193, true)) else (some (([] : List Int), ([] : List (List (S37))), false)))) = some (r1, r2, r3) := by first | (rw [hy193]; with_reducible exact H) | (have H2_ := (Option.bind_some _ _).symm.trans H; rw [hy193]; with_reducible exact H2_) | (have H2_ := (Option.bind_some _ _).symm.trans H; with_reducible exact H2_) | with_reducible exact H | (rw [hy193]; exact H) | exact H
          have Ny193 := Aside0.mk hy193
          clear hy193
          replace H := Option.bind_eq_some_iff.mp H
          obtain ⟨t196, A390, H⟩ := H
          (try dsimp only at H)
          have A39 := Aside0.mk A390
          clear A390
          by_cases c40 : t196 = true
          ·subst c40
           rw [if_pos rfl] at H
           simp only [Option.some.injEq, Prod.mk.injEq] at H
           obtain ⟨rfl, rfl, rfl⟩ := H
           have hnb41 := NB174_167.out
           have hnc41 := NB167_174.out
           have hcz42_0 : wr.cell? ⟨gb174, 0, none⟩ = some (.slice Ao11 y171.length co11) := (blk_cell BK174.out 0).trans rfl
           have hcz42_1 : wr.cell? ⟨gb174, 1, none⟩ = some (u175001) := (blk_cell BK174.out 1).trans rfl
           have hfz42_0 := blk_frozen BK174.out 0
           have hfz42_1 := blk_frozen BK174.out 1
           obtain ⟨Ao44, co44, eo44⟩ := Kd.R_slice HO_9.out
           subst eo44
           go_wp2_with (first | ((with_reducible refine gate_builtin (b := .append) (xs := #[.tmp 64, .tmp 66]) rfl ?_); at_builtin; refine Kd.S_append (Kd.slice 37 k37) (w0 := w) w.heap.size rfl (.tmp 64) (.tmp 66) 28 51 (.slice none 0 0) 24 rfl Try.underlying28 info51 rfl (by decide) (by omega) u175001 x175001_2 t179 [.slice Ao44 t179.length co44] (fun _ => True) (fun k_ => some k_ = (.slice Ao44 t179.length co44 : Value).ownBlock) rfl rfl ?aP (fun k_ hk_ => ((Kd.R_mono (ok' := fun k_ => ((fun _ => True)) k_ ∧ some k_ ≠ (u175001 : Value).ownBlock) (Kd.R_apart' (HO_9.out) (Kd.S_typed HO_175001.out) (by decide)) (fun k_ hk => ⟨trivial, hk.2⟩))).1 k_ hk_.symm) ?aF ?aO ?aB ?aS ?aL ?_; (case aP => exact Kd.M_row (Kd.R_mono (Kd.R_tight rfl (Kd.R_mono (ok' := fun k_ => ((fun _ => True)) k_ ∧ some k_ ≠ (u175001 : Value).ownBlock) (Kd.R_apart' (HO_9.out) (Kd.S_typed HO_175001.out) (by decide)) (fun k_ hk => ⟨trivial, hk.2⟩))) (fun _ h_ => h_))); (case aB => exact att7_0_0); (case aF => exact (fun _ _ => trivial)); (case aO => exact att7_0_20); (case aS => exact (below_size att7_0_0)); (case aL => have := LMc38.out; omega); intro v194 w43 ho hb hg hat; rw [← Ny193.out] at ho; have n0_ := Aside0.mk (Kd.R_over' att7_0_11 (Kd.S_typed att7_0_10) (by decide) hg); have n1_ := Aside0.mk (blk_grown (g := gb167) (o := .cells #[.slice none 0 0, .slice none 0 0] 30 (0, 0)) att7_0_3 hg (Kd.S_ne HO_175001.out BK167.out (by decide))); have n2_ := Aside0.mk (blk_grown (g := gb174) (o := .cells #[.slice Ao11 y171.length co11, u175001] 30 (0, 0)) att7_0_5 hg (Kd.S_ne HO_175001.out BK174.out (by decide))); have n3_ := Aside0.mk (hb); have n4_ := Aside0.mk (ho); clear HO_175000; clear BK167; clear BK174; clear HB; clear HO_175001; clear HO_9; have HO_175000 := n0_; have BK167 := n1_; have BK174 := n2_; have HB := n3_; have HO195 := n4_; clear n0_ n1_ n2_ n3_ n4_; clear ho hb hg hat; obtain ⟨Ao45, co45, eo45⟩ := Kd.S_slice HO195.out; subst eo45; have hcz46_0 : w43.cell? ⟨gb174, 0, none⟩ = some (.slice Ao11 y171.length co11) := (blk_cell BK174.out 0).trans rfl; have hcz46_1 : w43.cell? ⟨gb174, 1, none⟩ = some (u175001) := (blk_cell BK174.out 1).trans rfl; have hfz46_0 := blk_frozen BK174.out 0; have hfz46_1 := blk_frozen BK174.out 1) | ((with_reducible refine gate_callee (f := 124) rfl ?_); refine goesL_ (some 70) rfl rfl Try.func124 (by kernel_rfl) rfl #[.agg #[.slice Ao11 y171.length co11, .slice Ao45 y193.length co45]] rfl att7_0_2 ?_; (with_reducible refine (spec_ProgOk.calls k2 _ _ y171 _ _ y193 true _ ?side1 ?side2 ?side3 ?side4 A39.out).mono ?_); (case side1 => refine (Kd.R_reads' (e := 3) (base := w.heap.size) (ok := fun k_ => True) (n := y171.length) (c := co11) ?_).2.2; exact att7_0_17); (case side2 => exact (Kd.R_reads' HO_175000.out).2.1); (case side3 => refine (Kd.S_reads' (e := 51) (base := w.heap.size) (ok := fun k_ => True) (n := y193.length) (c := co45) ?_).2.2; exact att7_0_19); (case side4 => exact (Kd.S_reads' HO195.out).2.1); rintro e w47 ⟨rfl, hb⟩; refine ⟨_, rfl, ?_⟩; have n0_ := Aside0.mk (Kd.R_below att7_0_17 hb); have n1_ := Aside0.mk (Kd.S_below att7_0_19 hb); have n2_ := Aside0.mk (blk_below (g := gb167) (o := .cells #[.slice none 0 0, .slice none 0 0] 30 (0, 0)) att7_0_6 hb); have n3_ := Aside0.mk (blk_below (g := gb174) (o := .cells #[.slice Ao11 y171.length co11, .slice Ao45 y193.length co45] 30 (0, 0)) att7_0_7 hb); have n4_ := Aside0.mk (below_step att7_0_0 hb); clear HO_175000; clear HO195; clear BK167; clear BK174; clear HB; have HO_175000 := n0_; have HO195 := n1_; have BK167 := n2_; have BK174 := n3_; have HB := n4_; clear n0_ n1_ n2_ n3_ n4_; (try clear hb); (try clear hb2); (try clear hk); (try clear hi); have hcz48_0 : w47.cell? ⟨gb174, 0, none⟩ = some (.slice Ao11 y171.length co11) := (blk_cell BK174.out 0).trans rfl; have hcz48_1 : w47.cell? ⟨gb174, 1, none⟩ = some (.slice Ao45 y193.length co45) := (blk_cell BK174.out 1).trans rfl; have hfz48_0 := blk_frozen BK174.out 0; have hfz48_1 := blk_frozen BK174.out 1; have hcz49_0 : w47.cell? ⟨gb167, 0, none⟩ = some (.slice none 0 0) := (blk_cell BK167.out 0).trans rfl; have hcz49_1 : w47.cell? ⟨gb167, 1, none⟩ = some (.slice none 0 0) := (blk_cell BK167.out 1).trans rfl; have hfz49_0 := blk_frozen BK167.out 0; have hfz49_1 := blk_frozen BK167.out 1))
           refine bodyPost_ret (results_ct rfl _ _ gb167 30 #[.slice Ao11 y171.length co11, .slice Ao45 y193.length co45] (0, 0) _ rfl (by (with_reducible repeat (first | refine blk_drewN ?_ _ | refine blk_drew ?_ | refine blk_alloc ?_ _)); refine blk_put (cs := #[.slice Ao11 y171.length co11, .slice none 0 0]) ?_ 1 _ rfl; (with_reducible repeat (first | refine blk_drewN ?_ _ | refine blk_drew ?_ | refine blk_alloc ?_ _)); refine blk_put (cs := #[.slice none 0 0, .slice none 0 0]) ?_ 0 _ rfl; (with_reducible repeat (first | refine blk_drewN ?_ _ | refine blk_drew ?_ | refine blk_alloc ?_ _)); exact BK167.out) Try.underlying30 rfl (by kernel_rfl)) rfl ?_
           exact ⟨_, _, by first | rfl | (simp [errW_none, errW_some] <;> rfl) | (simp [*, errW_none, errW_some] <;> rfl), by (with_reducible repeat (first | apply Kd.R_alloc | apply Kd.R_drewN | apply Kd.R_drew)); exact Kd.R_mono (Kd.R_far (p := ⟨gb167, 1, none⟩) (Kd.R_far (p := ⟨gb167, 0, none⟩) (Kd.R_types HO_175000.out BK167.out (by decide)) (fun _ hk => hk.2) (.slice Ao11 y171.length co11)) (fun _ hk => hk.2) (.slice Ao45 y193.length co45)) (fun _ hk => trivial), by (with_reducible repeat (first | apply Kd.S_alloc | apply Kd.S_drewN | apply Kd.S_drew)); exact Kd.S_mono (Kd.S_far (p := ⟨gb167, 1, none⟩) (Kd.S_far (p := ⟨gb167, 0, none⟩) (Kd.S_types HO195.out BK167.out (by decide)) (fun _ hk => hk.2) (.slice Ao11 y171.length co11)) (fun _ hk => hk.2) (.slice Ao45 y193.length co45)) (fun _ hk => trivial), att7_0_0⟩
          ·replace c40 := Bool.eq_false_iff.mpr c40
           subst c40
           rw [if_neg (show ¬ (false = true) by decide)] at H
           simp only [Option.some.injEq, Prod.mk.injEq] at H
           obtain ⟨rfl, rfl, rfl⟩ := H
           have hnb50 := NB174_167.out
           have hnc50 := NB167_174.out
           have hcz51_0 : wr.cell? ⟨gb174, 0, none⟩ = some (.slice Ao11 y171.length co11) := (blk_cell BK174.out 0).trans rfl
           have hcz51_1 : wr.cell? ⟨gb174, 1, none⟩ = some (u175001) := (blk_cell BK174.out 1).trans rfl
           have hfz51_0 := blk_frozen BK174.out 0
           have hfz51_1 := blk_frozen BK174.out 1
           obtain ⟨Ao53, co53, eo53⟩ := Kd.R_slice HO_9.out
           subst eo53
           go_wp2_with (first | ((with_reducible refine gate_builtin (b := .append) (xs := #[.tmp 64, .tmp 66]) rfl ?_); at_builtin; refine Kd.S_append (Kd.slice 37 k37) (w0 := w) w.heap.size rfl (.tmp 64) (.tmp 66) 28 51 (.slice none 0 0) 24 rfl Try.underlying28 info51 rfl (by decide) (by omega) u175001 x175001_2 t179 [.slice Ao53 t179.length co53] (fun _ => True) (fun k_ => some k_ = (.slice Ao53 t179.length co53 : Value).ownBlock) rfl rfl ?aP (fun k_ hk_ => ((Kd.R_mono (ok' := fun k_ => ((fun _ => True)) k_ ∧ some k_ ≠ (u175001 : Value).ownBlock) (Kd.R_apart' (HO_9.out) (Kd.S_typed HO_175001.out) (by decide)) (fun k_ hk => ⟨trivial, hk.2⟩))).1 k_ hk_.symm) ?aF ?aO ?aB ?aS ?aL ?_; (case aP => exact Kd.M_row (Kd.R_mono (Kd.R_tight rfl (Kd.R_mono (ok' := fun k_ => ((fun _ => True)) k_ ∧ some k_ ≠ (u175001 : Value).ownBlock) (Kd.R_apart' (HO_9.out) (Kd.S_typed HO_175001.out) (by decide)) (fun k_ hk => ⟨trivial, hk.2⟩))) (fun _ h_ => h_))); (case aB => exact att7_0_0); (case aF => exact (fun _ _ => trivial)); (case aO => exact att7_0_20); (case aS => exact (below_size att7_0_0)); (case aL => have := LMc38.out; omega); intro v194 w52 ho hb hg hat; rw [← Ny193.out] at ho; have n0_ := Aside0.mk (Kd.R_over' att7_0_11 (Kd.S_typed att7_0_10) (by decide) hg); have n1_ := Aside0.mk (blk_grown (g := gb167) (o := .cells #[.slice none 0 0, .slice none 0 0] 30 (0, 0)) att7_0_3 hg (Kd.S_ne HO_175001.out BK167.out (by decide))); have n2_ := Aside0.mk (blk_grown (g := gb174) (o := .cells #[.slice Ao11 y171.length co11, u175001] 30 (0, 0)) att7_0_5 hg (Kd.S_ne HO_175001.out BK174.out (by decide))); have n3_ := Aside0.mk (hb); have n4_ := Aside0.mk (ho); clear HO_175000; clear BK167; clear BK174; clear HB; clear HO_175001; clear HO_9; have HO_175000 := n0_; have BK167 := n1_; have BK174 := n2_; have HB := n3_; have HO195 := n4_; clear n0_ n1_ n2_ n3_ n4_; clear ho hb hg hat; obtain ⟨Ao54, co54, eo54⟩ := Kd.S_slice HO195.out; subst eo54; have hcz55_0 : w52.cell? ⟨gb174, 0, none⟩ = some (.slice Ao11 y171.length co11) := (blk_cell BK174.out 0).trans rfl; have hcz55_1 : w52.cell? ⟨gb174, 1, none⟩ = some (u175001) := (blk_cell BK174.out 1).trans rfl; have hfz55_0 := blk_frozen BK174.out 0; have hfz55_1 := blk_frozen BK174.out 1) | ((with_reducible refine gate_callee (f := 124) rfl ?_); refine goesL_ (some 70) rfl rfl Try.func124 (by kernel_rfl) rfl #[.agg #[.slice Ao11 y171.length co11, .slice Ao54 y193.length co54]] rfl att7_0_2 ?_; (with_reducible refine (spec_ProgOk.calls k2 _ _ y171 _ _ y193 false _ ?side1 ?side2 ?side3 ?side4 A39.out).mono ?_); (case side1 => refine (Kd.R_reads' (e := 3) (base := w.heap.size) (ok := fun k_ => True) (n := y171.length) (c := co11) ?_).2.2; exact att7_0_16); (case side2 => exact (Kd.R_reads' HO_175000.out).2.1); (case side3 => refine (Kd.S_reads' (e := 51) (base := w.heap.size) (ok := fun k_ => True) (n := y193.length) (c := co54) ?_).2.2; exact att7_0_18); (case side4 => exact (Kd.S_reads' HO195.out).2.1); rintro e w56 ⟨rfl, hb⟩; refine ⟨_, rfl, ?_⟩; have n0_ := Aside0.mk (Kd.R_below att7_0_16 hb); have n1_ := Aside0.mk (Kd.S_below att7_0_18 hb); have n2_ := Aside0.mk (blk_below (g := gb167) (o := .cells #[.slice none 0 0, .slice none 0 0] 30 (0, 0)) att7_0_6 hb); have n3_ := Aside0.mk (blk_below (g := gb174) (o := .cells #[.slice Ao11 y171.length co11, .slice Ao54 y193.length co54] 30 (0, 0)) att7_0_7 hb); have n4_ := Aside0.mk (below_step att7_0_0 hb); clear HO_175000; clear HO195; clear BK167; clear BK174; clear HB; have HO_175000 := n0_; have HO195 := n1_; have BK167 := n2_; have BK174 := n3_; have HB := n4_; clear n0_ n1_ n2_ n3_ n4_; (try clear hb); (try clear hb2); (try clear hk); (try clear hi); have hcz57_0 : w56.cell? ⟨gb167, 0, none⟩ = some (.slice none 0 0) := (blk_cell BK167.out 0).trans rfl; have hcz57_1 : w56.cell? ⟨gb167, 1, none⟩ = some (.slice none 0 0) := (blk_cell BK167.out 1).trans rfl; have hfz57_0 := blk_frozen BK167.out 0; have hfz57_1 := blk_frozen BK167.out 1))
           refine bodyPost_ret (results_ct rfl _ _ gb167 30 #[.slice none 0 0, .slice none 0 0] (0, 0) _ rfl att7_0_9 Try.underlying30 rfl (by kernel_rfl)) rfl ?_
           exact ⟨_, _, by first | rfl | (simp [errW_none, errW_some] <;> rfl) | (simp [*, errW_none, errW_some] <;> rfl), by first | exact Kd.R_nil _ _ _ _ _ | exact Kd.N_nil _ _ _ _ _ | exact Kd.V_nil _ _ _ _ _ | exact Kd.Q_nil _ _ _ _ _ | exact Kd.S_nil _ _ _ _ _, by first | exact Kd.S_nil _ _ _ _ _ | exact Kd.N_nil _ _ _ _ _ | exact Kd.V_nil _ _ _ _ _ | exact Kd.Q_nil _ _ _ _ _ | exact Kd.R_nil _ _ _ _ _, att7_0_0⟩
         ·rw [if_neg c38] at H
          exact absurd H (by simp)
     ·rw [if_neg c21] at H
      exact absurd H (by simp)
 ·rw [if_neg c3] at H
  exact absurd H (by simp)

/-! ### laws_toIntS: function 36 -/
def laws_toIntS.l0 : Nat → List Int → List Int → Int → Option (List Int)
 | 0, _, _, _ => none
 | k + 1, x0, x3, x4 => if x4 < (x0.length : Int) then (if 0 ≤ x4 then (if x4 < (x3.length : Int) then (laws_toIntS.l0 k x0 (x3.set (x4 : Int).toNat (rd x0 x4)) (wrap64 (x4 + 1))) else (none)) else (none)) else (some x3)
def laws_toIntS.f (k : Nat) (l0 : List Int) : Option (List Int) := if 0 ≤ (l0.length : Int) then (if ((l0.length : Int) : Int).toNat ≤ 35184372088832 then (laws_toIntS.l0 k l0 (List.replicate ((l0.length : Int) : Int).toNat 0) 0) else (none)) else (none)
theorem laws_toIntS.mono_l : ∀ k, (∀ y0 y1 y2, LeO (laws_toIntS.l0 k y0 y1 y2) (laws_toIntS.l0 (k + 1) y0 y1 y2))
 | 0 => fun _ _ _ r h => by simp [laws_toIntS.l0] at h
 | k + 1 => by
  have ih0 := laws_toIntS.mono_l k
  ·intro y0 y1 y2
   unfold laws_toIntS.l0
   repeat' first
   | (with_reducible exact ih0 _ _ _)
   | (with_reducible exact LeO.refl _)
   | (with_reducible exact LeO.none _)
   | (with_reducible refine LeO.ite ?_ ?_)
   | (with_reducible refine LeO.bind ?_ (fun _ => ?_))
   | exact ih0 _ _ _
   | exact LeO.none _
   | refine LeO.ite ?_ ?_
   | refine LeO.bind ?_ (fun _ => ?_)
theorem laws_toIntS.mono : ∀ a0 k, LeO (laws_toIntS.f k a0) (laws_toIntS.f (k + 1) a0) := by
 intro a0 k
 have ih0 := laws_toIntS.mono_l k
 unfold laws_toIntS.f
 repeat' first
   | (with_reducible exact ih0 _ _ _)
   | (with_reducible exact LeO.refl _)
   | (with_reducible exact LeO.none _)
   | (with_reducible refine LeO.ite ?_ ?_)
   | (with_reducible refine LeO.bind ?_ (fun _ => ?_))
   | exact ih0 _ _ _
   | exact LeO.none _
   | refine LeO.ite ?_ ?_
   | refine LeO.bind ?_ (fun _ => ?_)
set_option maxHeartbeats 80000000 in
set_option maxRecDepth 100000 in
theorem laws_toIntS.calls (k : Nat) (A0 : Option Addr) (c0 : Nat) (l0 : List Int) (r : List Int) (w : World) (hr0 : Kd.C (Kd.int .i64) w A0 l0.length l0) (hc0 : l0.length ≤ c0) (h : laws_toIntS.f k l0 = some r) :
  Calls Try.prog 36 #[.slice A0 l0.length c0] w fun e w' => ∃ v0_ : Value, e = .returned (v0_) ∧ Kd.R (Kd.int .i64) 3 w' w.heap.size (fun _ => True) v0_ r ∧ Below w.heap.size w w' := by
 have HR0 := Aside0.mk hr0
 have HC0 := Aside0.mk hc0
 clear hr0 hc0
 have HB := Aside0.mk (Below.refl w.heap.size w)
 have H : (if 0 ≤ (l0.length : Int) then (if ((l0.length : Int) : Int).toNat ≤ 35184372088832 then (laws_toIntS.l0 k l0 (List.replicate ((l0.length : Int) : Int).toNat 0) 0) else (none)) else (none)) = some r := h
 clear h
 by_cases c2 : 0 ≤ (l0.length : Int)
 ·rw [if_pos c2] at H
  have c2b0 := eq_true c2
  have c2b1 : decide (0 ≤ (l0.length : Int)) = true := decide_eq_true c2
  clear c2
  by_cases c3 : ((l0.length : Int) : Int).toNat ≤ 35184372088832
  ·rw [if_pos c3] at H
   have c3b0 := eq_true c3
   have c3b1 : decide (((l0.length : Int) : Int).toNat ≤ 35184372088832) = true := decide_eq_true c3
   clear c3
   obtain ⟨y197, hy197⟩ : ∃ y_ : List Int, y_ = (List.replicate ((l0.length : Int) : Int).toNat 0) := ⟨_, rfl⟩
   replace H : (laws_toIntS.l0 k l0 y197 0) = some r := by first | (rw [hy197]; with_reducible exact H) | (have H2_ := (Option.bind_some _ _).symm.trans H; rw [hy197]; with_reducible exact H2_) | (have H2_ := (Option.bind_some _ _).symm.trans H; with_reducible exact H2_) | with_reducible exact H | (rw [hy197]; exact H) | exact H
   have Ny197 := Aside0.mk hy197
   clear hy197
   have H' := Aside0.mk H
   clear H
   go_enter Try.func36, Try.ntmps36
   go_wp2_with (first | ((with_reducible refine gate_dst (N := 7) rfl ?_); refine Kd.R_make (Kd.int .i64) _ 3 rfl (N := 7) rfl 22 _ _ rfl (l0.length : Int) rfl rfl Try.underlying22 (.int .i64 0) 8 info3 rfl (by decide) (by omega) 0 (ok := fun _ => True) (okp := fun _ => True) rfl (fun _ hk => hk) trivial (of_decide_eq_true att7_0_12) (Nat.le_trans (Nat.mul_le_mul_right _ (of_decide_eq_true att7_0_12 : (l0.length : Int).toNat ≤ 35184372088832)) (by omega)) (Below.refl _ _) (Nat.le_refl _) ?_; intro v198 w4 ho5 hb hg_ hnew_; clear hg_ hnew_; (first | rw [← Ny197.out] at ho5 | (simp only [Int.reduceToNat] at ho5; rw [← Ny197.out] at ho5)); have n0_ := Aside0.mk (Kd.R_lower ho5 (below_size att7_0_1)); have n1_ := Aside0.mk (below_step att7_0_1 hb); clear HB; have HO199 := n0_; have HB := n1_; clear n0_ n1_; clear hb ho5))
   go_loopg [4] k (fun kq v4 w' => ∃ (x3_1 : List Int) (x4_1 : Int), v4 = .int .i64 x4_1 ∧ Aside0 (laws_toIntS.l0 kq l0 x3_1 x4_1 = some r) ∧ Aside0 (kq ≤ k) ∧ Aside0 (Kd.R (Kd.int .i64) 3 w' w.heap.size (fun _ => True) v198 x3_1) ∧ Aside0 (Below w.heap.size w w'))
   case atStart => exact ⟨(y197), (0), att7_0_15, H', ⟨Nat.le_refl _⟩, ⟨by (with_reducible repeat (first | apply Kd.R_alloc | apply Kd.R_drewN | apply Kd.R_drew)); exact HO199.out⟩, ⟨att7_0_1⟩⟩
   case round =>
    clear H'
    try clear c2
    try clear c2b0
    try clear c2b1
    try clear p2
    try clear c3
    try clear c3b0
    try clear c3b1
    obtain ⟨x3_1, x4_1, rfl, HA, HK1, HO_3, HB⟩ := hrel
    cases gk with
    | zero => exact absurd HA.out (by simp [laws_toIntS.l0])
    | succ k1 =>
     have H := HA.out
     clear HA
     simp only [laws_toIntS.l0] at H
     by_cases c6 : x4_1 < (l0.length : Int)
     ·rw [if_pos c6] at H
      have c6b0 : decide (x4_1 < (l0.length : Int)) = true := decide_eq_true c6
      clear c6
      by_cases c7 : 0 ≤ x4_1
      ·rw [if_pos c7] at H
       have c7b0 : decide (0 ≤ x4_1) = true := decide_eq_true c7
       clear c7
       by_cases c8 : x4_1 < (x3_1.length : Int)
       ·rw [if_pos c8] at H
        have c8b0 : decide (x4_1 < (x3_1.length : Int)) = true := decide_eq_true c8
        clear c8
        obtain ⟨y201, hy201⟩ : ∃ y_ : List Int, y_ = (x3_1.set (x4_1 : Int).toNat (rd l0 x4_1)) := ⟨_, rfl⟩
        replace H : (laws_toIntS.l0 k1 l0 y201 (wrap64 (x4_1 + 1))) = some r := by first | (rw [hy201]; with_reducible exact H) | (have H2_ := (Option.bind_some _ _).symm.trans H; rw [hy201]; with_reducible exact H2_) | (have H2_ := (Option.bind_some _ _).symm.trans H; with_reducible exact H2_) | with_reducible exact H | (rw [hy201]; exact H) | exact H
        have Ny201 := Aside0.mk hy201
        clear hy201
        have H' := Aside0.mk H
        clear H
        have p200 : 0 ≤ (x4_1 : Int) := of_decide_eq_true att7_0_12
        have q200 : x4_1 < (l0.length : Int) := of_decide_eq_true att7_0_12
        obtain ⟨ad200, e200, hx200_0⟩ := Kd.at_int HR0.out x4_1 p200 q200
        cases e200
        replace hx200_0 := (HB.out.cell (World.block_lt_of_cell? w _ hx200_0)).trans hx200_0
        replace p200 := eq_true p200
        replace q200 := eq_true q200
        have p9 : 0 ≤ (x4_1 : Int) := of_decide_eq_true att7_0_12
        have q9 : (x4_1 : Int) < ((x3_1.length : Int) : Int) := of_decide_eq_true att7_0_12
        obtain ⟨go9, co9, eo9, gb9, gl9, cl9, HG9⟩ := Kd.R_form HO_3.out (by omega)
        (first | cases eo9 | (injection eo9 with ea_ en_ ec_; (first | subst ea_ | (injection ea_ with ea_; subst ea_)); subst ec_; clear en_))
        have GB9 := Aside0.mk gb9
        have GG9 := Aside0.mk HG9
        clear gb9 gl9 HG9
        obtain ⟨hx9_0, hf9_0⟩ := Kd.R_celln 0 HO_3.out (x4_1 : Int) p9 q9
        replace p9 := eq_true p9
        replace q9 := eq_true q9
        have HP10 := Kd.R_putg HO_3.out (x4_1 : Int) (rd l0 x4_1)
        go_wp2_with (first | ((with_reducible refine gate_store (t := 3) (p := 20) rfl ?_); refine store_event (t := 3) (p := 20) (v := ?vo_w11) (w1 := (wr.setCell ⟨go9, (x4_1 : Int).toNat, none⟩ (.int .i64 (rd l0 x4_1)))) ?hg ?ho ?hn ?hr ?_; (case ho => rfl); (case hg => rfl); (case hn => rfl); (case hr => first | (go_simp; done) | (go_simp; rfl)); intro w11 hw; have hg : wr.grownBy w11 (some go9) := (by rw [hw]; exact HP10.2); have hp_ : Kd.R (Kd.int .i64) 3 w11 w.heap.size (fun _ => True) (.slice (some ⟨go9, 0, none⟩) x3_1.length co9) y201 := (by rw [hw, Ny201.out]; exact HP10.1); clear HP10; have n0_ := Aside0.mk (hp_); have n1_ := Aside0.mk ((by rw [hw]; exact below_set (HB.out) GB9.out : Below w.heap.size w w11)); clear HO_3; clear HB; have HO_3 := n0_; have HB := n1_; clear n0_ n1_; clear hg hw hp_))
        go_roundg k1
        case measure => have := HK1.out; omega
        case rel => exact ⟨(y201), (wrap64 (x4_1 + 1)), att7_0_15, H', ⟨by have := HK1.out; omega⟩, ⟨by (with_reducible repeat (first | apply Kd.R_alloc | apply Kd.R_drewN | apply Kd.R_drew)); exact HO_3.out⟩, ⟨att7_0_1⟩⟩
       ·rw [if_neg c8] at H
        exact absurd H (by simp)
      ·rw [if_neg c7] at H
       exact absurd H (by simp)
     ·rw [if_neg c6] at H
      have c6b0 : decide (x4_1 < (l0.length : Int)) = false := decide_eq_false c6
      clear c6
      obtain rfl := Option.some.inj H
      go_wp2
      go_ret
      exact ⟨_, by first | rfl | (simp [errW_none, errW_some] <;> rfl) | (simp [*, errW_none, errW_some] <;> rfl), by (with_reducible repeat (first | apply Kd.R_alloc | apply Kd.R_drewN | apply Kd.R_drew)); exact HO_3.out, att7_0_1⟩
  ·rw [if_neg c3] at H
   exact absurd H (by simp)
 ·rw [if_neg c2] at H
  exact absurd H (by simp)

/-! ### impl_within: function 117 -/
def impl_within.f (a0 : Int) (a1 : Int) (a2 : Int) : Option (Bool) := if a0 ≥ a1 then (some (decide (a0 ≤ a2))) else (some false)
set_option maxHeartbeats 80000000 in
set_option maxRecDepth 100000 in
theorem impl_within.calls (a0 : Int) (a1 : Int) (a2 : Int) (r : Bool) (w : World) (h : impl_within.f a0 a1 a2 = some r) :
  Calls Try.prog 117 #[.int .i64 a0, .int .i64 a1, .int .i64 a2] w fun e w' => e = .returned (.bool r) ∧ Drawn0 w w' := by
 have H : (if a0 ≥ a1 then (some (decide (a0 ≤ a2))) else (some false)) = some r := h
 clear h
 by_cases c4 : a0 ≥ a1
 ·rw [if_pos c4] at H
  have c4b0 : decide (a1 ≤ a0) = true := decide_eq_true c4
  clear c4
  obtain rfl := Option.some.inj H
  go_enter Try.func117, Try.ntmps117
  go_wp2
  go_ret
  exact ⟨by first | rfl | (simp; done) | (simp [*]; done), att7_0_13⟩
 ·rw [if_neg c4] at H
  have c4b0 : decide (a1 ≤ a0) = false := decide_eq_false c4
  clear c4
  obtain rfl := Option.some.inj H
  go_enter Try.func117, Try.ntmps117
  go_wp2
  go_ret
  exact ⟨by first | rfl | (simp; done) | (simp [*]; done), att7_0_13⟩

/-! ### impl_isChan: function 130 -/
def impl_isChan.f (a0 : Int) : Option (Bool) := (impl_within.f a0 0 2).bind fun t202 => (some t202)
set_option maxHeartbeats 80000000 in
set_option maxRecDepth 100000 in
theorem impl_isChan.calls (a0 : Int) (r : Bool) (w : World) (h : impl_isChan.f a0 = some r) :
  Calls Try.prog 130 #[.int .i64 a0] w fun e w' => e = .returned (.bool r) ∧ Drawn0 w w' := by
 have H : ((impl_within.f a0 0 2).bind fun t202 => (some t202)) = some r := h
 clear h
 replace H := Option.bind_eq_some_iff.mp H
 obtain ⟨t202, A20, H⟩ := H
 (try dsimp only at H)
 have A2 := Aside0.mk A20
 clear A20
 obtain rfl := Option.some.inj H
 go_enter Try.func130, Try.ntmps130
 go_wp2_with (first | ((with_reducible refine gate_callee (f := 117) rfl ?_); refine goesL_ (some 4) rfl rfl Try.func117 (by kernel_rfl) rfl #[.int .i64 a0, .int .i64 0, .int .i64 2] rfl att7_0_2 ?_; (with_reducible refine (impl_within.calls a0 0 2 t202 _ A2.out).mono ?_); rintro e w' ⟨rfl, ⟨nd, rfl⟩⟩; refine ⟨_, rfl, ?_⟩))
 go_ret
 exact ⟨by first | rfl | (simp; done) | (simp [*]; done), att7_0_13⟩

/-! ### impl_MakeBody: function 43 -/
def impl_MakeBody.f (a0 : Int) (a1 : Int) : Option ((List (S37)) × Bool) := (impl_within.f a0 1 50).bind fun t203 => (if t203 = true then ((impl_isChan.f a1).bind fun t204 => (if t204 = true then (some ((([(⟨1, 0, 0, 0, a0⟩ : S37), (⟨1, 1, 0, 0, 1⟩ : S37), (⟨12, 0, 0, 0, 6⟩ : S37), (⟨5, 0, 0, 0, a1⟩ : S37), (⟨3, 0, 0, 1, 0⟩ : S37), (⟨11, 0, 0, 0, 2⟩ : S37), (⟨9, 0, 0, 0, a1⟩ : S37), (⟨13, 0, 0, 0, 0⟩ : S37)] : List (S37))), true)) else (some (([] : List (S37)), false)))) else (some (([] : List (S37)), false)))
set_option maxHeartbeats 80000000 in
set_option maxRecDepth 100000 in
theorem impl_MakeBody.calls (a0 : Int) (a1 : Int) (r1 : List (S37)) (r2 : Bool) (w : World) (h : impl_MakeBody.f a0 a1 = some (r1, r2)) :
  Calls Try.prog 43 #[.int .i64 a0, .int .i64 a1] w fun e w' => ∃ v0_ : Value, e = .returned (.tuple #[v0_, .bool r2]) ∧ Kd.R k37 37 w' w.heap.size (fun _ => True) v0_ r1 ∧ Below w.heap.size w w' := by
 have hu37 := Try.underlying37
 have HB := Aside0.mk (Below.refl w.heap.size w)
 have H : ((impl_within.f a0 1 50).bind fun t203 => (if t203 = true then ((impl_isChan.f a1).bind fun t204 => (if t204 = true then (some ((([(⟨1, 0, 0, 0, a0⟩ : S37), (⟨1, 1, 0, 0, 1⟩ : S37), (⟨12, 0, 0, 0, 6⟩ : S37), (⟨5, 0, 0, 0, a1⟩ : S37), (⟨3, 0, 0, 1, 0⟩ : S37), (⟨11, 0, 0, 0, 2⟩ : S37), (⟨9, 0, 0, 0, a1⟩ : S37), (⟨13, 0, 0, 0, 0⟩ : S37)] : List (S37))), true)) else (some (([] : List (S37)), false)))) else (some (([] : List (S37)), false)))) = some (r1, r2) := h
 clear h
 replace H := Option.bind_eq_some_iff.mp H
 obtain ⟨t203, A30, H⟩ := H
 (try dsimp only at H)
 have A3 := Aside0.mk A30
 clear A30
 by_cases c4 : t203 = true
 ·subst c4
  rw [if_pos rfl] at H
  replace H := Option.bind_eq_some_iff.mp H
  obtain ⟨t204, A50, H⟩ := H
  (try dsimp only at H)
  have A5 := Aside0.mk A50
  clear A50
  by_cases c6 : t204 = true
  ·subst c6
   rw [if_pos rfl] at H
   obtain ⟨y205, hy205⟩ : ∃ y_ : List (S37), y_ = (([(⟨1, 0, 0, 0, a0⟩ : S37), (⟨1, 1, 0, 0, 1⟩ : S37), (⟨12, 0, 0, 0, 6⟩ : S37), (⟨5, 0, 0, 0, a1⟩ : S37), (⟨3, 0, 0, 1, 0⟩ : S37), (⟨11, 0, 0, 0, 2⟩ : S37), (⟨9, 0, 0, 0, a1⟩ : S37), (⟨13, 0, 0, 0, 0⟩ : S37)] : List (S37))) := ⟨_, rfl⟩
   replace H : (some (y205, true)) = some (r1, r2) := by first | (rw [hy205]; with_reducible exact H) | (have H2_ := (Option.bind_some _ _).symm.trans H; rw [hy205]; with_reducible exact H2_) | (have H2_ := (Option.bind_some _ _).symm.trans H; with_reducible exact H2_) | with_reducible exact H | (rw [hy205]; exact H) | exact H
   have Ny205 := Aside0.mk hy205
   clear hy205
   simp only [Option.some.injEq, Prod.mk.injEq] at H
   obtain ⟨rfl, rfl⟩ := H
   go_enter Try.func43, Try.ntmps43
   go_wp2_with (first | ((with_reducible refine gate_callee (f := 117) rfl ?_); refine goesL_ (some 7) rfl rfl Try.func117 (by kernel_rfl) rfl #[.int .i64 a0, .int .i64 1, .int .i64 50] rfl att7_0_2 ?_; (with_reducible refine (impl_within.calls a0 1 50 true _ A3.out).mono ?_); rintro e w' ⟨rfl, ⟨nd, rfl⟩⟩; refine ⟨_, rfl, ?_⟩) | (go_at_call 130; (with_reducible refine (impl_isChan.calls a1 true _ A5.out).mono ?_); rintro e w' ⟨rfl, ⟨nd, rfl⟩⟩) | ((with_reducible refine gate_dst (N := 25) rfl ?_); refine Kd.R_lit k37 _ 37 ?hg (N := 25) ?hd (xs := ([(⟨1, 0, 0, 0, a0⟩ : S37), (⟨1, 1, 0, 0, 1⟩ : S37), (⟨12, 0, 0, 0, 6⟩ : S37), (⟨5, 0, 0, 0, a1⟩ : S37), (⟨3, 0, 0, 1, 0⟩ : S37), (⟨11, 0, 0, 0, 2⟩ : S37), (⟨9, 0, 0, 0, a1⟩ : S37), (⟨13, 0, 0, 0, 0⟩ : S37)] : List (S37))) (inner := [.int .i64 1, .int .i64 0, .int .i64 0, .int .i64 0, .int .i64 a0, .int .i64 1, .int .i64 1, .int .i64 0, .int .i64 0, .int .i64 1, .int .i64 12, .int .i64 0, .int .i64 0, .int .i64 0, .int .i64 6, .int .i64 5, .int .i64 0, .int .i64 0, .int .i64 0, .int .i64 a1, .int .i64 3, .int .i64 0, .int .i64 0, .int .i64 1, .int .i64 0, .int .i64 11, .int .i64 0, .int .i64 0, .int .i64 0, .int .i64 2, .int .i64 9, .int .i64 0, .int .i64 0, .int .i64 0, .int .i64 a1, .int .i64 13, .int .i64 0, .int .i64 0, .int .i64 0, .int .i64 0]) (ok := fun _ => True) (okp := fun _ => True) ?hr ?hp (fun _ hk => hk) trivial (Below.refl _ _) (Nat.le_refl _) (by simp) ?_; (case hd => rfl); (case hg => rfl); (case hr => first | (go_simp; done) | (go_simp; rfl)); (case hp => exact (Reps.c5 (show Kd.M k37 _ _ _ (⟨1, 0, 0, 0, a0⟩ : S37) [.int .i64 1, .int .i64 0, .int .i64 0, .int .i64 0, .int .i64 a0] from (k37_mkM _ _ _ (⟨1, 0, 0, 0, a0⟩ : S37) )) (Reps.c5 (show Kd.M k37 _ _ _ (⟨1, 1, 0, 0, 1⟩ : S37) [.int .i64 1, .int .i64 1, .int .i64 0, .int .i64 0, .int .i64 1] from (k37_mkM _ _ _ (⟨1, 1, 0, 0, 1⟩ : S37) )) (Reps.c5 (show Kd.M k37 _ _ _ (⟨12, 0, 0, 0, 6⟩ : S37) [.int .i64 12, .int .i64 0, .int .i64 0, .int .i64 0, .int .i64 6] from (k37_mkM _ _ _ (⟨12, 0, 0, 0, 6⟩ : S37) )) (Reps.c5 (show Kd.M k37 _ _ _ (⟨5, 0, 0, 0, a1⟩ : S37) [.int .i64 5, .int .i64 0, .int .i64 0, .int .i64 0, .int .i64 a1] from (k37_mkM _ _ _ (⟨5, 0, 0, 0, a1⟩ : S37) )) (Reps.c5 (show Kd.M k37 _ _ _ (⟨3, 0, 0, 1, 0⟩ : S37) [.int .i64 3, .int .i64 0, .int .i64 0, .int .i64 1, .int .i64 0] from (k37_mkM _ _ _ (⟨3, 0, 0, 1, 0⟩ : S37) )) (Reps.c5 (show Kd.M k37 _ _ _ (⟨11, 0, 0, 0, 2⟩ : S37) [.int .i64 11, .int .i64 0, .int .i64 0, .int .i64 0, .int .i64 2] from (k37_mkM _ _ _ (⟨11, 0, 0, 0, 2⟩ : S37) )) (Reps.c5 (show Kd.M k37 _ _ _ (⟨9, 0, 0, 0, a1⟩ : S37) [.int .i64 9, .int .i64 0, .int .i64 0, .int .i64 0, .int .i64 a1] from (k37_mkM _ _ _ (⟨9, 0, 0, 0, a1⟩ : S37) )) (Reps.c5 (show Kd.M k37 _ _ _ (⟨13, 0, 0, 0, 0⟩ : S37) [.int .i64 13, .int .i64 0, .int .i64 0, .int .i64 0, .int .i64 0] from (k37_mkM _ _ _ (⟨13, 0, 0, 0, 0⟩ : S37) )) (Reps.none _ _)))))))))); intro v206 w7 ho8 hb hg_ hnew_; clear hg_ hnew_; (first | rw [← Ny205.out] at ho8 | (simp only [Int.reduceToNat] at ho8; rw [← Ny205.out] at ho8)); have n0_ := Aside0.mk (Kd.R_lower ho8 (below_size att7_0_1)); have n1_ := Aside0.mk (below_step att7_0_1 hb); clear HB; have HO207 := n0_; have HB := n1_; clear n0_ n1_; clear hb ho8))
   go_ret2
   exact ⟨_, by first | rfl | (simp [errW_none, errW_some] <;> rfl) | (simp [*, errW_none, errW_some] <;> rfl), by (with_reducible repeat (first | apply Kd.R_alloc | apply Kd.R_drewN | apply Kd.R_drew)); exact HO207.out, att7_0_1⟩
  ·replace c6 := Bool.eq_false_iff.mpr c6
   subst c6
   rw [if_neg (show ¬ (false = true) by decide)] at H
   simp only [Option.some.injEq, Prod.mk.injEq] at H
   obtain ⟨rfl, rfl⟩ := H
   go_enter Try.func43, Try.ntmps43
   go_wp2_with (first | ((with_reducible refine gate_callee (f := 117) rfl ?_); refine goesL_ (some 7) rfl rfl Try.func117 (by kernel_rfl) rfl #[.int .i64 a0, .int .i64 1, .int .i64 50] rfl att7_0_2 ?_; (with_reducible refine (impl_within.calls a0 1 50 true _ A3.out).mono ?_); rintro e w' ⟨rfl, ⟨nd, rfl⟩⟩; refine ⟨_, rfl, ?_⟩) | (go_at_call 130; (with_reducible refine (impl_isChan.calls a1 false _ A5.out).mono ?_); rintro e w' ⟨rfl, ⟨nd, rfl⟩⟩))
   go_ret2
   exact ⟨_, by first | rfl | (simp [errW_none, errW_some] <;> rfl) | (simp [*, errW_none, errW_some] <;> rfl), by first | exact Kd.R_nil _ _ _ _ _ | exact Kd.N_nil _ _ _ _ _ | exact Kd.V_nil _ _ _ _ _ | exact Kd.Q_nil _ _ _ _ _ | exact Kd.S_nil _ _ _ _ _, att7_0_1⟩
 ·replace c4 := Bool.eq_false_iff.mpr c4
  subst c4
  rw [if_neg (show ¬ (false = true) by decide)] at H
  simp only [Option.some.injEq, Prod.mk.injEq] at H
  obtain ⟨rfl, rfl⟩ := H
  go_enter Try.func43, Try.ntmps43
  go_wp2_with (first | ((with_reducible refine gate_callee (f := 117) rfl ?_); refine goesL_ (some 7) rfl rfl Try.func117 (by kernel_rfl) rfl #[.int .i64 a0, .int .i64 1, .int .i64 50] rfl att7_0_2 ?_; (with_reducible refine (impl_within.calls a0 1 50 false _ A3.out).mono ?_); rintro e w' ⟨rfl, ⟨nd, rfl⟩⟩; refine ⟨_, rfl, ?_⟩))
  go_ret2
  exact ⟨_, by first | rfl | (simp [errW_none, errW_some] <;> rfl) | (simp [*, errW_none, errW_some] <;> rfl), by first | exact Kd.R_nil _ _ _ _ _ | exact Kd.N_nil _ _ _ _ _ | exact Kd.V_nil _ _ _ _ _ | exact Kd.Q_nil _ _ _ _ _ | exact Kd.S_nil _ _ _ _ _, att7_0_1⟩

/-! ### impl_PassBody: function 46 -/
def impl_PassBody.f (a0 : Int) (a1 : Int) : Option ((List (S37)) × Bool) := (impl_isChan.f a0).bind fun t208 => (if t208 = true then ((impl_isChan.f a1).bind fun t209 => (if t209 = true then (if a0 = a1 then (some (([] : List (S37)), false)) else (some ((([(⟨6, 0, 0, 1, a0⟩ : S37), (⟨12, 0, 1, 0, 4⟩ : S37), (⟨5, 0, 0, 0, a1⟩ : S37), (⟨11, 0, 0, 0, 0⟩ : S37), (⟨9, 0, 0, 0, a1⟩ : S37), (⟨13, 0, 0, 0, 0⟩ : S37)] : List (S37))), true))) else (some (([] : List (S37)), false)))) else (some (([] : List (S37)), false)))
set_option maxHeartbeats 80000000 in
set_option maxRecDepth 100000 in
theorem impl_PassBody.calls (a0 : Int) (a1 : Int) (r1 : List (S37)) (r2 : Bool) (w : World) (h : impl_PassBody.f a0 a1 = some (r1, r2)) :
  Calls Try.prog 46 #[.int .i64 a0, .int .i64 a1] w fun e w' => ∃ v0_ : Value, e = .returned (.tuple #[v0_, .bool r2]) ∧ Kd.R k37 37 w' w.heap.size (fun _ => True) v0_ r1 ∧ Below w.heap.size w w' := by
 have hu37 := Try.underlying37
 have HB := Aside0.mk (Below.refl w.heap.size w)
 have H : ((impl_isChan.f a0).bind fun t208 => (if t208 = true then ((impl_isChan.f a1).bind fun t209 => (if t209 = true then (if a0 = a1 then (some (([] : List (S37)), false)) else (some ((([(⟨6, 0, 0, 1, a0⟩ : S37), (⟨12, 0, 1, 0, 4⟩ : S37), (⟨5, 0, 0, 0, a1⟩ : S37), (⟨11, 0, 0, 0, 0⟩ : S37), (⟨9, 0, 0, 0, a1⟩ : S37), (⟨13, 0, 0, 0, 0⟩ : S37)] : List (S37))), true))) else (some (([] : List (S37)), false)))) else (some (([] : List (S37)), false)))) = some (r1, r2) := h
 clear h
 replace H := Option.bind_eq_some_iff.mp H
 obtain ⟨t208, A30, H⟩ := H
 (try dsimp only at H)
 have A3 := Aside0.mk A30
 clear A30
 by_cases c4 : t208 = true
 ·subst c4
  rw [if_pos rfl] at H
  replace H := Option.bind_eq_some_iff.mp H
  obtain ⟨t209, A50, H⟩ := H
  (try dsimp only at H)
  have A5 := Aside0.mk A50
  clear A50
  by_cases c6 : t209 = true
  ·subst c6
   rw [if_pos rfl] at H
   by_cases c7 : a0 = a1
   ·rw [if_pos c7] at H
    have c7b0 : (a0 == a1) = true := beq_iff_eq.mpr c7
    have c7b1 : (a0 != a1) = false := bne_eq_false_iff_eq.mpr c7
    clear c7
    simp only [Option.some.injEq, Prod.mk.injEq] at H
    obtain ⟨rfl, rfl⟩ := H
    go_enter Try.func46, Try.ntmps46
    go_wp2_with (first | ((with_reducible refine gate_callee (f := 130) rfl ?_); refine goesL_ (some 7) rfl rfl Try.func130 (by kernel_rfl) rfl #[.int .i64 a0] rfl att7_0_2 ?_; (with_reducible refine (impl_isChan.calls a0 true _ A3.out).mono ?_); rintro e w' ⟨rfl, ⟨nd, rfl⟩⟩; refine ⟨_, rfl, ?_⟩) | (go_at_call 130; (with_reducible refine (impl_isChan.calls a1 true _ A5.out).mono ?_); rintro e w' ⟨rfl, ⟨nd, rfl⟩⟩))
    go_ret2
    exact ⟨_, by first | rfl | (simp [errW_none, errW_some] <;> rfl) | (simp [*, errW_none, errW_some] <;> rfl), by first | exact Kd.R_nil _ _ _ _ _ | exact Kd.N_nil _ _ _ _ _ | exact Kd.V_nil _ _ _ _ _ | exact Kd.Q_nil _ _ _ _ _ | exact Kd.S_nil _ _ _ _ _, att7_0_1⟩
   ·rw [if_neg c7] at H
    have c7b0 : (a0 == a1) = false := beq_eq_false_iff_ne.mpr c7
    have c7b1 : (a0 != a1) = true := bne_iff_ne.mpr c7
    obtain ⟨y210, hy210⟩ : ∃ y_ : List (S37), y_ = (([(⟨6, 0, 0, 1, a0⟩ : S37), (⟨12, 0, 1, 0, 4⟩ : S37), (⟨5, 0, 0, 0, a1⟩ : S37), (⟨11, 0, 0, 0, 0⟩ : S37), (⟨9, 0, 0, 0, a1⟩ : S37), (⟨13, 0, 0, 0, 0⟩ : S37)] : List (S37))) := ⟨_, rfl⟩
    replace H : (some (y210, true)) = some (r1, r2) := by first | (rw [hy210]; with_reducible exact H) | (have H2_ := (Option.bind_some _ _).symm.trans H; rw [hy210]; with_reducible exact H2_) | (have H2_ := (Option.bind_some _ _).symm.trans H; with_reducible exact H2_) | with_reducible exact H | (rw [hy210]; exact H) | exact H
    have Ny210 := Aside0.mk hy210
    clear hy210
    simp only [Option.some.injEq, Prod.mk.injEq] at H
    obtain ⟨rfl, rfl⟩ := H
    go_enter Try.func46, Try.ntmps46
    go_wp2_with (first | ((with_reducible refine gate_callee (f := 130) rfl ?_); refine goesL_ (some 7) rfl rfl Try.func130 (by kernel_rfl) rfl #[.int .i64 a0] rfl att7_0_2 ?_; (with_reducible refine (impl_isChan.calls a0 true _ A3.out).mono ?_); rintro e w' ⟨rfl, ⟨nd, rfl⟩⟩; refine ⟨_, rfl, ?_⟩) | (go_at_call 130; (with_reducible refine (impl_isChan.calls a1 true _ A5.out).mono ?_); rintro e w' ⟨rfl, ⟨nd, rfl⟩⟩) | ((with_reducible refine gate_dst (N := 28) rfl ?_); refine Kd.R_lit k37 _ 37 ?hg (N := 28) ?hd (xs := ([(⟨6, 0, 0, 1, a0⟩ : S37), (⟨12, 0, 1, 0, 4⟩ : S37), (⟨5, 0, 0, 0, a1⟩ : S37), (⟨11, 0, 0, 0, 0⟩ : S37), (⟨9, 0, 0, 0, a1⟩ : S37), (⟨13, 0, 0, 0, 0⟩ : S37)] : List (S37))) (inner := [.int .i64 6, .int .i64 0, .int .i64 0, .int .i64 1, .int .i64 a0, .int .i64 12, .int .i64 0, .int .i64 1, .int .i64 0, .int .i64 4, .int .i64 5, .int .i64 0, .int .i64 0, .int .i64 0, .int .i64 a1, .int .i64 11, .int .i64 0, .int .i64 0, .int .i64 0, .int .i64 0, .int .i64 9, .int .i64 0, .int .i64 0, .int .i64 0, .int .i64 a1, .int .i64 13, .int .i64 0, .int .i64 0, .int .i64 0, .int .i64 0]) (ok := fun _ => True) (okp := fun _ => True) ?hr ?hp (fun _ hk => hk) trivial (Below.refl _ _) (Nat.le_refl _) (by simp) ?_; (case hd => rfl); (case hg => rfl); (case hr => first | (go_simp; done) | (go_simp; rfl)); (case hp => exact (Reps.c5 (show Kd.M k37 _ _ _ (⟨6, 0, 0, 1, a0⟩ : S37) [.int .i64 6, .int .i64 0, .int .i64 0, .int .i64 1, .int .i64 a0] from (k37_mkM _ _ _ (⟨6, 0, 0, 1, a0⟩ : S37) )) (Reps.c5 (show Kd.M k37 _ _ _ (⟨12, 0, 1, 0, 4⟩ : S37) [.int .i64 12, .int .i64 0, .int .i64 1, .int .i64 0, .int .i64 4] from (k37_mkM _ _ _ (⟨12, 0, 1, 0, 4⟩ : S37) )) (Reps.c5 (show Kd.M k37 _ _ _ (⟨5, 0, 0, 0, a1⟩ : S37) [.int .i64 5, .int .i64 0, .int .i64 0, .int .i64 0, .int .i64 a1] from (k37_mkM _ _ _ (⟨5, 0, 0, 0, a1⟩ : S37) )) (Reps.c5 (show Kd.M k37 _ _ _ (⟨11, 0, 0, 0, 0⟩ : S37) [.int .i64 11, .int .i64 0, .int .i64 0, .int .i64 0, .int .i64 0] from (k37_mkM _ _ _ (⟨11, 0, 0, 0, 0⟩ : S37) )) (Reps.c5 (show Kd.M k37 _ _ _ (⟨9, 0, 0, 0, a1⟩ : S37) [.int .i64 9, .int .i64 0, .int .i64 0, .int .i64 0, .int .i64 a1] from (k37_mkM _ _ _ (⟨9, 0, 0, 0, a1⟩ : S37) )) (Reps.c5 (show Kd.M k37 _ _ _ (⟨13, 0, 0, 0, 0⟩ : S37) [.int .i64 13, .int .i64 0, .int .i64 0, .int .i64 0, .int .i64 0] from (k37_mkM _ _ _ (⟨13, 0, 0, 0, 0⟩ : S37) )) (Reps.none _ _)))))))); intro v211 w8 ho9 hb hg_ hnew_; clear hg_ hnew_; (first | rw [← Ny210.out] at ho9 | (simp only [Int.reduceToNat] at ho9; rw [← Ny210.out] at ho9)); have n0_ := Aside0.mk (Kd.R_lower ho9 (below_size att7_0_1)); have n1_ := Aside0.mk (below_step att7_0_1 hb); clear HB; have HO212 := n0_; have HB := n1_; clear n0_ n1_; clear hb ho9))
    go_ret2
    exact ⟨_, by first | rfl | (simp [errW_none, errW_some] <;> rfl) | (simp [*, errW_none, errW_some] <;> rfl), by (with_reducible repeat (first | apply Kd.R_alloc | apply Kd.R_drewN | apply Kd.R_drew)); exact HO212.out, att7_0_1⟩
  ·replace c6 := Bool.eq_false_iff.mpr c6
   subst c6
   rw [if_neg (show ¬ (false = true) by decide)] at H
   simp only [Option.some.injEq, Prod.mk.injEq] at H
   obtain ⟨rfl, rfl⟩ := H
   go_enter Try.func46, Try.ntmps46
   go_wp2_with (first | ((with_reducible refine gate_callee (f := 130) rfl ?_); refine goesL_ (some 7) rfl rfl Try.func130 (by kernel_rfl) rfl #[.int .i64 a0] rfl att7_0_2 ?_; (with_reducible refine (impl_isChan.calls a0 true _ A3.out).mono ?_); rintro e w' ⟨rfl, ⟨nd, rfl⟩⟩; refine ⟨_, rfl, ?_⟩) | (go_at_call 130; (with_reducible refine (impl_isChan.calls a1 false _ A5.out).mono ?_); rintro e w' ⟨rfl, ⟨nd, rfl⟩⟩))
   go_ret2
   exact ⟨_, by first | rfl | (simp [errW_none, errW_some] <;> rfl) | (simp [*, errW_none, errW_some] <;> rfl), by first | exact Kd.R_nil _ _ _ _ _ | exact Kd.N_nil _ _ _ _ _ | exact Kd.V_nil _ _ _ _ _ | exact Kd.Q_nil _ _ _ _ _ | exact Kd.S_nil _ _ _ _ _, att7_0_1⟩
 ·replace c4 := Bool.eq_false_iff.mpr c4
  subst c4
  rw [if_neg (show ¬ (false = true) by decide)] at H
  simp only [Option.some.injEq, Prod.mk.injEq] at H
  obtain ⟨rfl, rfl⟩ := H
  go_enter Try.func46, Try.ntmps46
  go_wp2_with (first | ((with_reducible refine gate_callee (f := 130) rfl ?_); refine goesL_ (some 7) rfl rfl Try.func130 (by kernel_rfl) rfl #[.int .i64 a0] rfl att7_0_2 ?_; (with_reducible refine (impl_isChan.calls a0 false _ A3.out).mono ?_); rintro e w' ⟨rfl, ⟨nd, rfl⟩⟩; refine ⟨_, rfl, ?_⟩))
  go_ret2
  exact ⟨_, by first | rfl | (simp [errW_none, errW_some] <;> rfl) | (simp [*, errW_none, errW_some] <;> rfl), by first | exact Kd.R_nil _ _ _ _ _ | exact Kd.N_nil _ _ _ _ _ | exact Kd.V_nil _ _ _ _ _ | exact Kd.Q_nil _ _ _ _ _ | exact Kd.S_nil _ _ _ _ _, att7_0_1⟩

/-! ### impl_SumBody: function 49 -/
def impl_SumBody.f (a0 : Int) : Option ((List (S37)) × Bool) := (impl_isChan.f a0).bind fun t213 => (if t213 = true then (some ((([(⟨6, 0, 0, 1, a0⟩ : S37), (⟨12, 0, 1, 0, 4⟩ : S37), (⟨2, 2, 2, 0, 0⟩ : S37), (⟨11, 0, 0, 0, 0⟩ : S37), (⟨10, 0, 2, 0, 0⟩ : S37), (⟨13, 0, 0, 0, 0⟩ : S37)] : List (S37))), true)) else (some (([] : List (S37)), false)))
set_option maxHeartbeats 80000000 in
set_option maxRecDepth 100000 in
theorem impl_SumBody.calls (a0 : Int) (r1 : List (S37)) (r2 : Bool) (w : World) (h : impl_SumBody.f a0 = some (r1, r2)) :
  Calls Try.prog 49 #[.int .i64 a0] w fun e w' => ∃ v0_ : Value, e = .returned (.tuple #[v0_, .bool r2]) ∧ Kd.R k37 37 w' w.heap.size (fun _ => True) v0_ r1 ∧ Below w.heap.size w w' := by
 have hu37 := Try.underlying37
 have HB := Aside0.mk (Below.refl w.heap.size w)
 have H : ((impl_isChan.f a0).bind fun t213 => (if t213 = true then (some ((([(⟨6, 0, 0, 1, a0⟩ : S37), (⟨12, 0, 1, 0, 4⟩ : S37), (⟨2, 2, 2, 0, 0⟩ : S37), (⟨11, 0, 0, 0, 0⟩ : S37), (⟨10, 0, 2, 0, 0⟩ : S37), (⟨13, 0, 0, 0, 0⟩ : S37)] : List (S37))), true)) else (some (([] : List (S37)), false)))) = some (r1, r2) := h
 clear h
 replace H := Option.bind_eq_some_iff.mp H
 obtain ⟨t213, A20, H⟩ := H
 (try dsimp only at H)
 have A2 := Aside0.mk A20
 clear A20
 by_cases c3 : t213 = true
 ·subst c3
  rw [if_pos rfl] at H
  obtain ⟨y214, hy214⟩ : ∃ y_ : List (S37), y_ = (([(⟨6, 0, 0, 1, a0⟩ : S37), (⟨12, 0, 1, 0, 4⟩ : S37), (⟨2, 2, 2, 0, 0⟩ : S37), (⟨11, 0, 0, 0, 0⟩ : S37), (⟨10, 0, 2, 0, 0⟩ : S37), (⟨13, 0, 0, 0, 0⟩ : S37)] : List (S37))) := ⟨_, rfl⟩
  replace H : (some (y214, true)) = some (r1, r2) := by first | (rw [hy214]; with_reducible exact H) | (have H2_ := (Option.bind_some _ _).symm.trans H; rw [hy214]; with_reducible exact H2_) | (have H2_ := (Option.bind_some _ _).symm.trans H; with_reducible exact H2_) | with_reducible exact H | (rw [hy214]; exact H) | exact H
  have Ny214 := Aside0.mk hy214
  clear hy214
  simp only [Option.some.injEq, Prod.mk.injEq] at H
  obtain ⟨rfl, rfl⟩ := H
  go_enter Try.func49, Try.ntmps49
  go_wp2_with (first | ((with_reducible refine gate_callee (f := 130) rfl ?_); refine goesL_ (some 5) rfl rfl Try.func130 (by kernel_rfl) rfl #[.int .i64 a0] rfl att7_0_2 ?_; (with_reducible refine (impl_isChan.calls a0 true _ A2.out).mono ?_); rintro e w' ⟨rfl, ⟨nd, rfl⟩⟩; refine ⟨_, rfl, ?_⟩) | ((with_reducible refine gate_dst (N := 14) rfl ?_); refine Kd.R_lit k37 _ 37 ?hg (N := 14) ?hd (xs := ([(⟨6, 0, 0, 1, a0⟩ : S37), (⟨12, 0, 1, 0, 4⟩ : S37), (⟨2, 2, 2, 0, 0⟩ : S37), (⟨11, 0, 0, 0, 0⟩ : S37), (⟨10, 0, 2, 0, 0⟩ : S37), (⟨13, 0, 0, 0, 0⟩ : S37)] : List (S37))) (inner := [.int .i64 6, .int .i64 0, .int .i64 0, .int .i64 1, .int .i64 a0, .int .i64 12, .int .i64 0, .int .i64 1, .int .i64 0, .int .i64 4, .int .i64 2, .int .i64 2, .int .i64 2, .int .i64 0, .int .i64 0, .int .i64 11, .int .i64 0, .int .i64 0, .int .i64 0, .int .i64 0, .int .i64 10, .int .i64 0, .int .i64 2, .int .i64 0, .int .i64 0, .int .i64 13, .int .i64 0, .int .i64 0, .int .i64 0, .int .i64 0]) (ok := fun _ => True) (okp := fun _ => True) ?hr ?hp (fun _ hk => hk) trivial (Below.refl _ _) (Nat.le_refl _) (by simp) ?_; (case hd => rfl); (case hg => rfl); (case hr => first | (go_simp; done) | (go_simp; rfl)); (case hp => exact (Reps.c5 (show Kd.M k37 _ _ _ (⟨6, 0, 0, 1, a0⟩ : S37) [.int .i64 6, .int .i64 0, .int .i64 0, .int .i64 1, .int .i64 a0] from (k37_mkM _ _ _ (⟨6, 0, 0, 1, a0⟩ : S37) )) (Reps.c5 (show Kd.M k37 _ _ _ (⟨12, 0, 1, 0, 4⟩ : S37) [.int .i64 12, .int .i64 0, .int .i64 1, .int .i64 0, .int .i64 4] from (k37_mkM _ _ _ (⟨12, 0, 1, 0, 4⟩ : S37) )) (Reps.c5 (show Kd.M k37 _ _ _ (⟨2, 2, 2, 0, 0⟩ : S37) [.int .i64 2, .int .i64 2, .int .i64 2, .int .i64 0, .int .i64 0] from (k37_mkM _ _ _ (⟨2, 2, 2, 0, 0⟩ : S37) )) (Reps.c5 (show Kd.M k37 _ _ _ (⟨11, 0, 0, 0, 0⟩ : S37) [.int .i64 11, .int .i64 0, .int .i64 0, .int .i64 0, .int .i64 0] from (k37_mkM _ _ _ (⟨11, 0, 0, 0, 0⟩ : S37) )) (Reps.c5 (show Kd.M k37 _ _ _ (⟨10, 0, 2, 0, 0⟩ : S37) [.int .i64 10, .int .i64 0, .int .i64 2, .int .i64 0, .int .i64 0] from (k37_mkM _ _ _ (⟨10, 0, 2, 0, 0⟩ : S37) )) (Reps.c5 (show Kd.M k37 _ _ _ (⟨13, 0, 0, 0, 0⟩ : S37) [.int .i64 13, .int .i64 0, .int .i64 0, .int .i64 0, .int .i64 0] from (k37_mkM _ _ _ (⟨13, 0, 0, 0, 0⟩ : S37) )) (Reps.none _ _)))))))); intro v215 w4 ho5 hb hg_ hnew_; clear hg_ hnew_; (first | rw [← Ny214.out] at ho5 | (simp only [Int.reduceToNat] at ho5; rw [← Ny214.out] at ho5)); have n0_ := Aside0.mk (Kd.R_lower ho5 (below_size att7_0_1)); have n1_ := Aside0.mk (below_step att7_0_1 hb); clear HB; have HO216 := n0_; have HB := n1_; clear n0_ n1_; clear hb ho5))
  go_ret2
  exact ⟨_, by first | rfl | (simp [errW_none, errW_some] <;> rfl) | (simp [*, errW_none, errW_some] <;> rfl), by (with_reducible repeat (first | apply Kd.R_alloc | apply Kd.R_drewN | apply Kd.R_drew)); exact HO216.out, att7_0_1⟩
 ·replace c3 := Bool.eq_false_iff.mpr c3
  subst c3
  rw [if_neg (show ¬ (false = true) by decide)] at H
  simp only [Option.some.injEq, Prod.mk.injEq] at H
  obtain ⟨rfl, rfl⟩ := H
  go_enter Try.func49, Try.ntmps49
  go_wp2_with (first | ((with_reducible refine gate_callee (f := 130) rfl ?_); refine goesL_ (some 5) rfl rfl Try.func130 (by kernel_rfl) rfl #[.int .i64 a0] rfl att7_0_2 ?_; (with_reducible refine (impl_isChan.calls a0 false _ A2.out).mono ?_); rintro e w' ⟨rfl, ⟨nd, rfl⟩⟩; refine ⟨_, rfl, ?_⟩))
  go_ret2
  exact ⟨_, by first | rfl | (simp [errW_none, errW_some] <;> rfl) | (simp [*, errW_none, errW_some] <;> rfl), by first | exact Kd.R_nil _ _ _ _ _ | exact Kd.N_nil _ _ _ _ _ | exact Kd.V_nil _ _ _ _ _ | exact Kd.Q_nil _ _ _ _ _ | exact Kd.S_nil _ _ _ _ _, att7_0_1⟩

/-! ### impl_capsOk: function 125 -/
def impl_capsOk.l0 : Nat → List Int → Int → Int → Option (Bool)
 | 0, _, _, _ => none
 | k + 1, x5, x6, x7 => if x7 < x6 then (if 0 ≤ x7 then (if x7 < (x5.length : Int) then ((impl_within.f (rd x5 x7) 1 4).bind fun t218 => (if t218 = true then (impl_capsOk.l0 k x5 x6 (wrap64 (x7 + 1))) else (some false))) else (none)) else (none)) else (some true)
def impl_capsOk.f (k : Nat) (l0 : List Int) : Option (Bool) := impl_capsOk.l0 k l0 (l0.length : Int) 0
theorem impl_capsOk.mono_l : ∀ k, (∀ y0 y1 y2, LeO (impl_capsOk.l0 k y0 y1 y2) (impl_capsOk.l0 (k + 1) y0 y1 y2))
 | 0 => fun _ _ _ r h => by simp [impl_capsOk.l0] at h
 | k + 1 => by
  have ih0 := impl_capsOk.mono_l k
  ·intro y0 y1 y2
   unfold impl_capsOk.l0
   repeat' first
   | (with_reducible exact ih0 _ _ _)
   | (with_reducible exact LeO.refl _)
   | (with_reducible exact LeO.none _)
   | (with_reducible refine LeO.ite ?_ ?_)
   | (with_reducible refine LeO.bind ?_ (fun _ => ?_))
   | exact ih0 _ _ _
   | exact LeO.none _
   | refine LeO.ite ?_ ?_
   | refine LeO.bind ?_ (fun _ => ?_)
theorem impl_capsOk.mono : ∀ a0 k, LeO (impl_capsOk.f k a0) (impl_capsOk.f (k + 1) a0) := by
 intro a0 k
 have ih0 := impl_capsOk.mono_l k
 unfold impl_capsOk.f
 repeat' first
   | (with_reducible exact ih0 _ _ _)
   | (with_reducible exact LeO.refl _)
   | (with_reducible exact LeO.none _)
   | (with_reducible refine LeO.ite ?_ ?_)
   | (with_reducible refine LeO.bind ?_ (fun _ => ?_))
   | exact ih0 _ _ _
   | exact LeO.none _
   | refine LeO.ite ?_ ?_
   | refine LeO.bind ?_ (fun _ => ?_)
set_option maxHeartbeats 80000000 in
set_option maxRecDepth 100000 in
theorem impl_capsOk.calls (k : Nat) (A0 : Option Addr) (c0 : Nat) (l0 : List Int) (r : Bool) (w : World) (hr0 : Kd.C (Kd.int .i64) w A0 l0.length l0) (hc0 : l0.length ≤ c0) (h : impl_capsOk.f k l0 = some r) :
  Calls Try.prog 125 #[.slice A0 l0.length c0] w fun e w' => e = .returned (.bool r) ∧ Drawn0 w w' := by
 have HR0 := Aside0.mk hr0
 have HC0 := Aside0.mk hc0
 clear hr0 hc0
 have H : (impl_capsOk.l0 k l0 (l0.length : Int) 0) = some r := h
 clear h
 have H' := Aside0.mk H
 clear H
 go_enter Try.func125, Try.ntmps125
 go_wp2
 go_loopg [7] k (fun kq v7 w' => ∃ (x7_1 : Int), v7 = .int .i64 x7_1 ∧ Aside0 (impl_capsOk.l0 kq l0 (l0.length : Int) x7_1 = some r) ∧ Aside0 (kq ≤ k) ∧ Drawn0 w w')
 case atStart => exact ⟨(0), att7_0_15, H', ⟨Nat.le_refl _⟩, att7_0_13⟩
 case round =>
  clear H'
  try clear c1
  obtain ⟨x7_1, rfl, HA, HK1, ⟨m1, rfl⟩⟩ := hrel
  cases gk with
  | zero => exact absurd HA.out (by simp [impl_capsOk.l0])
  | succ k1 =>
   have H := HA.out
   clear HA
   simp only [impl_capsOk.l0] at H
   by_cases c2 : x7_1 < (l0.length : Int)
   ·rw [if_pos c2] at H
    have c2b0 : decide (x7_1 < (l0.length : Int)) = true := decide_eq_true c2
    clear c2
    by_cases c3 : 0 ≤ x7_1
    ·rw [if_pos c3] at H
     have c3b0 : decide (0 ≤ x7_1) = true := decide_eq_true c3
     clear c3
     by_cases c4 : x7_1 < (l0.length : Int)
     ·rw [if_pos c4] at H
      have c4b0 : decide (x7_1 < (l0.length : Int)) = true := decide_eq_true c4
      clear c4
      replace H := Option.bind_eq_some_iff.mp H
      obtain ⟨t218, A50, H⟩ := H
      (try dsimp only at H)
      have A5 := Aside0.mk A50
      clear A50
      by_cases c6 : t218 = true
      ·subst c6
       rw [if_pos rfl] at H
       have H' := Aside0.mk H
       clear H
       have p217 : 0 ≤ (x7_1 : Int) := of_decide_eq_true att7_0_12
       have q217 : x7_1 < (l0.length : Int) := of_decide_eq_true att7_0_12
       obtain ⟨ad217, e217, hx217_0⟩ := Kd.at_int HR0.out x7_1 p217 q217
       cases e217
       replace p217 := eq_true p217
       replace q217 := eq_true q217
       go_wp2_with (first | ((with_reducible refine gate_callee (f := 117) rfl ?_); refine goesL_ (some 12) rfl rfl Try.func117 (by kernel_rfl) rfl #[.int .i64 (rd l0 x7_1), .int .i64 1, .int .i64 4] rfl att7_0_2 ?_; (with_reducible refine (impl_within.calls (rd l0 x7_1) 1 4 true _ A5.out).mono ?_); rintro e w' ⟨rfl, ⟨nd, rfl⟩⟩; refine ⟨_, rfl, ?_⟩))
       go_roundg k1
       case measure => have := HK1.out; omega
       case rel => exact ⟨(wrap64 (x7_1 + 1)), att7_0_15, H', ⟨by have := HK1.out; omega⟩, att7_0_13⟩
      ·replace c6 := Bool.eq_false_iff.mpr c6
       subst c6
       rw [if_neg (show ¬ (false = true) by decide)] at H
       obtain rfl := Option.some.inj H
       have p217 : 0 ≤ (x7_1 : Int) := of_decide_eq_true att7_0_12
       have q217 : x7_1 < (l0.length : Int) := of_decide_eq_true att7_0_12
       obtain ⟨ad217, e217, hx217_0⟩ := Kd.at_int HR0.out x7_1 p217 q217
       cases e217
       replace p217 := eq_true p217
       replace q217 := eq_true q217
       go_wp2_with (first | ((with_reducible refine gate_callee (f := 117) rfl ?_); refine goesL_ (some 12) rfl rfl Try.func117 (by kernel_rfl) rfl #[.int .i64 (rd l0 x7_1), .int .i64 1, .int .i64 4] rfl att7_0_2 ?_; (with_reducible refine (impl_within.calls (rd l0 x7_1) 1 4 false _ A5.out).mono ?_); rintro e w' ⟨rfl, ⟨nd, rfl⟩⟩; refine ⟨_, rfl, ?_⟩))
       go_ret
       exact ⟨by first | rfl | (simp; done) | (simp [*]; done), att7_0_13⟩
     ·rw [if_neg c4] at H
      exact absurd H (by simp)
    ·rw [if_neg c3] at H
     exact absurd H (by simp)
   ·rw [if_neg c2] at H
    have c2b0 : decide (x7_1 < (l0.length : Int)) = false := decide_eq_false c2
    clear c2
    obtain rfl := Option.some.inj H
    go_wp2
    go_ret
    exact ⟨by first | rfl | (simp; done) | (simp [*]; done), att7_0_13⟩

/-! ### impl_copyInts: function 126 -/
def impl_copyInts.f (l0 : List Int) : Option (List Int) := (some (([] : List Int) : List Int)).bind fun y219 => (if y219.length + l0.length < 17592186044416 then (some (y219 ++ l0)) else (none))
set_option maxHeartbeats 80000000 in
set_option maxRecDepth 100000 in
theorem impl_copyInts.calls (A0 : Option Addr) (c0 : Nat) (l0 : List Int) (r : List Int) (w : World) (hr0 : Kd.C (Kd.int .i64) w A0 l0.length l0) (hc0 : l0.length ≤ c0) (h : impl_copyInts.f l0 = some r) :
  Calls Try.prog 126 #[.slice A0 l0.length c0] w fun e w' => ∃ v0_ : Value, e = .returned (v0_) ∧ Kd.R (Kd.int .i64) 3 w' w.heap.size (fun _ => True) v0_ r ∧ Below w.heap.size w w' := by
 have HR0 := Aside0.mk hr0
 have HC0 := Aside0.mk hc0
 clear hr0 hc0
 have HB := Aside0.mk (Below.refl w.heap.size w)
 have H : ((some (([] : List Int) : List Int)).bind fun y219 => (if y219.length + l0.length < 17592186044416 then (some (y219 ++ l0)) else (none))) = some r := h
 clear h
 obtain ⟨y219, hy219⟩ : ∃ y_ : List Int, y_ = (([] : List Int)) := ⟨_, rfl⟩
 replace H : (if y219.length + l0.length < 17592186044416 then (some (y219 ++ l0)) else (none)) = some r := by first | (rw [hy219]; with_reducible exact H) | (have H2_ := (Option.bind_some _ _).symm.trans H; rw [hy219]; with_reducible exact H2_) | (have H2_ := (Option.bind_some _ _).symm.trans H; with_reducible exact H2_) | with_reducible exact H | (rw [hy219]; exact H) | exact H
 have Ny219 := Aside0.mk hy219
 clear hy219
 by_cases c2 : y219.length + l0.length < 17592186044416
 ·rw [if_pos c2] at H
  have LMc2 := Aside0.mk c2
  clear c2
  obtain ⟨y222, hy222⟩ : ∃ y_ : List Int, y_ = (y219 ++ l0) := ⟨_, rfl⟩
  replace H : (some y222) = some r := by first | (rw [hy222]; with_reducible exact H) | (have H2_ := (Option.bind_some _ _).symm.trans H; rw [hy222]; with_reducible exact H2_) | (have H2_ := (Option.bind_some _ _).symm.trans H; with_reducible exact H2_) | with_reducible exact H | (rw [hy222]; exact H) | exact H
  have Ny222 := Aside0.mk hy222
  clear hy222
  obtain rfl := Option.some.inj H
  go_enter Try.func126, Try.ntmps126
  go_wp2_with (first | ((with_reducible refine gate_dst (N := 3) rfl ?_); refine Kd.R_lit (Kd.int .i64) _ 3 ?hg (N := 3) ?hd (xs := ([] : List Int)) (inner := []) (ok := fun _ => True) (okp := fun _ => True) ?hr ?hp (fun _ hk => hk) trivial (Below.refl _ _) (Nat.le_refl _) (by simp) ?_; (case hd => rfl); (case hg => rfl); (case hr => first | (go_simp; done) | (go_simp; rfl)); (case hp => exact (Reps.none _ _)); intro v220 w3 ho4 hb hg_ hnew_; clear hg_ hnew_; (first | rw [← Ny219.out] at ho4 | (simp only [Int.reduceToNat] at ho4; rw [← Ny219.out] at ho4)); have n0_ := Aside0.mk (Kd.R_lower ho4 (below_size att7_0_1)); have n1_ := Aside0.mk (below_step att7_0_1 hb); clear HB; have HO221 := n0_; have HB := n1_; clear n0_ n1_; clear hb ho4) | ((with_reducible refine gate_builtin (b := .append) (xs := #[.tmp 3, .tmp 4]) rfl ?_); at_builtin; refine Kd.R_append_rows (Kd.int .i64) (w0 := w) w.heap.size rfl (.tmp 3) (.tmp 4) 22 3 (.int .i64 0) 8 rfl Try.underlying22 info3 rfl (by decide) (by omega) v220 y219 l0 _ _ _ (fun _ => True) (fun _ => False) rfl rfl ?aO ?aR (fun _ _ h => h) (fun _ h => h.elim) ?aF ?aB ?aS ?aL ?_; (case aR => repeat (first | exact (Kd.C_below HR0.out HB.out) | (with_reducible refine Kd.C_alloc ?_ _) | (with_reducible refine Kd.C_drewN ?_ _) | (with_reducible refine Kd.C_drew ?_))); (case aB => exact att7_0_1); (case aF => exact (fun _ _ => trivial)); (case aO => exact (by (with_reducible repeat (first | apply Kd.R_alloc | apply Kd.R_drewN | apply Kd.R_drew)); exact HO221.out)); (case aS => exact (below_size att7_0_1)); (case aL => have := LMc2.out; omega); intro v223 w5 ho hb hg hat; rw [← Ny222.out] at ho; have n0_ := Aside0.mk (hb); have n1_ := Aside0.mk (ho); clear HB; clear HO221; have HB := n0_; have HO224 := n1_; clear n0_ n1_; clear ho hb hg hat))
  go_ret
  exact ⟨_, by first | rfl | (simp [errW_none, errW_some] <;> rfl) | (simp [*, errW_none, errW_some] <;> rfl), by (with_reducible repeat (first | apply Kd.R_alloc | apply Kd.R_drewN | apply Kd.R_drew)); exact HO224.out, att7_0_1⟩
 ·rw [if_neg c2] at H
  exact absurd H (by simp)

end Go.Proofs.Ytonlhgkpmjefkaa.XFnExactPipe
