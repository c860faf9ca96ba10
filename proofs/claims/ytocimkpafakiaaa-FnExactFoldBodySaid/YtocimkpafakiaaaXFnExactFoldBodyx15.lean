/- Each Go function that the law reaches as a Lean function, and that Go comes to just its answer; written by this session's xprint.py over the kit's printer. -/
import Derived.Test.YtocimkpafakiaaaXFnExactFoldBodyx0
import Derived.Test.YtocimkpafakiaaaXFnExactFoldBodyx14
namespace Go.Proofs.Ytocimkpafakiaaa.XFnExactFoldBody
open Go.RowKit Go.Proofs.YtocimkpafakiaaaW.PrintWords Go.Proofs.YtocimkpafakiaaaW.PrintLast Go.Proofs.YtocimkpafakiaaaW.PrintMore
attribute [local go_sem] max2_int min2_int max_two min_two max_three min_three max_four min_four   -- for this text's walks alone
set_option linter.unusedVariables false
set_option linter.unusedSimpArgs false

theorem att16_0_0 {p : Prop} (h : p := by repeat (first | (with_reducible first | exact HB.out | apply below_alloc | apply pw_below_drewN | apply below_drew1 | refine below_set ?_ GE338.out) | exact HB.out)) : p := h
theorem att16_0_1 {p : Prop} (h : p := by first | (with_reducible assumption) | assumption) : p := h
theorem att16_0_2 {p : Prop} (h : p := by (with_reducible repeat (first | refine blk_drewN ?_ _ | refine blk_drew ?_ | refine blk_alloc ?_ _)); exact BK338.out) : p := h
theorem att16_0_3 {p : Prop} (h : p := by (with_reducible repeat (first | apply Kd.R_alloc | apply Kd.R_drewN | apply Kd.R_drew)); exact HO_5.out) : p := h
theorem att16_0_4 {p : Prop} (h : p := by rintro w' ⟨s0, s1, s2, s3, s4, s5, s6, s7, s8⟩; go_simp; with_reducible rfl) : p := h
theorem att16_0_5 {p : Prop} (h : p := by repeat (first | (with_reducible first | exact HB.out | apply below_alloc | apply pw_below_drewN | apply below_drew1) | exact HB.out)) : p := h
theorem att16_0_6 {p : Prop} (h : p := by (with_reducible repeat (first | apply Kd.R_alloc | apply Kd.R_drewN | apply Kd.R_drew)); exact HO_12.out) : p := h
theorem att16_0_7 {p : Prop} (h : p := by first | rfl | (simp; done) | (simp [*]; done)) : p := h
theorem att16_0_8 {p : Prop} (h : p := by (try simp only [List.map_toArray, List.map_cons, List.map_nil]); first | done | rfl | (simp only [List.length_drop, List.length_take]; rfl)) : p := h
theorem att16_0_9 {p : Prop} (h : p := by (with_reducible repeat (first | apply Kd.R_alloc | apply Kd.R_drewN | apply Kd.R_drew)); exact HO344.out) : p := h
theorem att16_0_10 {p : Prop} (h : p := by have := HK1.out; first | omega | exact Nat.le_refl _) : p := h
theorem att16_1_0 {p : Prop} (h : p := by have h_ : (a0_1 : Int) < ((x5_1.length : Int) : Int) := of_decide_eq_true att16_0_1; first | exact h_ | (have e_ := (Kd.R_reads' HO_5.out).1; omega) | simpa using h_) : p := h
theorem att16_1_1 {p : Prop} (h : p := by have h_ : ((rd t345 x14_1) : Int) < ((x5_1.length : Int) : Int) := of_decide_eq_true att16_0_1; first | exact h_ | (have e_ := (Kd.R_reads' HO_5.out).1; omega) | simpa using h_) : p := h
/-! ### impl_behind: function 93 -/
mutual
def impl_behind.l0 : Nat → List (S83) → List (S83) → List Int → Int → Int → Int → Int → Int → Int → Int → Option ((List (S83)))
 | 0, _, _, _, _, _, _, _, _, _, _ => none
 | k + 1, x1, x5, x12, x13, x14, x339000, x339001, x339002, x339003, x339004 => if x14 < x13 then (if 0 ≤ x14 then (if x14 < (x12.length : Int) then (if 0 ≤ (rd x12 x14) then (if (rd x12 x14) < (x5.length : Int) then (impl_behind.l0 k x1 (x5.set ((rd x12 x14) : Int).toNat (⟨false, 0⟩ : S83)) x12 x13 (wrap64 (x14 + 1)) x339000 x339001 x339002 x339003 x339004) else (none)) else (none)) else (none)) else (none)) else (if x339000 = 1 then (if 0 ≤ x339001 then (if x339001 < (x5.length : Int) then (some (x5.set (x339001 : Int).toNat (⟨true, x339004⟩ : S83))) else (none)) else (none)) else (if x339000 = 2 then (impl_behind.j1 k x1 x5 (x339000 == 2) x339000 x339001 x339002 x339003 x339004) else (if x339000 = 3 then (impl_behind.j1 k x1 x5 (x339000 == 3) x339000 x339001 x339002 x339003 x339004) else (impl_behind.j1 k x1 x5 (x339000 == 4) x339000 x339001 x339002 x339003 x339004))))
def impl_behind.j1 : Nat → List (S83) → List (S83) → Bool → Int → Int → Int → Int → Int → Option ((List (S83)))
 | 0, _, _, _, _, _, _, _, _ => none
 | k + 1, x1, x5, x34, x339000, x339001, x339002, x339003, x339004 => if x34 = true then (if 0 ≤ x339002 then (if x339002 < (x1.length : Int) then (if (rd_T83 x1 x339002).f0 = true then (if 0 ≤ x339003 then (if x339003 < (x1.length : Int) then (if (rd_T83 x1 x339003).f0 = true then ((impl_compute.f x339000 ((rd_T83 x1 x339002).f1) ((rd_T83 x1 x339003).f1)).bind fun t355 => (if 0 ≤ x339001 then (if x339001 < (x5.length : Int) then (some (x5.set (x339001 : Int).toNat (⟨true, t355⟩ : S83))) else (none)) else (none))) else (some x5)) else (none)) else (none)) else (some x5)) else (none)) else (none)) else (some x5)
end
def impl_behind.f (k : Nat) (a0_0 : Int) (a0_1 : Int) (a0_2 : Int) (a0_3 : Int) (a0_4 : Int) (l1 : List (S83)) : Option ((List (S83))) := (some (([] : List (S83)) : List (S83))).bind fun y339 => (if y339.length + l1.length < 8796093022208 then ((impl_Sets.f k a0_0 a0_1 a0_2 a0_3 a0_4).bind fun t345 => (impl_behind.l0 k l1 (y339 ++ l1) t345 (t345.length : Int) 0 a0_0 a0_1 a0_2 a0_3 a0_4)) else (none))
theorem impl_behind.mono_l : ∀ k, (∀ y0 y1 y2 y3 y4 y5 y6 y7 y8 y9, LeO (impl_behind.l0 k y0 y1 y2 y3 y4 y5 y6 y7 y8 y9) (impl_behind.l0 (k + 1) y0 y1 y2 y3 y4 y5 y6 y7 y8 y9)) ∧ (∀ y0 y1 y2 y3 y4 y5 y6 y7, LeO (impl_behind.j1 k y0 y1 y2 y3 y4 y5 y6 y7) (impl_behind.j1 (k + 1) y0 y1 y2 y3 y4 y5 y6 y7))
 | 0 => ⟨fun _ _ _ _ _ _ _ _ _ _ r h => by simp [impl_behind.l0] at h, fun _ _ _ _ _ _ _ _ r h => by simp [impl_behind.j1] at h⟩
 | k + 1 => by
  obtain ⟨ih0, ih1⟩ := impl_behind.mono_l k
  refine ⟨?_, ?_⟩
  ·intro y0 y1 y2 y3 y4 y5 y6 y7 y8 y9
   unfold impl_behind.l0
   repeat' first
   | (with_reducible exact ih0 _ _ _ _ _ _ _ _ _ _)
   | (with_reducible exact ih1 _ _ _ _ _ _ _ _)
   | (with_reducible exact impl_Sets.mono _ _ _ _ _ _)
   | (with_reducible exact LeO.refl _)
   | (with_reducible exact LeO.none _)
   | (with_reducible refine LeO.ite ?_ ?_)
   | (with_reducible refine LeO.bind ?_ (fun _ => ?_))
   | exact ih0 _ _ _ _ _ _ _ _ _ _
   | exact ih1 _ _ _ _ _ _ _ _
   | exact impl_Sets.mono _ _ _ _ _ _
   | exact LeO.none _
   | refine LeO.ite ?_ ?_
   | refine LeO.bind ?_ (fun _ => ?_)
  ·intro y0 y1 y2 y3 y4 y5 y6 y7
   unfold impl_behind.j1
   repeat' first
   | (with_reducible exact ih0 _ _ _ _ _ _ _ _ _ _)
   | (with_reducible exact ih1 _ _ _ _ _ _ _ _)
   | (with_reducible exact impl_Sets.mono _ _ _ _ _ _)
   | (with_reducible exact LeO.refl _)
   | (with_reducible exact LeO.none _)
   | (with_reducible refine LeO.ite ?_ ?_)
   | (with_reducible refine LeO.bind ?_ (fun _ => ?_))
   | exact ih0 _ _ _ _ _ _ _ _ _ _
   | exact ih1 _ _ _ _ _ _ _ _
   | exact impl_Sets.mono _ _ _ _ _ _
   | exact LeO.none _
   | refine LeO.ite ?_ ?_
   | refine LeO.bind ?_ (fun _ => ?_)
theorem impl_behind.mono : ∀ a0 a1 a2 a3 a4 a5 k, LeO (impl_behind.f k a0 a1 a2 a3 a4 a5) (impl_behind.f (k + 1) a0 a1 a2 a3 a4 a5) := by
 intro a0 a1 a2 a3 a4 a5 k
 obtain ⟨ih0, ih1⟩ := impl_behind.mono_l k
 unfold impl_behind.f
 repeat' first
   | (with_reducible exact ih0 _ _ _ _ _ _ _ _ _ _)
   | (with_reducible exact ih1 _ _ _ _ _ _ _ _)
   | (with_reducible exact impl_Sets.mono _ _ _ _ _ _)
   | (with_reducible exact LeO.refl _)
   | (with_reducible exact LeO.none _)
   | (with_reducible refine LeO.ite ?_ ?_)
   | (with_reducible refine LeO.bind ?_ (fun _ => ?_))
   | exact ih0 _ _ _ _ _ _ _ _ _ _
   | exact ih1 _ _ _ _ _ _ _ _
   | exact impl_Sets.mono _ _ _ _ _ _
   | exact LeO.none _
   | refine LeO.ite ?_ ?_
   | refine LeO.bind ?_ (fun _ => ?_)
def impl_behind.T14 : Bool × List (List Nat × List Nat) := (true, [([], []), ([], []), ([1], [1]), ([], []), ([3], [3]), ([], []), ([], []), ([6], [6]), ([5, 7], [5, 7]), ([8], [8]), ([9], [9]), ([], []), ([], []), ([12], [12]), ([11, 13], [11, 13]), ([14], [14]), ([15], [15]), ([4, 10, 16], [4, 10, 16]), ([17], [17]), ([0, 2, 0, 1, 2, 3, 4, 5, 6, 7, 8, 9, 10, 11, 12, 13, 14, 15, 16, 17, 18], [0, 2]), ([19, 18, 17, 0, 1, 2, 3, 4, 5, 6, 7, 8, 9, 10, 11, 12, 13, 14, 15, 16, 17, 18], [18, 19])])
def impl_behind.B14 : List Nat := [0, 0, 2, 0, 8, 0, 0, 64, 224, 480, 992, 0, 0, 4096, 14336, 30720, 63488, 131064, 262136, 524287, 1048575]
theorem impl_behind.tab14 : rtab .any (opsOf Try.f93 14) = impl_behind.T14 := by kernel_rfl
theorem impl_behind.bits14 : waitsOk impl_behind.T14.2 impl_behind.B14 = true := by kernel_rfl
set_option maxHeartbeats 80000000 in
set_option maxRecDepth 100000 in
theorem impl_behind.calls (k : Nat) (a0_0 : Int) (a0_1 : Int) (a0_2 : Int) (a0_3 : Int) (a0_4 : Int) (A1 : Option Addr) (c1 : Nat) (l1 : List (S83)) (r : List (S83)) (w : World) (hr1 : Kd.C k83 w A1 l1.length l1) (hc1 : l1.length ≤ c1) (h : impl_behind.f k a0_0 a0_1 a0_2 a0_3 a0_4 l1 = some r) :
  Calls Try.prog 93 #[.agg #[.int .i64 a0_0, .int .i64 a0_1, .int .i64 a0_2, .int .i64 a0_3, .int .i64 a0_4], .slice A1 l1.length c1] w fun e w' => ∃ v0_ : Value, e = .returned (v0_) ∧ Kd.R k83 83 w' w.heap.size (fun _ => True) v0_ r ∧ Below w.heap.size w w' := by
 have hu63 := Try.underlying63
 have hu83 := Try.underlying83
 have HR1 := Aside0.mk hr1
 have HC1 := Aside0.mk hc1
 clear hr1 hc1
 have HB := Aside0.mk (Below.refl w.heap.size w)
 have H : ((some (([] : List (S83)) : List (S83))).bind fun y339 => (if y339.length + l1.length < 8796093022208 then ((impl_Sets.f k a0_0 a0_1 a0_2 a0_3 a0_4).bind fun t345 => (impl_behind.l0 k l1 (y339 ++ l1) t345 (t345.length : Int) 0 a0_0 a0_1 a0_2 a0_3 a0_4)) else (none))) = some r := h
 clear h
 obtain ⟨y339, hy339⟩ : ∃ y_ : List (S83), y_ = (([] : List (S83))) := ⟨_, rfl⟩
 replace H : (if y339.length + l1.length < 8796093022208 then ((impl_Sets.f k a0_0 a0_1 a0_2 a0_3 a0_4).bind fun t345 => (impl_behind.l0 k l1 (y339 ++ l1) t345 (t345.length : Int) 0 a0_0 a0_1 a0_2 a0_3 a0_4)) else (none)) = some r := by first | (rw [hy339]; with_reducible exact H) | (have H2_ := (Option.bind_some _ _).symm.trans H; rw [hy339]; with_reducible exact H2_) | (have H2_ := (Option.bind_some _ _).symm.trans H; with_reducible exact H2_) | with_reducible exact H | (rw [hy339]; exact H) | exact H
 have Ny339 := Aside0.mk hy339
 clear hy339
 by_cases c3 : y339.length + l1.length < 8796093022208
 ·rw [if_pos c3] at H
  have LMc3 := Aside0.mk c3
  clear c3
  obtain ⟨y342, hy342⟩ : ∃ y_ : List (S83), y_ = (y339 ++ l1) := ⟨_, rfl⟩
  replace H : ((impl_Sets.f k a0_0 a0_1 a0_2 a0_3 a0_4).bind fun t345 => (impl_behind.l0 k l1 y342 t345 (t345.length : Int) 0 a0_0 a0_1 a0_2 a0_3 a0_4)) = some r := by first | (rw [hy342]; with_reducible exact H) | (have H2_ := (Option.bind_some _ _).symm.trans H; rw [hy342]; with_reducible exact H2_) | (have H2_ := (Option.bind_some _ _).symm.trans H; with_reducible exact H2_) | with_reducible exact H | (rw [hy342]; exact H) | exact H
  have Ny342 := Aside0.mk hy342
  clear hy342
  replace H := Option.bind_eq_some_iff.mp H
  obtain ⟨t345, A40, H⟩ := H
  (try dsimp only at H)
  have A4 := Aside0.mk A40
  clear A40
  have H' := Aside0.mk H
  clear H
  go_enter Try.func93, Try.ntmps93
  go_wp2_with (first | ((with_reducible refine gate_dst (N := 2) rfl ?_); refine box_event ?hg (N := 2) ?hd (cs := #[.int .i64 a0_0, .int .i64 a0_1, .int .i64 a0_2, .int .i64 a0_3, .int .i64 a0_4]) (t := 63) ?hr ?_; (case hd => rfl); (case hg => rfl); (case hr => first | (go_simp; done) | (go_simp; rfl)); intro gb338 hg w5 hbox hb; have n0_ := Aside0.mk (below_step att16_0_5 hb); have n1_ := Aside0.mk (hbox); have n2_ := Aside0.mk ((by rw [hg]; exact (below_size att16_0_5) : w.heap.size ≤ gb338)); have n3_ := Aside0.mk ((by rw [hg]; exact (below_size att16_0_5) : w.heap.size ≤ gb338)); clear HB; have HB := n0_; have BK338 := n1_; have GW338 := n2_; have GE338 := n3_; clear n0_ n1_ n2_ n3_; clear hb hbox hg) | ((with_reducible refine gate_dst (N := 8) rfl ?_); refine Kd.R_lit k83 _ 83 ?hg (N := 8) ?hd (xs := ([] : List (S83))) (inner := []) (ok := fun _ => True) (okp := fun _ => True) ?hr ?hp (fun _ hk => hk) trivial (Below.refl _ _) (Nat.le_refl _) (by simp) ?_; (case hd => rfl); (case hg => rfl); (case hr => first | (go_simp; done) | (go_simp; rfl)); (case hp => exact (Reps.none _ _)); intro v340 w6 ho7 hb hg_ hnew_; clear hg_ hnew_; (first | rw [← Ny339.out] at ho7 | (simp only [Int.reduceToNat] at ho7; rw [← Ny339.out] at ho7)); have n0_ := Aside0.mk (Kd.R_lower ho7 (below_size att16_0_0)); have n1_ := Aside0.mk (blk_below (g := gb338) (o := .cells #[.int .i64 a0_0, .int .i64 a0_1, .int .i64 a0_2, .int .i64 a0_3, .int .i64 a0_4] 63 (0, 0)) att16_0_2 hb); have n2_ := Aside0.mk (below_step att16_0_0 hb); clear BK338; clear HB; have HO341 := n0_; have BK338 := n1_; have HB := n2_; clear n0_ n1_ n2_; clear hb ho7) | ((with_reducible refine gate_builtin (b := .append) (xs := #[.tmp 8, .tmp 9]) rfl ?_); at_builtin; refine Kd.R_append_rows k83 (w0 := w) w.heap.size rfl (.tmp 8) (.tmp 9) 81 83 (.agg #[(.bool false), (.int .i64 0)]) 16 rfl Try.underlying81 info83 rfl (by decide) (by omega) v340 y339 l1 _ _ _ (fun _ => True) (fun _ => False) rfl rfl ?aO ?aR (fun _ _ h => h) (fun _ h => h.elim) ?aF ?aB ?aS ?aL ?_; (case aR => repeat (first | exact (Kd.C_below HR1.out HB.out) | (with_reducible refine Kd.C_alloc ?_ _) | (with_reducible refine Kd.C_drewN ?_ _) | (with_reducible refine Kd.C_drew ?_))); (case aB => exact att16_0_0); (case aF => exact (fun _ _ => trivial)); (case aO => exact (by (with_reducible repeat (first | apply Kd.R_alloc | apply Kd.R_drewN | apply Kd.R_drew)); exact HO341.out)); (case aS => exact (below_size att16_0_0)); (case aL => have := LMc3.out; omega); intro v343 w8 ho hb hg hat; rw [← Ny342.out] at ho; have n0_ := Aside0.mk (blk_grown (g := gb338) (o := .cells #[.int .i64 a0_0, .int .i64 a0_1, .int .i64 a0_2, .int .i64 a0_3, .int .i64 a0_4] 63 (0, 0)) att16_0_2 hg (Kd.R_ne HO341.out BK338.out (by decide))); have n1_ := Aside0.mk (hb); have n2_ := Aside0.mk (ho); clear BK338; clear HB; clear HO341; have BK338 := n0_; have HB := n1_; have HO344 := n2_; clear n0_ n1_ n2_; clear ho hb hg hat; have hcz9_0 : w8.cell? ⟨gb338, 0, none⟩ = some (.int .i64 a0_0) := (blk_cell BK338.out 0).trans rfl; have hcz9_1 : w8.cell? ⟨gb338, 1, none⟩ = some (.int .i64 a0_1) := (blk_cell BK338.out 1).trans rfl; have hcz9_2 : w8.cell? ⟨gb338, 2, none⟩ = some (.int .i64 a0_2) := (blk_cell BK338.out 2).trans rfl; have hcz9_3 : w8.cell? ⟨gb338, 3, none⟩ = some (.int .i64 a0_3) := (blk_cell BK338.out 3).trans rfl; have hcz9_4 : w8.cell? ⟨gb338, 4, none⟩ = some (.int .i64 a0_4) := (blk_cell BK338.out 4).trans rfl; have hfz9_0 := blk_frozen BK338.out 0; have hfz9_1 := blk_frozen BK338.out 1; have hfz9_2 := blk_frozen BK338.out 2; have hfz9_3 := blk_frozen BK338.out 3; have hfz9_4 := blk_frozen BK338.out 4) | ((with_reducible refine gate_callee (f := 85) rfl ?_); refine goesL_ (some 12) rfl rfl Try.func85 (by kernel_rfl) rfl #[.agg #[.int .i64 a0_0, .int .i64 a0_1, .int .i64 a0_2, .int .i64 a0_3, .int .i64 a0_4]] rfl att16_0_8 ?_; (with_reducible refine (impl_Sets.calls k a0_0 a0_1 a0_2 a0_3 a0_4 t345 _ A4.out).mono ?_); rintro e w10 ⟨v346, rfl, ho0, hb⟩; refine ⟨_, rfl, ?_⟩; have n0_ := Aside0.mk (Kd.R_below att16_0_9 hb); have n1_ := Aside0.mk (Kd.R_lower ho0 (below_size att16_0_0)); have n2_ := Aside0.mk (blk_below (g := gb338) (o := .cells #[.int .i64 a0_0, .int .i64 a0_1, .int .i64 a0_2, .int .i64 a0_3, .int .i64 a0_4] 63 (0, 0)) att16_0_2 hb); have n3_ := Aside0.mk (below_step att16_0_0 hb); clear HO344; clear BK338; clear HB; have HO344 := n0_; have HO347 := n1_; have BK338 := n2_; have HB := n3_; clear n0_ n1_ n2_ n3_; (try clear hb); (try clear hb2); (try clear hk); (try clear hi); (try clear ho0); obtain ⟨Ao11, co11, eo11⟩ := Kd.R_slice HO347.out; subst eo11))
  go_loopg [14] k (fun kq v14 w' => ∃ (x5_1 : List (S83)) (x14_1 : Int), v14 = .int .i64 x14_1 ∧ Aside0 (impl_behind.l0 kq l1 x5_1 t345 (t345.length : Int) x14_1 a0_0 a0_1 a0_2 a0_3 a0_4 = some r) ∧ Aside0 (kq ≤ k) ∧ Aside0 (Kd.R k83 83 w' w.heap.size (fun _ => True) v343 x5_1) ∧ Aside0 (Kd.R (Kd.int .i64) 3 w' w.heap.size (fun _ => True) (.slice Ao11 t345.length co11) t345) ∧ Aside0 (w'.heap[gb338]? = some (.cells #[.int .i64 a0_0, .int .i64 a0_1, .int .i64 a0_2, .int .i64 a0_3, .int .i64 a0_4] 63 (0, 0))) ∧ Aside0 (Below w.heap.size w w'))
  case atStart => exact ⟨(y342), (0), att16_0_7, H', ⟨Nat.le_refl _⟩, ⟨att16_0_9⟩, ⟨by (with_reducible repeat (first | apply Kd.R_alloc | apply Kd.R_drewN | apply Kd.R_drew)); exact HO347.out⟩, ⟨att16_0_2⟩, ⟨att16_0_0⟩⟩
  case round =>
   clear H'
   try clear c1
   try clear p2
   try clear c3
   try clear c8
   try clear c9
   try clear hcz9_0
   try clear hcz9_1
   try clear hcz9_2
   try clear hcz9_3
   try clear hcz9_4
   try clear hfz9_0
   try clear hfz9_1
   try clear hfz9_2
   try clear hfz9_3
   try clear hfz9_4
   obtain ⟨x5_1, x14_1, rfl, HA, HK1, HO_5, HO_12, BK338, HB⟩ := hrel
   cases gk with
   | zero => exact absurd HA.out (by simp [impl_behind.l0])
   | succ k1 =>
    have H := HA.out
    clear HA
    simp only [impl_behind.l0] at H
    by_cases c12 : x14_1 < (t345.length : Int)
    ·rw [if_pos c12] at H
     have c12b0 : decide (x14_1 < (t345.length : Int)) = true := decide_eq_true c12
     clear c12
     by_cases c13 : 0 ≤ x14_1
     ·rw [if_pos c13] at H
      have c13b0 : decide (0 ≤ x14_1) = true := decide_eq_true c13
      clear c13
      by_cases c14 : x14_1 < (t345.length : Int)
      ·rw [if_pos c14] at H
       have c14b0 : decide (x14_1 < (t345.length : Int)) = true := decide_eq_true c14
       clear c14
       by_cases c15 : 0 ≤ (rd t345 x14_1)
       ·rw [if_pos c15] at H
        have c15b0 : decide (0 ≤ (rd t345 x14_1)) = true := decide_eq_true c15
        clear c15
        by_cases c16 : (rd t345 x14_1) < (x5_1.length : Int)
        ·rw [if_pos c16] at H
         have c16b0 : decide ((rd t345 x14_1) < (x5_1.length : Int)) = true := decide_eq_true c16
         clear c16
         obtain ⟨y349, hy349⟩ : ∃ y_ : List (S83), y_ = (x5_1.set ((rd t345 x14_1) : Int).toNat (⟨false, 0⟩ : S83)) := ⟨_, rfl⟩
         replace H : (impl_behind.l0 k1 l1 y349 t345 (t345.length : Int) (wrap64 (x14_1 + 1)) a0_0 a0_1 a0_2 a0_3 a0_4) = some r := by first | (rw [hy349]; with_reducible exact H) | (have H2_ := (Option.bind_some _ _).symm.trans H; rw [hy349]; with_reducible exact H2_) | (have H2_ := (Option.bind_some _ _).symm.trans H; with_reducible exact H2_) | with_reducible exact H | (rw [hy349]; exact H) | exact H
         have Ny349 := Aside0.mk hy349
         clear hy349
         have H' := Aside0.mk H
         clear H
         have p348 : 0 ≤ (x14_1 : Int) := of_decide_eq_true att16_0_1
         have q348 : x14_1 < (t345.length : Int) := of_decide_eq_true att16_0_1
         obtain ⟨ad348, e348, hx348_0⟩ := Kd.at_int (Kd.R_reads' HO_12.out).2.2 x14_1 p348 q348
         cases e348
         replace p348 := eq_true p348
         replace q348 := eq_true q348
         have p17 : 0 ≤ ((rd t345 x14_1) : Int) := of_decide_eq_true att16_0_1
         have q17 : ((rd t345 x14_1) : Int) < ((x5_1.length : Int) : Int) := of_decide_eq_true att16_0_1
         obtain ⟨go17, co17, eo17, gb17, gl17, cl17, HG17⟩ := Kd.R_form HO_5.out (by omega)
         (first | cases eo17 | (injection eo17 with ea_ en_ ec_; (first | subst ea_ | (injection ea_ with ea_; subst ea_)); subst ec_; clear en_))
         have GB17 := Aside0.mk gb17
         have GG17 := Aside0.mk HG17
         clear gb17 gl17 HG17
         obtain ⟨ce17, hcl17, hM17, hcc17, hfr17⟩ := Kd.R_elem HO_5.out z83 ((rd t345 x14_1) : Int) p17 q17
         obtain rfl := k83_openM hM17
         have hx17_0 : wr.cell? ⟨go17, ((rd t345 x14_1) : Int).toNat * 2, none⟩ = some (.bool ((rd_T83 x5_1 (rd t345 x14_1)).f0)) := hcc17 0 _ rfl
         have hx17_1 : wr.cell? ⟨go17, ((rd t345 x14_1) : Int).toNat * 2 + 1, none⟩ = some (.int .i64 ((rd_T83 x5_1 (rd t345 x14_1)).f1)) := hcc17 1 _ rfl
         have hf17_0 : wr.frozen? ⟨go17, ((rd t345 x14_1) : Int).toNat * 2, none⟩ = false := hfr17 0
         have hf17_1 : wr.frozen? ⟨go17, ((rd t345 x14_1) : Int).toNat * 2 + 1, none⟩ = false := hfr17 1
         clear hcl17 hcc17 hfr17 hM17
         replace p17 := eq_true p17
         replace q17 := eq_true q17
         have HX18 := Aside0.mk (show Kd.R k83 83 wr w.heap.size (fun _ => True) (.slice (some ⟨go17, 0, none⟩) x5_1.length co17) x5_1 from att16_0_3)
         obtain ⟨ce18, hcl18, hM18, hcc18, hfr18⟩ := Kd.R_elem HX18.out z83 ((rd t345 x14_1) : Int) (of_decide_eq_true att16_0_1) att16_1_1
         obtain rfl := k83_openM hM18
         have HP18 := Kd.R_seg HX18.out ((rd t345 x14_1) : Int) (of_decide_eq_true att16_0_1) att16_1_1 (seg := [.bool false, .int .i64 0]) (j := 0) hcl18 hcc18 (show 2 ≤ 2 from by decide) (x' := (⟨false, 0⟩ : S83)) (k83_mkM _ _ _ (⟨false, 0⟩ : S83) ) (fun _ hk => hk)
         have hx18_0 := hcc18 0 _ rfl
         (try simp only [show (k83).sz = 2 from rfl, Nat.mul_one, Nat.add_zero] at hx18_0)
         have hf18_0 := hfr18 0
         (try simp only [show (k83).sz = 2 from rfl, Nat.mul_one, Nat.add_zero] at hf18_0)
         have hx18_1 := hcc18 1 _ rfl
         (try simp only [show (k83).sz = 2 from rfl, Nat.mul_one, Nat.add_zero] at hx18_1)
         have hf18_1 := hfr18 1
         (try simp only [show (k83).sz = 2 from rfl, Nat.mul_one, Nat.add_zero] at hf18_1)
         clear hcl18 hcc18 hfr18 hM18
         go_wp2_with (first | ((with_reducible refine gate_store (t := 83) (p := 21) rfl ?_); refine store_event (t := 83) (p := 21) (v := ?vo_w19) (w1 := ((wr.setCell ⟨go17, ((rd t345 x14_1) : Int).toNat * 2, none⟩ (.bool false)).setCell ⟨go17, ((rd t345 x14_1) : Int).toNat * 2 + 1, none⟩ (.int .i64 0))) ?hg ?ho ?hn ?hr ?_; (case ho => rfl); (case hg => rfl); (case hn => rfl); (case hr => first | (go_simp; done) | (go_simp; rfl)); intro w19 hw; have hg : wr.grownBy w19 (some go17) := (by rw [hw]; exact HP18.2); have hp_ : Kd.R k83 83 w19 w.heap.size (fun _ => True) (.slice (some ⟨go17, 0, none⟩) x5_1.length co17) y349 := (by rw [hw, Ny349.out]; exact HP18.1); clear HP18; have n0_ := Aside0.mk (hp_); have n1_ := Aside0.mk (Kd.R_over' (v := (.slice (some ⟨go17, 0, none⟩) x5_1.length co17)) att16_0_6 (Kd.R_typed HO_5.out) (by decide) hg); have n2_ := Aside0.mk (blk_grown (g := gb338) (o := .cells #[.int .i64 a0_0, .int .i64 a0_1, .int .i64 a0_2, .int .i64 a0_3, .int .i64 a0_4] 63 (0, 0)) att16_0_2 hg (Kd.R_ne HO_5.out BK338.out (by decide))); have n3_ := Aside0.mk ((by rw [hw]; exact below_set (below_set (HB.out) GB17.out) GB17.out : Below w.heap.size w w19)); clear HO_5; clear HO_12; clear BK338; clear HB; have HO_5 := n0_; have HO_12 := n1_; have BK338 := n2_; have HB := n3_; clear n0_ n1_ n2_ n3_; clear hg hw hp_))
         go_roundg k1
         case measure => have := HK1.out; omega
         case rel => exact ⟨(y349), (wrap64 (x14_1 + 1)), att16_0_7, H', ⟨by have := HK1.out; omega⟩, ⟨att16_0_3⟩, ⟨att16_0_6⟩, ⟨att16_0_2⟩, ⟨att16_0_0⟩⟩
        ·rw [if_neg c16] at H
         exact absurd H (by simp)
       ·rw [if_neg c15] at H
        exact absurd H (by simp)
      ·rw [if_neg c14] at H
       exact absurd H (by simp)
     ·rw [if_neg c13] at H
      exact absurd H (by simp)
    ·rw [if_neg c12] at H
     have c12b0 : decide (x14_1 < (t345.length : Int)) = false := decide_eq_false c12
     clear c12
     by_cases c20 : a0_0 = 1
     ·rw [if_pos c20] at H
      have c20b0 : (a0_0 == 1) = true := beq_iff_eq.mpr c20
      have c20b1 : (a0_0 != 1) = false := bne_eq_false_iff_eq.mpr c20
      clear c20
      by_cases c21 : 0 ≤ a0_1
      ·rw [if_pos c21] at H
       have c21b0 : decide (0 ≤ a0_1) = true := decide_eq_true c21
       clear c21
       by_cases c22 : a0_1 < (x5_1.length : Int)
       ·rw [if_pos c22] at H
        have c22b0 : decide (a0_1 < (x5_1.length : Int)) = true := decide_eq_true c22
        clear c22
        obtain ⟨y350, hy350⟩ : ∃ y_ : List (S83), y_ = (x5_1.set (a0_1 : Int).toNat (⟨true, a0_4⟩ : S83)) := ⟨_, rfl⟩
        replace H : (some y350) = some r := by first | (rw [hy350]; with_reducible exact H) | (have H2_ := (Option.bind_some _ _).symm.trans H; rw [hy350]; with_reducible exact H2_) | (have H2_ := (Option.bind_some _ _).symm.trans H; with_reducible exact H2_) | with_reducible exact H | (rw [hy350]; exact H) | exact H
        have Ny350 := Aside0.mk hy350
        clear hy350
        obtain rfl := Option.some.inj H
        have hcz24_0 : wr.cell? ⟨gb338, 0, none⟩ = some (.int .i64 a0_0) := (blk_cell BK338.out 0).trans rfl
        have hcz24_1 : wr.cell? ⟨gb338, 1, none⟩ = some (.int .i64 a0_1) := (blk_cell BK338.out 1).trans rfl
        have hcz24_2 : wr.cell? ⟨gb338, 2, none⟩ = some (.int .i64 a0_2) := (blk_cell BK338.out 2).trans rfl
        have hcz24_3 : wr.cell? ⟨gb338, 3, none⟩ = some (.int .i64 a0_3) := (blk_cell BK338.out 3).trans rfl
        have hcz24_4 : wr.cell? ⟨gb338, 4, none⟩ = some (.int .i64 a0_4) := (blk_cell BK338.out 4).trans rfl
        have hfz24_0 := blk_frozen BK338.out 0
        have hfz24_1 := blk_frozen BK338.out 1
        have hfz24_2 := blk_frozen BK338.out 2
        have hfz24_3 := blk_frozen BK338.out 3
        have hfz24_4 := blk_frozen BK338.out 4
        have p23 : 0 ≤ (a0_1 : Int) := of_decide_eq_true att16_0_1
        have q23 : (a0_1 : Int) < ((x5_1.length : Int) : Int) := of_decide_eq_true att16_0_1
        obtain ⟨go23, co23, eo23, gb23, gl23, cl23, HG23⟩ := Kd.R_form HO_5.out (by omega)
        (first | cases eo23 | (injection eo23 with ea_ en_ ec_; (first | subst ea_ | (injection ea_ with ea_; subst ea_)); subst ec_; clear en_))
        have GB23 := Aside0.mk gb23
        have GG23 := Aside0.mk HG23
        clear gb23 gl23 HG23
        obtain ⟨ce23, hcl23, hM23, hcc23, hfr23⟩ := Kd.R_elem HO_5.out z83 (a0_1 : Int) p23 q23
        obtain rfl := k83_openM hM23
        have hx23_0 : wr.cell? ⟨go23, (a0_1 : Int).toNat * 2, none⟩ = some (.bool ((rd_T83 x5_1 a0_1).f0)) := hcc23 0 _ rfl
        have hx23_1 : wr.cell? ⟨go23, (a0_1 : Int).toNat * 2 + 1, none⟩ = some (.int .i64 ((rd_T83 x5_1 a0_1).f1)) := hcc23 1 _ rfl
        have hf23_0 : wr.frozen? ⟨go23, (a0_1 : Int).toNat * 2, none⟩ = false := hfr23 0
        have hf23_1 : wr.frozen? ⟨go23, (a0_1 : Int).toNat * 2 + 1, none⟩ = false := hfr23 1
        clear hcl23 hcc23 hfr23 hM23
        replace p23 := eq_true p23
        replace q23 := eq_true q23
        have HX25 := Aside0.mk (show Kd.R k83 83 wr w.heap.size (fun _ => True) (.slice (some ⟨go23, 0, none⟩) x5_1.length co23) x5_1 from att16_0_3)
        obtain ⟨ce25, hcl25, hM25, hcc25, hfr25⟩ := Kd.R_elem HX25.out z83 (a0_1 : Int) (of_decide_eq_true att16_0_1) att16_1_0
        obtain rfl := k83_openM hM25
        have HP25 := Kd.R_seg HX25.out (a0_1 : Int) (of_decide_eq_true att16_0_1) att16_1_0 (seg := [.bool true, .int .i64 a0_4]) (j := 0) hcl25 hcc25 (show 2 ≤ 2 from by decide) (x' := (⟨true, a0_4⟩ : S83)) (k83_mkM _ _ _ (⟨true, a0_4⟩ : S83) ) (fun _ hk => hk)
        have hx25_0 := hcc25 0 _ rfl
        (try simp only [show (k83).sz = 2 from rfl, Nat.mul_one, Nat.add_zero] at hx25_0)
        have hf25_0 := hfr25 0
        (try simp only [show (k83).sz = 2 from rfl, Nat.mul_one, Nat.add_zero] at hf25_0)
        have hx25_1 := hcc25 1 _ rfl
        (try simp only [show (k83).sz = 2 from rfl, Nat.mul_one, Nat.add_zero] at hx25_1)
        have hf25_1 := hfr25 1
        (try simp only [show (k83).sz = 2 from rfl, Nat.mul_one, Nat.add_zero] at hf25_1)
        clear hcl25 hcc25 hfr25 hM25
        go_wp2_with (first | ((with_reducible refine gate_store (t := 83) (p := 33) rfl ?_); refine store_event (t := 83) (p := 33) (v := ?vo_w26) (w1 := ((wr.setCell ⟨go23, (a0_1 : Int).toNat * 2, none⟩ (.bool true)).setCell ⟨go23, (a0_1 : Int).toNat * 2 + 1, none⟩ (.int .i64 a0_4))) ?hg ?ho ?hn ?hr ?_; (case ho => rfl); (case hg => rfl); (case hn => rfl); (case hr => first | (go_simp; done) | (go_simp; rfl)); intro w26 hw; have hg : wr.grownBy w26 (some go23) := (by rw [hw]; exact HP25.2); have hp_ : Kd.R k83 83 w26 w.heap.size (fun _ => True) (.slice (some ⟨go23, 0, none⟩) x5_1.length co23) y350 := (by rw [hw, Ny350.out]; exact HP25.1); clear HP25; have n0_ := Aside0.mk (hp_); have n1_ := Aside0.mk (Kd.R_over' (v := (.slice (some ⟨go23, 0, none⟩) x5_1.length co23)) att16_0_6 (Kd.R_typed HO_5.out) (by decide) hg); have n2_ := Aside0.mk (blk_grown (g := gb338) (o := .cells #[.int .i64 a0_0, .int .i64 a0_1, .int .i64 a0_2, .int .i64 a0_3, .int .i64 a0_4] 63 (0, 0)) att16_0_2 hg (Kd.R_ne HO_5.out BK338.out (by decide))); have n3_ := Aside0.mk ((by rw [hw]; exact below_set (below_set (HB.out) GB23.out) GB23.out : Below w.heap.size w w26)); clear HO_5; clear HO_12; clear BK338; clear HB; have HO_5 := n0_; have HO_12 := n1_; have BK338 := n2_; have HB := n3_; clear n0_ n1_ n2_ n3_; clear hg hw hp_))
        go_ret
        exact ⟨_, by first | rfl | (simp [errW_none, errW_some] <;> rfl) | (simp [*, errW_none, errW_some] <;> rfl), by (with_reducible repeat (first | apply Kd.R_alloc | apply Kd.R_drewN | apply Kd.R_drew)); exact HO_5.out, att16_0_0⟩
       ·rw [if_neg c22] at H
        exact absurd H (by simp)
      ·rw [if_neg c21] at H
       exact absurd H (by simp)
     ·rw [if_neg c20] at H
      have c20b0 : (a0_0 == 1) = false := beq_eq_false_iff_ne.mpr c20
      have c20b1 : (a0_0 != 1) = true := bne_iff_ne.mpr c20
      have HC27 := Aside0.mk H
      clear H
      have hcz28_0 : wr.cell? ⟨gb338, 0, none⟩ = some (.int .i64 a0_0) := (blk_cell BK338.out 0).trans rfl
      have hcz28_1 : wr.cell? ⟨gb338, 1, none⟩ = some (.int .i64 a0_1) := (blk_cell BK338.out 1).trans rfl
      have hcz28_2 : wr.cell? ⟨gb338, 2, none⟩ = some (.int .i64 a0_2) := (blk_cell BK338.out 2).trans rfl
      have hcz28_3 : wr.cell? ⟨gb338, 3, none⟩ = some (.int .i64 a0_3) := (blk_cell BK338.out 3).trans rfl
      have hcz28_4 : wr.cell? ⟨gb338, 4, none⟩ = some (.int .i64 a0_4) := (blk_cell BK338.out 4).trans rfl
      have hfz28_0 := blk_frozen BK338.out 0
      have hfz28_1 := blk_frozen BK338.out 1
      have hfz28_2 := blk_frozen BK338.out 2
      have hfz28_3 := blk_frozen BK338.out 3
      have hfz28_4 := blk_frozen BK338.out 4
      go_upto_if 34 with (fail)
      go_cut [34] (fun v34 wc => ∃ (kq : Nat) (x34_26 : Bool), v34 = .bool x34_26 ∧ Aside0 (impl_behind.j1 kq l1 x5_1 x34_26 a0_0 a0_1 a0_2 a0_3 a0_4 = some r) ∧ Aside0 (kq ≤ k1) ∧ Aside0 (Kd.R k83 83 wc w.heap.size (fun _ => True) v343 x5_1) ∧ Aside0 (wc.heap[gb338]? = some (.cells #[.int .i64 a0_0, .int .i64 a0_1, .int .i64 a0_2, .int .i64 a0_3, .int .i64 a0_4] 63 (0, 0))) ∧ Aside0 (Below w.heap.size w wc))
      case first =>
       have H := HC27.out
       clear HC27
       by_cases c29 : a0_0 = 2
       ·rw [if_pos c29] at H
        have c29b0 : (a0_0 == 2) = true := beq_iff_eq.mpr c29
        have c29b1 : (a0_0 != 2) = false := bne_eq_false_iff_eq.mpr c29
        clear c29
        (first | rw [c29b0] | (simp only [i64_w, i32_w]; rw [c29b0]) | skip)
        have H' := Aside0.mk H
        clear H
        go_wp2
        go_meet
        case rel => exact ⟨_, ((a0_0 == 2)), att16_0_7, H', ⟨att16_0_10⟩, ⟨att16_0_3⟩, ⟨att16_0_2⟩, ⟨att16_0_0⟩⟩
       ·rw [if_neg c29] at H
        have c29b0 : (a0_0 == 2) = false := beq_eq_false_iff_ne.mpr c29
        have c29b1 : (a0_0 != 2) = true := bne_iff_ne.mpr c29
        (first | rw [c29b0] | (simp only [i64_w, i32_w]; rw [c29b0]) | skip)
        by_cases c30 : a0_0 = 3
        ·rw [if_pos c30] at H
         have c30b0 : (a0_0 == 3) = true := beq_iff_eq.mpr c30
         have c30b1 : (a0_0 != 3) = false := bne_eq_false_iff_eq.mpr c30
         clear c30
         have H' := Aside0.mk H
         clear H
         go_wp2
         go_meet
         case rel => exact ⟨_, ((a0_0 == 3)), att16_0_7, H', ⟨att16_0_10⟩, ⟨att16_0_3⟩, ⟨att16_0_2⟩, ⟨att16_0_0⟩⟩
        ·rw [if_neg c30] at H
         have c30b0 : (a0_0 == 3) = false := beq_eq_false_iff_ne.mpr c30
         have c30b1 : (a0_0 != 3) = true := bne_iff_ne.mpr c30
         have H' := Aside0.mk H
         clear H
         go_wp2
         go_meet
         case rel => exact ⟨_, ((a0_0 == 4)), att16_0_7, H', ⟨att16_0_10⟩, ⟨att16_0_3⟩, ⟨att16_0_2⟩, ⟨att16_0_0⟩⟩
      case rest =>
       clear HC27
       try clear c1
       try clear p1
       try clear q1
       try clear hx1
       try clear c2
       try clear p2
       try clear q2
       try clear hx2
       try clear hf2
       try clear c3
       try clear p3
       try clear q3
       try clear hx3
       try clear p6
       try clear c8
       try clear c9
       try clear c12
       try clear c12b0
       try clear c13
       try clear c13b0
       try clear c14
       try clear c14b0
       try clear c15
       try clear c15b0
       try clear c16
       try clear c16b0
       try clear c17
       try clear p17
       try clear q17
       try clear hx17
       try clear hf17
       try clear c18
       try clear hx18
       try clear hf18
       try clear c20
       try clear c20b0
       try clear c20b1
       try clear c21
       try clear c21b0
       try clear c22
       try clear c22b0
       try clear c23
       try clear p23
       try clear q23
       try clear hx23
       try clear hf23
       try clear c25
       try clear hx25
       try clear hf25
       try clear c29
       try clear c29b0
       try clear c29b1
       try clear c30
       try clear c30b0
       try clear c30b1
       try clear hcz24_0
       try clear hcz24_1
       try clear hcz24_2
       try clear hcz24_3
       try clear hcz24_4
       try clear hcz28_0
       try clear hcz28_1
       try clear hcz28_2
       try clear hcz28_3
       try clear hcz28_4
       try clear hcz9_0
       try clear hcz9_1
       try clear hcz9_2
       try clear hcz9_3
       try clear hcz9_4
       try clear hfz24_0
       try clear hfz24_1
       try clear hfz24_2
       try clear hfz24_3
       try clear hfz24_4
       try clear hfz28_0
       try clear hfz28_1
       try clear hfz28_2
       try clear hfz28_3
       try clear hfz28_4
       try clear hfz9_0
       try clear hfz9_1
       try clear hfz9_2
       try clear hfz9_3
       try clear hfz9_4
       try clear hx17_0
       try clear hx17_1
       try clear hx18_0
       try clear hx18_1
       try clear hx23_0
       try clear hx23_1
       try clear hx25_0
       try clear hx25_1
       try clear hx348_0
       try clear p17
       try clear p2
       try clear p23
       try clear p348
       try clear q17
       try clear q23
       try clear q348
       obtain ⟨kq, x34_26, rfl, HA, HJ26, HO_5, BK338, HB⟩ := hcut
       cases kq with
       | zero => exact absurd HA.out (by simp [impl_behind.j1])
       | succ kj26 =>
        have H := HA.out
        clear HA
        simp only [impl_behind.j1] at H
        by_cases c31 : x34_26 = true
        ·subst c31
         rw [if_pos rfl] at H
         by_cases c32 : 0 ≤ a0_2
         ·rw [if_pos c32] at H
          have c32b0 : decide (0 ≤ a0_2) = true := decide_eq_true c32
          clear c32
          by_cases c33 : a0_2 < (l1.length : Int)
          ·rw [if_pos c33] at H
           have c33b0 : decide (a0_2 < (l1.length : Int)) = true := decide_eq_true c33
           clear c33
           obtain ⟨bq34, hbq34⟩ : ∃ b_ : Bool, b_ = ((rd_T83 l1 a0_2).f0) := ⟨_, rfl⟩
           replace H : (if bq34 = true then (if 0 ≤ a0_3 then (if a0_3 < (l1.length : Int) then (if (rd_T83 l1 a0_3).f0 = true then ((impl_compute.f a0_0 ((rd_T83 l1 a0_2).f1) ((rd_T83 l1 a0_3).f1)).bind fun t355 => (if 0 ≤ a0_1 then (if a0_1 < (x5_1.length : Int) then (some (x5_1.set (a0_1 : Int).toNat (⟨true, t355⟩ : S83))) else (none)) else (none))) else (some x5_1)) else (none)) else (none)) else (some x5_1)) = some r := by rw [← hbq34] at H; exact H
           have Nbq34 := Aside0.mk hbq34
           clear hbq34
           by_cases c35 : bq34 = true
           ·subst c35
            rw [if_pos rfl] at H
            by_cases c36 : 0 ≤ a0_3
            ·rw [if_pos c36] at H
             have c36b0 : decide (0 ≤ a0_3) = true := decide_eq_true c36
             clear c36
             by_cases c37 : a0_3 < (l1.length : Int)
             ·rw [if_pos c37] at H
              have c37b0 : decide (a0_3 < (l1.length : Int)) = true := decide_eq_true c37
              clear c37
              obtain ⟨bq38, hbq38⟩ : ∃ b_ : Bool, b_ = ((rd_T83 l1 a0_3).f0) := ⟨_, rfl⟩
              replace H : (if bq38 = true then ((impl_compute.f a0_0 ((rd_T83 l1 a0_2).f1) ((rd_T83 l1 a0_3).f1)).bind fun t355 => (if 0 ≤ a0_1 then (if a0_1 < (x5_1.length : Int) then (some (x5_1.set (a0_1 : Int).toNat (⟨true, t355⟩ : S83))) else (none)) else (none))) else (some x5_1)) = some r := by rw [← hbq38] at H; exact H
              have Nbq38 := Aside0.mk hbq38
              clear hbq38
              by_cases c39 : bq38 = true
              ·subst c39
               rw [if_pos rfl] at H
               replace H := Option.bind_eq_some_iff.mp H
               obtain ⟨t355, A400, H⟩ := H
               (try dsimp only at H)
               have A40 := Aside0.mk A400
               clear A400
               by_cases c41 : 0 ≤ a0_1
               ·rw [if_pos c41] at H
                have c41b0 : decide (0 ≤ a0_1) = true := decide_eq_true c41
                clear c41
                by_cases c42 : a0_1 < (x5_1.length : Int)
                ·rw [if_pos c42] at H
                 have c42b0 : decide (a0_1 < (x5_1.length : Int)) = true := decide_eq_true c42
                 clear c42
                 obtain ⟨y356, hy356⟩ : ∃ y_ : List (S83), y_ = (x5_1.set (a0_1 : Int).toNat (⟨true, t355⟩ : S83)) := ⟨_, rfl⟩
                 replace H : (some y356) = some r := by first | (rw [hy356]; with_reducible exact H) | (have H2_ := (Option.bind_some _ _).symm.trans H; rw [hy356]; with_reducible exact H2_) | (have H2_ := (Option.bind_some _ _).symm.trans H; with_reducible exact H2_) | with_reducible exact H | (rw [hy356]; exact H) | exact H
                 have Ny356 := Aside0.mk hy356
                 clear hy356
                 obtain rfl := Option.some.inj H
                 have hcz44_0 : wc.cell? ⟨gb338, 0, none⟩ = some (.int .i64 a0_0) := (blk_cell BK338.out 0).trans rfl
                 have hcz44_1 : wc.cell? ⟨gb338, 1, none⟩ = some (.int .i64 a0_1) := (blk_cell BK338.out 1).trans rfl
                 have hcz44_2 : wc.cell? ⟨gb338, 2, none⟩ = some (.int .i64 a0_2) := (blk_cell BK338.out 2).trans rfl
                 have hcz44_3 : wc.cell? ⟨gb338, 3, none⟩ = some (.int .i64 a0_3) := (blk_cell BK338.out 3).trans rfl
                 have hcz44_4 : wc.cell? ⟨gb338, 4, none⟩ = some (.int .i64 a0_4) := (blk_cell BK338.out 4).trans rfl
                 have hfz44_0 := blk_frozen BK338.out 0
                 have hfz44_1 := blk_frozen BK338.out 1
                 have hfz44_2 := blk_frozen BK338.out 2
                 have hfz44_3 := blk_frozen BK338.out 3
                 have hfz44_4 := blk_frozen BK338.out 4
                 have p351 : 0 ≤ (a0_2 : Int) := of_decide_eq_true att16_0_1
                 have q351 : a0_2 < (l1.length : Int) := of_decide_eq_true att16_0_1
                 obtain ⟨ad351, e351, hx351_0, hx351_1⟩ := at_T83 HR1.out a0_2 p351 q351
                 (try rw [← Nbq34.out] at hx351_0)
                 (try rw [← Nbq38.out] at hx351_0)
                 cases e351
                 replace hx351_0 := (HB.out.cell (World.block_lt_of_cell? w _ hx351_0)).trans hx351_0
                 replace hx351_1 := (HB.out.cell (World.block_lt_of_cell? w _ hx351_1)).trans hx351_1
                 replace p351 := eq_true p351
                 replace q351 := eq_true q351
                 have p352 : 0 ≤ (a0_3 : Int) := of_decide_eq_true att16_0_1
                 have q352 : a0_3 < (l1.length : Int) := of_decide_eq_true att16_0_1
                 obtain ⟨ad352, e352, hx352_0, hx352_1⟩ := at_T83 HR1.out a0_3 p352 q352
                 (try rw [← Nbq34.out] at hx352_0)
                 (try rw [← Nbq38.out] at hx352_0)
                 obtain rfl : ad351 = ad352 := (by injection e352)
                 replace hx352_0 := (HB.out.cell (World.block_lt_of_cell? w _ hx352_0)).trans hx352_0
                 replace hx352_1 := (HB.out.cell (World.block_lt_of_cell? w _ hx352_1)).trans hx352_1
                 replace p352 := eq_true p352
                 replace q352 := eq_true q352
                 try go_wp2
                 have n0_ := Aside0.mk (Kd.R_drew HO_5.out)
                 have n1_ := Aside0.mk (blk_drew BK338.out)
                 have n2_ := Aside0.mk (below_drew1 HB.out)
                 clear HO_5
                 clear BK338
                 clear HB
                 have HO_5 := n0_
                 have BK338 := n1_
                 have HB := n2_
                 clear n0_ n1_ n2_
                 have p353 : 0 ≤ (a0_2 : Int) := of_decide_eq_true att16_0_1
                 have q353 : a0_2 < (l1.length : Int) := of_decide_eq_true att16_0_1
                 obtain ⟨ad353, e353, hx353_0, hx353_1⟩ := at_T83 HR1.out a0_2 p353 q353
                 have hw353_1 := hx353_1
                 have hw353_0 := hx353_0
                 (try rw [← Nbq34.out] at hx353_0)
                 (try rw [← Nbq34.out] at hw353_0)
                 (try rw [← Nbq38.out] at hx353_0)
                 (try rw [← Nbq38.out] at hw353_0)
                 obtain rfl : ad351 = ad353 := (by injection e353)
                 replace hx353_0 := (HB.out.cell (World.block_lt_of_cell? w _ hx353_0)).trans hx353_0
                 replace hx353_1 := (HB.out.cell (World.block_lt_of_cell? w _ hx353_1)).trans hx353_1
                 replace p353 := eq_true p353
                 replace q353 := eq_true q353
                 have p354 : 0 ≤ (a0_3 : Int) := of_decide_eq_true att16_0_1
                 have q354 : a0_3 < (l1.length : Int) := of_decide_eq_true att16_0_1
                 obtain ⟨ad354, e354, hx354_0, hx354_1⟩ := at_T83 HR1.out a0_3 p354 q354
                 have hw354_1 := hx354_1
                 have hw354_0 := hx354_0
                 (try rw [← Nbq34.out] at hx354_0)
                 (try rw [← Nbq34.out] at hw354_0)
                 (try rw [← Nbq38.out] at hx354_0)
                 (try rw [← Nbq38.out] at hw354_0)
                 obtain rfl : ad351 = ad354 := (by injection e354)
                 replace hx354_0 := (HB.out.cell (World.block_lt_of_cell? w _ hx354_0)).trans hx354_0
                 replace hx354_1 := (HB.out.cell (World.block_lt_of_cell? w _ hx354_1)).trans hx354_1
                 replace p354 := eq_true p354
                 replace q354 := eq_true q354
                 refine start_ (n := 21) (S := fun w' => w'.cell? ⟨gb338, 0, none⟩ = some (.int .i64 a0_0) ∧ w'.cell? ⟨gb338, 1, none⟩ = some (.int .i64 a0_1) ∧ w'.cell? ⟨gb338, 2, none⟩ = some (.int .i64 a0_2) ∧ w'.cell? ⟨gb338, 3, none⟩ = some (.int .i64 a0_3) ∧ w'.cell? ⟨gb338, 4, none⟩ = some (.int .i64 a0_4) ∧ w'.cell? (ad351.add ((a0_2).toNat * 2)) = some (.bool (true)) ∧ w'.cell? ⟨(ad351.add ((a0_2).toNat * 2)).block, (ad351.add ((a0_2).toNat * 2)).off + 1, none⟩ = some (.int .i64 ((rd_T83 l1 a0_2).f1)) ∧ w'.cell? (ad351.add ((a0_3).toNat * 2)) = some (.bool (true)) ∧ w'.cell? ⟨(ad351.add ((a0_3).toNat * 2)).block, (ad351.add ((a0_3).toNat * 2)).off + 1, none⟩ = some (.int .i64 ((rd_T83 l1 a0_3).f1))) (ds := [20]) (tf_ 0 21) (by kernel_rfl) rfl rfl ⟨(blk_cell BK338.out 0).trans rfl, (blk_cell BK338.out 1).trans rfl, (blk_cell BK338.out 2).trans rfl, (blk_cell BK338.out 3).trans rfl, (blk_cell BK338.out 4).trans rfl, ((HB.out.cell (World.block_lt_of_cell? w _ hw353_0)).trans hw353_0), ((HB.out.cell (World.block_lt_of_cell? w _ hw353_1)).trans hw353_1), ((HB.out.cell (World.block_lt_of_cell? w _ hw354_0)).trans hw354_0), ((HB.out.cell (World.block_lt_of_cell? w _ hw354_1)).trans hw354_1)⟩ (fun hHeld => ?_); refine with_tabW impl_behind.tab14 impl_behind.bits14 (fun HT_ HW_ => ?_)
                 generalize wc.drew = w45 at HO_5 BK338 HB hx353_0 hx353_1 hx354_0 hx354_1 hHeld ⊢
                 refine pureP_ (i := 0) (N := some 52) (tf_ 1 20) (any_of HT_.out (by kernel_rfl)) (h := ?_)
                 refine pureP_ (i := 1) (N := some 53) (tf_ 2 19) (any_of HT_.out (by kernel_rfl)) (h := ?_)
                 refine pureP_ (i := 3) (N := some 55) #[true, true, false, true, false, false, false, false, false, false, false, false, false, false, false, false, false, false, false, false, false] (any_of HT_.out (by kernel_rfl)) (h := ?_)
                 refine pureP_ (i := 5) (N := some 57) #[true, true, false, true, false, true, false, false, false, false, false, false, false, false, false, false, false, false, false, false, false] (any_of HT_.out (by kernel_rfl)) (h := ?_)
                 refine pureP_ (i := 6) (N := some 58) #[true, true, false, true, false, true, true, false, false, false, false, false, false, false, false, false, false, false, false, false, false] (any_of HT_.out (by kernel_rfl)) (h := ?_)
                 refine pureP_ (i := 11) (N := some 63) #[true, true, false, true, false, true, true, false, false, false, false, true, false, false, false, false, false, false, false, false, false] (any_of HT_.out (by kernel_rfl)) (h := ?_)
                 refine pureP_ (i := 12) (N := some 64) #[true, true, false, true, false, true, true, false, false, false, false, true, true, false, false, false, false, false, false, false, false] (any_of HT_.out (by kernel_rfl)) (h := ?_)
                 refine takeP_ (i := 2) (N := some 54) #[true, true, true, true, false, true, true, false, false, false, false, true, true, false, false, false, false, false, false, false, false] (take_ofW HT_.out HW_.out (by kernel_rfl)) hHeld (hy := Or.inl ⟨by rfl, att16_0_4⟩) (h := ?_)
                 refine takeP_ (i := 4) (N := some 56) #[true, true, true, true, true, true, true, false, false, false, false, true, true, false, false, false, false, false, false, false, false] (take_ofW HT_.out HW_.out (by kernel_rfl)) hHeld (hy := Or.inl ⟨by rfl, att16_0_4⟩) (h := ?_)
                 refine takeP_ (i := 7) (N := some 59) #[true, true, true, true, true, true, true, true, false, false, false, true, true, false, false, false, false, false, false, false, false] (take_ofW HT_.out HW_.out (by kernel_rfl)) hHeld (hy := Or.inl ⟨by rfl, att16_0_4⟩) (h := ?_)
                 refine pureP_ (i := 8) (N := some 60) #[true, true, true, true, true, true, true, true, true, false, false, true, true, false, false, false, false, false, false, false, false] (any_of HT_.out (by kernel_rfl)) (h := ?_)
                 refine pureP_ (i := 9) (N := some 61) #[true, true, true, true, true, true, true, true, true, true, false, true, true, false, false, false, false, false, false, false, false] (any_of HT_.out (by kernel_rfl)) (h := ?_)
                 refine takeP_ (i := 10) (N := some 62) (tf_ 13 8) (take_ofW HT_.out HW_.out (by kernel_rfl)) hHeld (hy := Or.inl ⟨by rfl, att16_0_4⟩) (h := ?_)
                 refine takeP_ (i := 13) (N := some 65) (tf_ 14 7) (take_ofW HT_.out HW_.out (by kernel_rfl)) hHeld (hy := Or.inl ⟨by rfl, att16_0_4⟩) (h := ?_)
                 refine pureP_ (i := 14) (N := some 66) (tf_ 15 6) (any_of HT_.out (by kernel_rfl)) (h := ?_)
                 refine pureP_ (i := 15) (N := some 67) (tf_ 16 5) (any_of HT_.out (by kernel_rfl)) (h := ?_)
                 refine takeP_ (i := 16) (N := some 68) (tf_ 17 4) (take_ofW HT_.out HW_.out (by kernel_rfl)) hHeld (hy := Or.inl ⟨by rfl, att16_0_4⟩) (h := ?_)
                 refine one_ (i := 17) (N := some 69) (tf_ 18 3) rfl rfl (one_of HT_.out (by kernel_rfl)) (by decide) (fun K hK => ?_)
                 refine goes_ Try.func123 (by kernel_rfl) rfl #[.int .i64 a0_0, .int .i64 ((rd_T83 l1 a0_2).f1), .int .i64 ((rd_T83 l1 a0_3).f1)] (by rfl) rfl rfl att16_0_8 ?_
                 with_reducible refine (impl_compute.calls a0_0 ((rd_T83 l1 a0_2).f1) ((rd_T83 l1 a0_3).f1) t355 _ A40.out).mono ?_
                 rintro e w' ⟨rfl, ⟨nd, rfl⟩⟩
                 refine ⟨_, rfl, ?_⟩
                 have p43 : 0 ≤ (a0_1 : Int) := of_decide_eq_true att16_0_1
                 have q43 : (a0_1 : Int) < ((x5_1.length : Int) : Int) := of_decide_eq_true att16_0_1
                 obtain ⟨go43, co43, eo43, gb43, gl43, cl43, HG43⟩ := Kd.R_form HO_5.out (by omega)
                 (first | cases eo43 | (injection eo43 with ea_ en_ ec_; (first | subst ea_ | (injection ea_ with ea_; subst ea_)); subst ec_; clear en_))
                 have GB43 := Aside0.mk gb43
                 have GG43 := Aside0.mk HG43
                 clear gb43 gl43 HG43
                 obtain ⟨ce43, hcl43, hM43, hcc43, hfr43⟩ := Kd.R_elem HO_5.out z83 (a0_1 : Int) p43 q43
                 obtain rfl := k83_openM hM43
                 have hx43_0 : World.cell? _ ⟨go43, (a0_1 : Int).toNat * 2, none⟩ = some (.bool ((rd_T83 x5_1 a0_1).f0)) := hcc43 0 _ rfl
                 have hx43_1 : World.cell? _ ⟨go43, (a0_1 : Int).toNat * 2 + 1, none⟩ = some (.int .i64 ((rd_T83 x5_1 a0_1).f1)) := hcc43 1 _ rfl
                 have hf43_0 : World.frozen? _ ⟨go43, (a0_1 : Int).toNat * 2, none⟩ = false := hfr43 0
                 have hf43_1 : World.frozen? _ ⟨go43, (a0_1 : Int).toNat * 2 + 1, none⟩ = false := hfr43 1
                 clear hcl43 hcc43 hfr43 hM43
                 replace p43 := eq_true p43
                 replace q43 := eq_true q43
                 obtain ⟨ce46, hcl46, hM46, hcc46, hfr46⟩ := Kd.R_elem HO_5.out z83 (a0_1 : Int) (of_decide_eq_true att16_0_1) att16_1_0
                 obtain rfl := k83_openM hM46
                 have HP46 := (Kd.R_seg HO_5.out (a0_1 : Int) (of_decide_eq_true att16_0_1) att16_1_0 (seg := [.bool true, .int .i64 t355]) (j := 0) hcl46 hcc46 (show 2 ≤ 2 from by decide) (x' := (⟨true, t355⟩ : S83)) (k83_mkM _ _ _ (⟨true, t355⟩ : S83) ) (fun _ hk => hk)).1
                 rw [← Ny356.out] at HP46
                 have HQ46 := Aside0.mk HP46
                 clear hcl46 hcc46 hfr46 hM46 HP46
                 refine hK.out _ _ ⟨(blk_cell BK338.out 0).trans rfl, (blk_cell BK338.out 1).trans rfl, (blk_cell BK338.out 2).trans rfl, (blk_cell BK338.out 3).trans rfl, (blk_cell BK338.out 4).trans rfl, ((HB.out.cell (World.block_lt_of_cell? w _ hw353_0)).trans hw353_0), ((HB.out.cell (World.block_lt_of_cell? w _ hw353_1)).trans hw353_1), ((HB.out.cell (World.block_lt_of_cell? w _ hw354_0)).trans hw354_0), ((HB.out.cell (World.block_lt_of_cell? w _ hw354_1)).trans hw354_1)⟩ (fun hHeld => ?_)
                 clear hK K
                 refine normP_ (h := ?_)
                 refine pureP_ (i := 18) (N := some 70) (tf_ 19 2) (any_of HT_.out (by kernel_rfl)) (h := ?_)
                 refine pureP_ (i := 19) (N := some 71) (tf_ 20 1) (any_of HT_.out (by kernel_rfl)) (h := ?_)
                 refine last_ (i := 20) (N := none) (tf_ 21 0) rfl rfl (one_of HT_.out (by kernel_rfl)) (by decide) (fun K hK => ?_)
                 refine skip_ (w1 := ?_) (by rfl) rfl ?_ ?_
                 rotate_left
                 ·go_simp
                  rfl
                 refine hK.out _ _ ?_
                 clear hK K
                 refine done_ (done_of HT_.out (by kernel_rfl)) ?_
                 try go_wp2
                 go_ret
                 exact ⟨_, by first | rfl | (simp [errW_none, errW_some] <;> rfl) | (simp [*, errW_none, errW_some] <;> rfl), by (with_reducible repeat (first | apply Kd.R_alloc | apply Kd.R_drewN | apply Kd.R_drew)); exact HQ46.out, by repeat (first | (with_reducible first | exact HB.out | apply below_alloc | apply pw_below_drewN | apply below_drew1 | refine below_set ?_ GB43.out | refine below_set ?_ GB43.out | refine below_set ?_ GE338.out) | exact HB.out)⟩
                ·rw [if_neg c42] at H
                 exact absurd H (by simp)
               ·rw [if_neg c41] at H
                exact absurd H (by simp)
              ·replace c39 := Bool.eq_false_iff.mpr c39
               subst c39
               rw [if_neg (show ¬ (false = true) by decide)] at H
               obtain rfl := Option.some.inj H
               have hcz47_0 : wc.cell? ⟨gb338, 0, none⟩ = some (.int .i64 a0_0) := (blk_cell BK338.out 0).trans rfl
               have hcz47_1 : wc.cell? ⟨gb338, 1, none⟩ = some (.int .i64 a0_1) := (blk_cell BK338.out 1).trans rfl
               have hcz47_2 : wc.cell? ⟨gb338, 2, none⟩ = some (.int .i64 a0_2) := (blk_cell BK338.out 2).trans rfl
               have hcz47_3 : wc.cell? ⟨gb338, 3, none⟩ = some (.int .i64 a0_3) := (blk_cell BK338.out 3).trans rfl
               have hcz47_4 : wc.cell? ⟨gb338, 4, none⟩ = some (.int .i64 a0_4) := (blk_cell BK338.out 4).trans rfl
               have hfz47_0 := blk_frozen BK338.out 0
               have hfz47_1 := blk_frozen BK338.out 1
               have hfz47_2 := blk_frozen BK338.out 2
               have hfz47_3 := blk_frozen BK338.out 3
               have hfz47_4 := blk_frozen BK338.out 4
               have p351 : 0 ≤ (a0_2 : Int) := of_decide_eq_true att16_0_1
               have q351 : a0_2 < (l1.length : Int) := of_decide_eq_true att16_0_1
               obtain ⟨ad351, e351, hx351_0, hx351_1⟩ := at_T83 HR1.out a0_2 p351 q351
               (try rw [← Nbq34.out] at hx351_0)
               (try rw [← Nbq38.out] at hx351_0)
               cases e351
               replace hx351_0 := (HB.out.cell (World.block_lt_of_cell? w _ hx351_0)).trans hx351_0
               replace hx351_1 := (HB.out.cell (World.block_lt_of_cell? w _ hx351_1)).trans hx351_1
               replace p351 := eq_true p351
               replace q351 := eq_true q351
               have p352 : 0 ≤ (a0_3 : Int) := of_decide_eq_true att16_0_1
               have q352 : a0_3 < (l1.length : Int) := of_decide_eq_true att16_0_1
               obtain ⟨ad352, e352, hx352_0, hx352_1⟩ := at_T83 HR1.out a0_3 p352 q352
               (try rw [← Nbq34.out] at hx352_0)
               (try rw [← Nbq38.out] at hx352_0)
               obtain rfl : ad351 = ad352 := (by injection e352)
               replace hx352_0 := (HB.out.cell (World.block_lt_of_cell? w _ hx352_0)).trans hx352_0
               replace hx352_1 := (HB.out.cell (World.block_lt_of_cell? w _ hx352_1)).trans hx352_1
               replace p352 := eq_true p352
               replace q352 := eq_true q352
               go_wp2
               go_ret
               exact ⟨_, by first | rfl | (simp [errW_none, errW_some] <;> rfl) | (simp [*, errW_none, errW_some] <;> rfl), by (with_reducible repeat (first | apply Kd.R_alloc | apply Kd.R_drewN | apply Kd.R_drew)); exact HO_5.out, att16_0_0⟩
             ·rw [if_neg c37] at H
              exact absurd H (by simp)
            ·rw [if_neg c36] at H
             exact absurd H (by simp)
           ·replace c35 := Bool.eq_false_iff.mpr c35
            subst c35
            rw [if_neg (show ¬ (false = true) by decide)] at H
            obtain rfl := Option.some.inj H
            have hcz48_0 : wc.cell? ⟨gb338, 0, none⟩ = some (.int .i64 a0_0) := (blk_cell BK338.out 0).trans rfl
            have hcz48_1 : wc.cell? ⟨gb338, 1, none⟩ = some (.int .i64 a0_1) := (blk_cell BK338.out 1).trans rfl
            have hcz48_2 : wc.cell? ⟨gb338, 2, none⟩ = some (.int .i64 a0_2) := (blk_cell BK338.out 2).trans rfl
            have hcz48_3 : wc.cell? ⟨gb338, 3, none⟩ = some (.int .i64 a0_3) := (blk_cell BK338.out 3).trans rfl
            have hcz48_4 : wc.cell? ⟨gb338, 4, none⟩ = some (.int .i64 a0_4) := (blk_cell BK338.out 4).trans rfl
            have hfz48_0 := blk_frozen BK338.out 0
            have hfz48_1 := blk_frozen BK338.out 1
            have hfz48_2 := blk_frozen BK338.out 2
            have hfz48_3 := blk_frozen BK338.out 3
            have hfz48_4 := blk_frozen BK338.out 4
            have p351 : 0 ≤ (a0_2 : Int) := of_decide_eq_true att16_0_1
            have q351 : a0_2 < (l1.length : Int) := of_decide_eq_true att16_0_1
            obtain ⟨ad351, e351, hx351_0, hx351_1⟩ := at_T83 HR1.out a0_2 p351 q351
            (try rw [← Nbq34.out] at hx351_0)
            cases e351
            replace hx351_0 := (HB.out.cell (World.block_lt_of_cell? w _ hx351_0)).trans hx351_0
            replace hx351_1 := (HB.out.cell (World.block_lt_of_cell? w _ hx351_1)).trans hx351_1
            replace p351 := eq_true p351
            replace q351 := eq_true q351
            go_wp2
            go_ret
            exact ⟨_, by first | rfl | (simp [errW_none, errW_some] <;> rfl) | (simp [*, errW_none, errW_some] <;> rfl), by (with_reducible repeat (first | apply Kd.R_alloc | apply Kd.R_drewN | apply Kd.R_drew)); exact HO_5.out, att16_0_0⟩
          ·rw [if_neg c33] at H
           exact absurd H (by simp)
         ·rw [if_neg c32] at H
          exact absurd H (by simp)
        ·replace c31 := Bool.eq_false_iff.mpr c31
         subst c31
         rw [if_neg (show ¬ (false = true) by decide)] at H
         obtain rfl := Option.some.inj H
         go_wp2
         go_ret
         exact ⟨_, by first | rfl | (simp [errW_none, errW_some] <;> rfl) | (simp [*, errW_none, errW_some] <;> rfl), by (with_reducible repeat (first | apply Kd.R_alloc | apply Kd.R_drewN | apply Kd.R_drew)); exact HO_5.out, att16_0_0⟩
 ·rw [if_neg c3] at H
  exact absurd H (by simp)

end Go.Proofs.Ytocimkpafakiaaa.XFnExactFoldBody
