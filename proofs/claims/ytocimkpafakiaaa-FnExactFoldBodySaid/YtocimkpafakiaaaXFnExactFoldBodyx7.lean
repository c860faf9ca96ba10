/- Each Go function that the law reaches as a Lean function, and that Go comes to just its answer; written by this session's xprint.py over the kit's printer. -/
import Derived.Test.YtocimkpafakiaaaXFnExactFoldBodyx0
import Derived.Test.YtocimkpafakiaaaXFnExactFoldBodyx6
namespace Go.Proofs.Ytocimkpafakiaaa.XFnExactFoldBody
open Go.RowKit Go.Proofs.YtocimkpafakiaaaW.PrintWords Go.Proofs.YtocimkpafakiaaaW.PrintLast Go.Proofs.YtocimkpafakiaaaW.PrintMore
attribute [local go_sem] max2_int min2_int max_two min_two max_three min_three max_four min_four   -- for this text's walks alone
set_option linter.unusedVariables false
set_option linter.unusedSimpArgs false

theorem att8_0_0 {p : Prop} (h : p := by repeat (first | (with_reducible first | exact HB.out | apply below_alloc | apply pw_below_drewN | apply below_drew1 | refine below_set ?_ GE181.out) | exact HB.out)) : p := h
theorem att8_0_1 {p : Prop} (h : p := by first | (with_reducible assumption) | assumption) : p := h
theorem att8_0_2 {p : Prop} (h : p := by (with_reducible repeat (first | refine blk_drewN ?_ _ | refine blk_drew ?_ | refine blk_alloc ?_ _)); exact BK181.out) : p := h
theorem att8_0_3 {p : Prop} (h : p := by (try simp only [List.map_toArray, List.map_cons, List.map_nil]); first | done | rfl | (simp only [List.length_drop, List.length_take]; rfl)) : p := h
theorem att8_0_4 {p : Prop} (h : p := by (with_reducible repeat (first | apply Kd.R_alloc | apply Kd.R_drewN | apply Kd.R_drew)); exact HO_5.out) : p := h
theorem att8_0_5 {p : Prop} (h : p := by rintro w' ⟨s0, s1, s2, s3, s4, s5, s6, s7, s8⟩; go_simp; with_reducible rfl) : p := h
theorem att8_0_6 {p : Prop} (h : p := by repeat (first | (with_reducible first | exact HB.out | apply below_alloc | apply pw_below_drewN | apply below_drew1) | exact HB.out)) : p := h
theorem att8_0_7 {p : Prop} (h : p := by (with_reducible repeat (first | apply Kd.R_alloc | apply Kd.R_drewN | apply Kd.R_drew)); exact HO_6.out) : p := h
theorem att8_0_8 {p : Prop} (h : p := by (with_reducible repeat (first | apply Kd.R_alloc | apply Kd.R_drewN | apply Kd.R_drew)); exact HO187.out) : p := h
theorem att8_1_0 {p : Prop} (h : p := by have h_ : ((rd t188 x7_1) : Int) < ((x5_1.length : Int) : Int) := of_decide_eq_true att8_0_1; first | exact h_ | (have e_ := (Kd.R_reads' HO_5.out).1; omega) | simpa using h_) : p := h
theorem att8_1_1 {p : Prop} (h : p := by have h_ : (a0_1 : Int) < ((x5_18.length : Int) : Int) := of_decide_eq_true att8_0_1; first | exact h_ | (have e_ := (Kd.R_reads' HO_5.out).1; omega) | simpa using h_) : p := h
theorem att8_1_2 {p : Prop} (h : p := by have h_ : (a0_1 : Int) < ((x5_1.length : Int) : Int) := of_decide_eq_true att8_0_1; first | exact h_ | (have e_ := (Kd.R_reads' HO_5.out).1; omega) | simpa using h_) : p := h
/-! ### spec_l19Behind: function 91 -/
mutual
def spec_l19Behind.l0 : Nat → List (S83) → List (S83) → List Int → Int → Int → Int → Int → Int → Int → Option ((List (S83)))
 | 0, _, _, _, _, _, _, _, _, _ => none
 | k + 1, x1, x5, x6, x7, x182000, x182001, x182002, x182003, x182004 => if x7 < (x6.length : Int) then (if 0 ≤ x7 then (if 0 ≤ (rd x6 x7) then (if (rd x6 x7) < (x5.length : Int) then (spec_l19Behind.l0 k x1 (x5.set ((rd x6 x7) : Int).toNat (⟨false, 0⟩ : S83)) x6 (wrap64 (x7 + 1)) x182000 x182001 x182002 x182003 x182004) else (none)) else (none)) else (none)) else (if x182000 = 1 then (if 0 ≤ x182001 then (if x182001 < (x5.length : Int) then (spec_l19Behind.j1 k x1 (x5.set (x182001 : Int).toNat (⟨true, x182004⟩ : S83)) x182000 x182001 x182002 x182003 x182004) else (none)) else (none)) else (spec_l19Behind.j1 k x1 x5 x182000 x182001 x182002 x182003 x182004))
def spec_l19Behind.j1 : Nat → List (S83) → List (S83) → Int → Int → Int → Int → Int → Option ((List (S83)))
 | 0, _, _, _, _, _, _, _ => none
 | k + 1, x1, x5, x182000, x182001, x182002, x182003, x182004 => (spec_l19Three.f x182000).bind fun t194 => (if t194 = true then (if 0 ≤ x182002 then (if x182002 < (x1.length : Int) then (if (rd_T83 x1 x182002).f0 = true then (if 0 ≤ x182003 then (if x182003 < (x1.length : Int) then (if (rd_T83 x1 x182003).f0 = true then ((spec_l19Of.f x182000 ((rd_T83 x1 x182002).f1) ((rd_T83 x1 x182003).f1)).bind fun t199 => (if 0 ≤ x182001 then (if x182001 < (x5.length : Int) then (some (x5.set (x182001 : Int).toNat (⟨true, t199⟩ : S83))) else (none)) else (none))) else (some x5)) else (none)) else (none)) else (some x5)) else (none)) else (none)) else (some x5))
end
def spec_l19Behind.f (k : Nat) (a0_0 : Int) (a0_1 : Int) (a0_2 : Int) (a0_3 : Int) (a0_4 : Int) (l1 : List (S83)) : Option ((List (S83))) := (some (([] : List (S83)) : List (S83))).bind fun y182 => (if y182.length + l1.length < 8796093022208 then ((spec_Sets.f k a0_0 a0_1 a0_2 a0_3 a0_4).bind fun t188 => (spec_l19Behind.l0 k l1 (y182 ++ l1) t188 0 a0_0 a0_1 a0_2 a0_3 a0_4)) else (none))
theorem spec_l19Behind.mono_l : ∀ k, (∀ y0 y1 y2 y3 y4 y5 y6 y7 y8, LeO (spec_l19Behind.l0 k y0 y1 y2 y3 y4 y5 y6 y7 y8) (spec_l19Behind.l0 (k + 1) y0 y1 y2 y3 y4 y5 y6 y7 y8)) ∧ (∀ y0 y1 y2 y3 y4 y5 y6, LeO (spec_l19Behind.j1 k y0 y1 y2 y3 y4 y5 y6) (spec_l19Behind.j1 (k + 1) y0 y1 y2 y3 y4 y5 y6))
 | 0 => ⟨fun _ _ _ _ _ _ _ _ _ r h => by simp [spec_l19Behind.l0] at h, fun _ _ _ _ _ _ _ r h => by simp [spec_l19Behind.j1] at h⟩
 | k + 1 => by
  obtain ⟨ih0, ih1⟩ := spec_l19Behind.mono_l k
  refine ⟨?_, ?_⟩
  ·intro y0 y1 y2 y3 y4 y5 y6 y7 y8
   unfold spec_l19Behind.l0
   repeat' first
   | (with_reducible exact ih0 _ _ _ _ _ _ _ _ _)
   | (with_reducible exact ih1 _ _ _ _ _ _ _)
   | (with_reducible exact spec_Sets.mono _ _ _ _ _ _)
   | (with_reducible exact LeO.refl _)
   | (with_reducible exact LeO.none _)
   | (with_reducible refine LeO.ite ?_ ?_)
   | (with_reducible refine LeO.bind ?_ (fun _ => ?_))
   | exact ih0 _ _ _ _ _ _ _ _ _
   | exact ih1 _ _ _ _ _ _ _
   | exact spec_Sets.mono _ _ _ _ _ _
   | exact LeO.none _
   | refine LeO.ite ?_ ?_
   | refine LeO.bind ?_ (fun _ => ?_)
  ·intro y0 y1 y2 y3 y4 y5 y6
   unfold spec_l19Behind.j1
   repeat' first
   | (with_reducible exact ih0 _ _ _ _ _ _ _ _ _)
   | (with_reducible exact ih1 _ _ _ _ _ _ _)
   | (with_reducible exact spec_Sets.mono _ _ _ _ _ _)
   | (with_reducible exact LeO.refl _)
   | (with_reducible exact LeO.none _)
   | (with_reducible refine LeO.ite ?_ ?_)
   | (with_reducible refine LeO.bind ?_ (fun _ => ?_))
   | exact ih0 _ _ _ _ _ _ _ _ _
   | exact ih1 _ _ _ _ _ _ _
   | exact spec_Sets.mono _ _ _ _ _ _
   | exact LeO.none _
   | refine LeO.ite ?_ ?_
   | refine LeO.bind ?_ (fun _ => ?_)
theorem spec_l19Behind.mono : ∀ a0 a1 a2 a3 a4 a5 k, LeO (spec_l19Behind.f k a0 a1 a2 a3 a4 a5) (spec_l19Behind.f (k + 1) a0 a1 a2 a3 a4 a5) := by
 intro a0 a1 a2 a3 a4 a5 k
 obtain ⟨ih0, ih1⟩ := spec_l19Behind.mono_l k
 unfold spec_l19Behind.f
 repeat' first
   | (with_reducible exact ih0 _ _ _ _ _ _ _ _ _)
   | (with_reducible exact ih1 _ _ _ _ _ _ _)
   | (with_reducible exact spec_Sets.mono _ _ _ _ _ _)
   | (with_reducible exact LeO.refl _)
   | (with_reducible exact LeO.none _)
   | (with_reducible refine LeO.ite ?_ ?_)
   | (with_reducible refine LeO.bind ?_ (fun _ => ?_))
   | exact ih0 _ _ _ _ _ _ _ _ _
   | exact ih1 _ _ _ _ _ _ _
   | exact spec_Sets.mono _ _ _ _ _ _
   | exact LeO.none _
   | refine LeO.ite ?_ ?_
   | refine LeO.bind ?_ (fun _ => ?_)
def spec_l19Behind.T10 : Bool × List (List Nat × List Nat) := (true, [([], []), ([], []), ([1], [1]), ([], []), ([3], [3]), ([], []), ([], []), ([6], [6]), ([5, 7], [5, 7]), ([8], [8]), ([9], [9]), ([], []), ([], []), ([12], [12]), ([11, 13], [11, 13]), ([14], [14]), ([15], [15]), ([4, 10, 16], [4, 10, 16]), ([17], [17]), ([0, 2, 0, 1, 2, 3, 4, 5, 6, 7, 8, 9, 10, 11, 12, 13, 14, 15, 16, 17, 18], [0, 2]), ([19, 18, 17, 0, 1, 2, 3, 4, 5, 6, 7, 8, 9, 10, 11, 12, 13, 14, 15, 16, 17, 18], [18, 19])])
def spec_l19Behind.B10 : List Nat := [0, 0, 2, 0, 8, 0, 0, 64, 224, 480, 992, 0, 0, 4096, 14336, 30720, 63488, 131064, 262136, 524287, 1048575]
theorem spec_l19Behind.tab10 : rtab .any (opsOf Try.f91 10) = spec_l19Behind.T10 := by kernel_rfl
theorem spec_l19Behind.bits10 : waitsOk spec_l19Behind.T10.2 spec_l19Behind.B10 = true := by kernel_rfl
set_option maxHeartbeats 80000000 in
set_option maxRecDepth 100000 in
theorem spec_l19Behind.calls (k : Nat) (a0_0 : Int) (a0_1 : Int) (a0_2 : Int) (a0_3 : Int) (a0_4 : Int) (A1 : Option Addr) (c1 : Nat) (l1 : List (S83)) (r : List (S83)) (w : World) (hr1 : Kd.C k83 w A1 l1.length l1) (hc1 : l1.length ≤ c1) (h : spec_l19Behind.f k a0_0 a0_1 a0_2 a0_3 a0_4 l1 = some r) :
  Calls Try.prog 91 #[.agg #[.int .i64 a0_0, .int .i64 a0_1, .int .i64 a0_2, .int .i64 a0_3, .int .i64 a0_4], .slice A1 l1.length c1] w fun e w' => ∃ v0_ : Value, e = .returned (v0_) ∧ Kd.R k83 83 w' w.heap.size (fun _ => True) v0_ r ∧ Below w.heap.size w w' := by
 have hu63 := Try.underlying63
 have hu83 := Try.underlying83
 have HR1 := Aside0.mk hr1
 have HC1 := Aside0.mk hc1
 clear hr1 hc1
 have HB := Aside0.mk (Below.refl w.heap.size w)
 have H : ((some (([] : List (S83)) : List (S83))).bind fun y182 => (if y182.length + l1.length < 8796093022208 then ((spec_Sets.f k a0_0 a0_1 a0_2 a0_3 a0_4).bind fun t188 => (spec_l19Behind.l0 k l1 (y182 ++ l1) t188 0 a0_0 a0_1 a0_2 a0_3 a0_4)) else (none))) = some r := h
 clear h
 obtain ⟨y182, hy182⟩ : ∃ y_ : List (S83), y_ = (([] : List (S83))) := ⟨_, rfl⟩
 replace H : (if y182.length + l1.length < 8796093022208 then ((spec_Sets.f k a0_0 a0_1 a0_2 a0_3 a0_4).bind fun t188 => (spec_l19Behind.l0 k l1 (y182 ++ l1) t188 0 a0_0 a0_1 a0_2 a0_3 a0_4)) else (none)) = some r := by first | (rw [hy182]; with_reducible exact H) | (have H2_ := (Option.bind_some _ _).symm.trans H; rw [hy182]; with_reducible exact H2_) | (have H2_ := (Option.bind_some _ _).symm.trans H; with_reducible exact H2_) | with_reducible exact H | (rw [hy182]; exact H) | exact H
 have Ny182 := Aside0.mk hy182
 clear hy182
 by_cases c3 : y182.length + l1.length < 8796093022208
 ·rw [if_pos c3] at H
  have LMc3 := Aside0.mk c3
  clear c3
  obtain ⟨y185, hy185⟩ : ∃ y_ : List (S83), y_ = (y182 ++ l1) := ⟨_, rfl⟩
  replace H : ((spec_Sets.f k a0_0 a0_1 a0_2 a0_3 a0_4).bind fun t188 => (spec_l19Behind.l0 k l1 y185 t188 0 a0_0 a0_1 a0_2 a0_3 a0_4)) = some r := by first | (rw [hy185]; with_reducible exact H) | (have H2_ := (Option.bind_some _ _).symm.trans H; rw [hy185]; with_reducible exact H2_) | (have H2_ := (Option.bind_some _ _).symm.trans H; with_reducible exact H2_) | with_reducible exact H | (rw [hy185]; exact H) | exact H
  have Ny185 := Aside0.mk hy185
  clear hy185
  replace H := Option.bind_eq_some_iff.mp H
  obtain ⟨t188, A40, H⟩ := H
  (try dsimp only at H)
  have A4 := Aside0.mk A40
  clear A40
  have H' := Aside0.mk H
  clear H
  go_enter Try.func91, Try.ntmps91
  go_wp2_with (first | ((with_reducible refine gate_dst (N := 2) rfl ?_); refine box_event ?hg (N := 2) ?hd (cs := #[.int .i64 a0_0, .int .i64 a0_1, .int .i64 a0_2, .int .i64 a0_3, .int .i64 a0_4]) (t := 63) ?hr ?_; (case hd => rfl); (case hg => rfl); (case hr => first | (go_simp; done) | (go_simp; rfl)); intro gb181 hg w5 hbox hb; have n0_ := Aside0.mk (below_step att8_0_6 hb); have n1_ := Aside0.mk (hbox); have n2_ := Aside0.mk ((by rw [hg]; exact (below_size att8_0_6) : w.heap.size ≤ gb181)); have n3_ := Aside0.mk ((by rw [hg]; exact (below_size att8_0_6) : w.heap.size ≤ gb181)); clear HB; have HB := n0_; have BK181 := n1_; have GW181 := n2_; have GE181 := n3_; clear n0_ n1_ n2_ n3_; clear hb hbox hg) | ((with_reducible refine gate_dst (N := 8) rfl ?_); refine Kd.R_lit k83 _ 83 ?hg (N := 8) ?hd (xs := ([] : List (S83))) (inner := []) (ok := fun _ => True) (okp := fun _ => True) ?hr ?hp (fun _ hk => hk) trivial (Below.refl _ _) (Nat.le_refl _) (by simp) ?_; (case hd => rfl); (case hg => rfl); (case hr => first | (go_simp; done) | (go_simp; rfl)); (case hp => exact (Reps.none _ _)); intro v183 w6 ho7 hb hg_ hnew_; clear hg_ hnew_; (first | rw [← Ny182.out] at ho7 | (simp only [Int.reduceToNat] at ho7; rw [← Ny182.out] at ho7)); have n0_ := Aside0.mk (Kd.R_lower ho7 (below_size att8_0_0)); have n1_ := Aside0.mk (blk_below (g := gb181) (o := .cells #[.int .i64 a0_0, .int .i64 a0_1, .int .i64 a0_2, .int .i64 a0_3, .int .i64 a0_4] 63 (0, 0)) att8_0_2 hb); have n2_ := Aside0.mk (below_step att8_0_0 hb); clear BK181; clear HB; have HO184 := n0_; have BK181 := n1_; have HB := n2_; clear n0_ n1_ n2_; clear hb ho7) | ((with_reducible refine gate_builtin (b := .append) (xs := #[.tmp 8, .tmp 9]) rfl ?_); at_builtin; refine Kd.R_append_rows k83 (w0 := w) w.heap.size rfl (.tmp 8) (.tmp 9) 81 83 (.agg #[(.bool false), (.int .i64 0)]) 16 rfl Try.underlying81 info83 rfl (by decide) (by omega) v183 y182 l1 _ _ _ (fun _ => True) (fun _ => False) rfl rfl ?aO ?aR (fun _ _ h => h) (fun _ h => h.elim) ?aF ?aB ?aS ?aL ?_; (case aR => repeat (first | exact (Kd.C_below HR1.out HB.out) | (with_reducible refine Kd.C_alloc ?_ _) | (with_reducible refine Kd.C_drewN ?_ _) | (with_reducible refine Kd.C_drew ?_))); (case aB => exact att8_0_0); (case aF => exact (fun _ _ => trivial)); (case aO => exact (by (with_reducible repeat (first | apply Kd.R_alloc | apply Kd.R_drewN | apply Kd.R_drew)); exact HO184.out)); (case aS => exact (below_size att8_0_0)); (case aL => have := LMc3.out; omega); intro v186 w8 ho hb hg hat; rw [← Ny185.out] at ho; have n0_ := Aside0.mk (blk_grown (g := gb181) (o := .cells #[.int .i64 a0_0, .int .i64 a0_1, .int .i64 a0_2, .int .i64 a0_3, .int .i64 a0_4] 63 (0, 0)) att8_0_2 hg (Kd.R_ne HO184.out BK181.out (by decide))); have n1_ := Aside0.mk (hb); have n2_ := Aside0.mk (ho); clear BK181; clear HB; clear HO184; have BK181 := n0_; have HB := n1_; have HO187 := n2_; clear n0_ n1_ n2_; clear ho hb hg hat; have hcz9_0 : w8.cell? ⟨gb181, 0, none⟩ = some (.int .i64 a0_0) := (blk_cell BK181.out 0).trans rfl; have hcz9_1 : w8.cell? ⟨gb181, 1, none⟩ = some (.int .i64 a0_1) := (blk_cell BK181.out 1).trans rfl; have hcz9_2 : w8.cell? ⟨gb181, 2, none⟩ = some (.int .i64 a0_2) := (blk_cell BK181.out 2).trans rfl; have hcz9_3 : w8.cell? ⟨gb181, 3, none⟩ = some (.int .i64 a0_3) := (blk_cell BK181.out 3).trans rfl; have hcz9_4 : w8.cell? ⟨gb181, 4, none⟩ = some (.int .i64 a0_4) := (blk_cell BK181.out 4).trans rfl; have hfz9_0 := blk_frozen BK181.out 0; have hfz9_1 := blk_frozen BK181.out 1; have hfz9_2 := blk_frozen BK181.out 2; have hfz9_3 := blk_frozen BK181.out 3; have hfz9_4 := blk_frozen BK181.out 4) | ((with_reducible refine gate_callee (f := 118) rfl ?_); refine goesL_ (some 12) rfl rfl Try.func118 (by kernel_rfl) rfl #[.agg #[.int .i64 a0_0, .int .i64 a0_1, .int .i64 a0_2, .int .i64 a0_3, .int .i64 a0_4]] rfl att8_0_3 ?_; (with_reducible refine (spec_Sets.calls k a0_0 a0_1 a0_2 a0_3 a0_4 t188 _ A4.out).mono ?_); rintro e w10 ⟨v189, rfl, ho0, hb⟩; refine ⟨_, rfl, ?_⟩; have n0_ := Aside0.mk (Kd.R_below att8_0_8 hb); have n1_ := Aside0.mk (Kd.R_lower ho0 (below_size att8_0_0)); have n2_ := Aside0.mk (blk_below (g := gb181) (o := .cells #[.int .i64 a0_0, .int .i64 a0_1, .int .i64 a0_2, .int .i64 a0_3, .int .i64 a0_4] 63 (0, 0)) att8_0_2 hb); have n3_ := Aside0.mk (below_step att8_0_0 hb); clear HO187; clear BK181; clear HB; have HO187 := n0_; have HO190 := n1_; have BK181 := n2_; have HB := n3_; clear n0_ n1_ n2_ n3_; (try clear hb); (try clear hb2); (try clear hk); (try clear hi); (try clear ho0)))
  go_loopg [7] k (fun kq v7 w' => ∃ (x5_1 : List (S83)) (x7_1 : Int), v7 = .int .i64 x7_1 ∧ Aside0 (spec_l19Behind.l0 kq l1 x5_1 t188 x7_1 a0_0 a0_1 a0_2 a0_3 a0_4 = some r) ∧ Aside0 (kq ≤ k) ∧ Aside0 (Kd.R k83 83 w' w.heap.size (fun _ => True) v186 x5_1) ∧ Aside0 (Kd.R (Kd.int .i64) 3 w' w.heap.size (fun _ => True) v189 t188) ∧ Aside0 (w'.heap[gb181]? = some (.cells #[.int .i64 a0_0, .int .i64 a0_1, .int .i64 a0_2, .int .i64 a0_3, .int .i64 a0_4] 63 (0, 0))) ∧ Aside0 (Below w.heap.size w w'))
  case atStart => exact ⟨(y185), (0), (by first | rfl | (simp; done) | (simp [*]; done)), H', ⟨Nat.le_refl _⟩, ⟨att8_0_8⟩, ⟨by (with_reducible repeat (first | apply Kd.R_alloc | apply Kd.R_drewN | apply Kd.R_drew)); exact HO190.out⟩, ⟨att8_0_2⟩, ⟨att8_0_0⟩⟩
  case round =>
   clear H'
   try clear c1
   try clear p2
   try clear c3
   try clear c9
   try clear hcz9_0
   try clear hcz9_1
   try clear hcz9_2
   try clear hcz9_3
   try clear hcz9_4
   try clear hfz9_0
   try clear hfz9_1
   try clear hfz9_2
   try clear hfz9_3
   try clear hfz9_4
   obtain ⟨x5_1, x7_1, rfl, HA, HK1, HO_5, HO_6, BK181, HB⟩ := hrel
   cases gk with
   | zero => exact absurd HA.out (by simp [spec_l19Behind.l0])
   | succ k1 =>
    have H := HA.out
    clear HA
    simp only [spec_l19Behind.l0] at H
    by_cases c11 : x7_1 < (t188.length : Int)
    ·rw [if_pos c11] at H
     have c11b0 : decide (x7_1 < (t188.length : Int)) = true := decide_eq_true c11
     clear c11
     by_cases c12 : 0 ≤ x7_1
     ·rw [if_pos c12] at H
      have c12b0 : decide (0 ≤ x7_1) = true := decide_eq_true c12
      clear c12
      by_cases c13 : 0 ≤ (rd t188 x7_1)
      ·rw [if_pos c13] at H
       have c13b0 : decide (0 ≤ (rd t188 x7_1)) = true := decide_eq_true c13
       clear c13
       by_cases c14 : (rd t188 x7_1) < (x5_1.length : Int)
       ·rw [if_pos c14] at H
        have c14b0 : decide ((rd t188 x7_1) < (x5_1.length : Int)) = true := decide_eq_true c14
        clear c14
        obtain ⟨y192, hy192⟩ : ∃ y_ : List (S83), y_ = (x5_1.set ((rd t188 x7_1) : Int).toNat (⟨false, 0⟩ : S83)) := ⟨_, rfl⟩
        replace H : (spec_l19Behind.l0 k1 l1 y192 t188 (wrap64 (x7_1 + 1)) a0_0 a0_1 a0_2 a0_3 a0_4) = some r := by first | (rw [hy192]; with_reducible exact H) | (have H2_ := (Option.bind_some _ _).symm.trans H; rw [hy192]; with_reducible exact H2_) | (have H2_ := (Option.bind_some _ _).symm.trans H; with_reducible exact H2_) | with_reducible exact H | (rw [hy192]; exact H) | exact H
        have Ny192 := Aside0.mk hy192
        clear hy192
        have H' := Aside0.mk H
        clear H
        obtain ⟨Ao16, co16, eo16⟩ := Kd.R_slice HO_6.out
        subst eo16
        have p191 : 0 ≤ (x7_1 : Int) := of_decide_eq_true att8_0_1
        have q191 : x7_1 < (t188.length : Int) := of_decide_eq_true att8_0_1
        obtain ⟨ad191, e191, hx191_0⟩ := Kd.at_int (Kd.R_reads' HO_6.out).2.2 x7_1 p191 q191
        cases e191
        replace p191 := eq_true p191
        replace q191 := eq_true q191
        have p15 : 0 ≤ ((rd t188 x7_1) : Int) := of_decide_eq_true att8_0_1
        have q15 : ((rd t188 x7_1) : Int) < ((x5_1.length : Int) : Int) := of_decide_eq_true att8_0_1
        obtain ⟨go15, co15, eo15, gb15, gl15, cl15, HG15⟩ := Kd.R_form HO_5.out (by omega)
        (first | cases eo15 | (injection eo15 with ea_ en_ ec_; (first | subst ea_ | (injection ea_ with ea_; subst ea_)); subst ec_; clear en_))
        have GB15 := Aside0.mk gb15
        have GG15 := Aside0.mk HG15
        clear gb15 gl15 HG15
        obtain ⟨ce15, hcl15, hM15, hcc15, hfr15⟩ := Kd.R_elem HO_5.out z83 ((rd t188 x7_1) : Int) p15 q15
        obtain rfl := k83_openM hM15
        have hx15_0 : wr.cell? ⟨go15, ((rd t188 x7_1) : Int).toNat * 2, none⟩ = some (.bool ((rd_T83 x5_1 (rd t188 x7_1)).f0)) := hcc15 0 _ rfl
        have hx15_1 : wr.cell? ⟨go15, ((rd t188 x7_1) : Int).toNat * 2 + 1, none⟩ = some (.int .i64 ((rd_T83 x5_1 (rd t188 x7_1)).f1)) := hcc15 1 _ rfl
        have hf15_0 : wr.frozen? ⟨go15, ((rd t188 x7_1) : Int).toNat * 2, none⟩ = false := hfr15 0
        have hf15_1 : wr.frozen? ⟨go15, ((rd t188 x7_1) : Int).toNat * 2 + 1, none⟩ = false := hfr15 1
        clear hcl15 hcc15 hfr15 hM15
        replace p15 := eq_true p15
        replace q15 := eq_true q15
        have HX17 := Aside0.mk (show Kd.R k83 83 wr w.heap.size (fun _ => True) (.slice (some ⟨go15, 0, none⟩) x5_1.length co15) x5_1 from att8_0_4)
        obtain ⟨ce17, hcl17, hM17, hcc17, hfr17⟩ := Kd.R_elem HX17.out z83 ((rd t188 x7_1) : Int) (of_decide_eq_true att8_0_1) att8_1_0
        obtain rfl := k83_openM hM17
        have HP17 := Kd.R_seg HX17.out ((rd t188 x7_1) : Int) (of_decide_eq_true att8_0_1) att8_1_0 (seg := [.bool false, .int .i64 0]) (j := 0) hcl17 hcc17 (show 2 ≤ 2 from by decide) (x' := (⟨false, 0⟩ : S83)) (k83_mkM _ _ _ (⟨false, 0⟩ : S83) ) (fun _ hk => hk)
        have hx17_0 := hcc17 0 _ rfl
        (try simp only [show (k83).sz = 2 from rfl, Nat.mul_one, Nat.add_zero] at hx17_0)
        have hf17_0 := hfr17 0
        (try simp only [show (k83).sz = 2 from rfl, Nat.mul_one, Nat.add_zero] at hf17_0)
        have hx17_1 := hcc17 1 _ rfl
        (try simp only [show (k83).sz = 2 from rfl, Nat.mul_one, Nat.add_zero] at hx17_1)
        have hf17_1 := hfr17 1
        (try simp only [show (k83).sz = 2 from rfl, Nat.mul_one, Nat.add_zero] at hf17_1)
        clear hcl17 hcc17 hfr17 hM17
        go_wp2_with (first | ((with_reducible refine gate_store (t := 83) (p := 25) rfl ?_); refine store_event (t := 83) (p := 25) (v := ?vo_w18) (w1 := ((wr.setCell ⟨go15, ((rd t188 x7_1) : Int).toNat * 2, none⟩ (.bool false)).setCell ⟨go15, ((rd t188 x7_1) : Int).toNat * 2 + 1, none⟩ (.int .i64 0))) ?hg ?ho ?hn ?hr ?_; (case ho => rfl); (case hg => rfl); (case hn => rfl); (case hr => first | (go_simp; done) | (go_simp; rfl)); intro w18 hw; have hg : wr.grownBy w18 (some go15) := (by rw [hw]; exact HP17.2); have hp_ : Kd.R k83 83 w18 w.heap.size (fun _ => True) (.slice (some ⟨go15, 0, none⟩) x5_1.length co15) y192 := (by rw [hw, Ny192.out]; exact HP17.1); clear HP17; have n0_ := Aside0.mk (hp_); have n1_ := Aside0.mk (Kd.R_over' (v := (.slice (some ⟨go15, 0, none⟩) x5_1.length co15)) att8_0_7 (Kd.R_typed HO_5.out) (by decide) hg); have n2_ := Aside0.mk (blk_grown (g := gb181) (o := .cells #[.int .i64 a0_0, .int .i64 a0_1, .int .i64 a0_2, .int .i64 a0_3, .int .i64 a0_4] 63 (0, 0)) att8_0_2 hg (Kd.R_ne HO_5.out BK181.out (by decide))); have n3_ := Aside0.mk ((by rw [hw]; exact below_set (below_set (HB.out) GB15.out) GB15.out : Below w.heap.size w w18)); clear HO_5; clear HO_6; clear BK181; clear HB; have HO_5 := n0_; have HO_6 := n1_; have BK181 := n2_; have HB := n3_; clear n0_ n1_ n2_ n3_; clear hg hw hp_))
        go_roundg k1
        case measure => have := HK1.out; omega
        case rel => exact ⟨(y192), (wrap64 (x7_1 + 1)), (by first | rfl | (simp; done) | (simp [*]; done)), H', ⟨by have := HK1.out; omega⟩, ⟨att8_0_4⟩, ⟨att8_0_7⟩, ⟨att8_0_2⟩, ⟨att8_0_0⟩⟩
       ·rw [if_neg c14] at H
        exact absurd H (by simp)
      ·rw [if_neg c13] at H
       exact absurd H (by simp)
     ·rw [if_neg c12] at H
      exact absurd H (by simp)
    ·rw [if_neg c11] at H
     have c11b0 : decide (x7_1 < (t188.length : Int)) = false := decide_eq_false c11
     clear c11
     have HC19 := Aside0.mk H
     clear H
     obtain ⟨Ao20, co20, eo20⟩ := Kd.R_slice HO_6.out
     subst eo20
     have hcz21_0 : wr.cell? ⟨gb181, 0, none⟩ = some (.int .i64 a0_0) := (blk_cell BK181.out 0).trans rfl
     have hcz21_1 : wr.cell? ⟨gb181, 1, none⟩ = some (.int .i64 a0_1) := (blk_cell BK181.out 1).trans rfl
     have hcz21_2 : wr.cell? ⟨gb181, 2, none⟩ = some (.int .i64 a0_2) := (blk_cell BK181.out 2).trans rfl
     have hcz21_3 : wr.cell? ⟨gb181, 3, none⟩ = some (.int .i64 a0_3) := (blk_cell BK181.out 3).trans rfl
     have hcz21_4 : wr.cell? ⟨gb181, 4, none⟩ = some (.int .i64 a0_4) := (blk_cell BK181.out 4).trans rfl
     have hfz21_0 := blk_frozen BK181.out 0
     have hfz21_1 := blk_frozen BK181.out 1
     have hfz21_2 := blk_frozen BK181.out 2
     have hfz21_3 := blk_frozen BK181.out 3
     have hfz21_4 := blk_frozen BK181.out 4
     go_upto_if 28 with (fail)
     go_cut [] (fun wc => ∃ (kq : Nat) (x5_18 : List (S83)), Aside0 (spec_l19Behind.j1 kq l1 x5_18 a0_0 a0_1 a0_2 a0_3 a0_4 = some r) ∧ Aside0 (kq ≤ k1) ∧ Aside0 (Kd.R k83 83 wc w.heap.size (fun _ => True) v186 x5_18) ∧ Aside0 (wc.heap[gb181]? = some (.cells #[.int .i64 a0_0, .int .i64 a0_1, .int .i64 a0_2, .int .i64 a0_3, .int .i64 a0_4] 63 (0, 0))) ∧ Aside0 (Below w.heap.size w wc))
     case first =>
      have H := HC19.out
      clear HC19
      by_cases c22 : a0_0 = 1
      ·rw [if_pos c22] at H
       have c22b0 : (a0_0 == 1) = true := beq_iff_eq.mpr c22
       have c22b1 : (a0_0 != 1) = false := bne_eq_false_iff_eq.mpr c22
       clear c22
       (first | rw [c22b0] | (simp only [i64_w, i32_w]; rw [c22b0]) | skip)
       by_cases c23 : 0 ≤ a0_1
       ·rw [if_pos c23] at H
        have c23b0 : decide (0 ≤ a0_1) = true := decide_eq_true c23
        clear c23
        by_cases c24 : a0_1 < (x5_1.length : Int)
        ·rw [if_pos c24] at H
         have c24b0 : decide (a0_1 < (x5_1.length : Int)) = true := decide_eq_true c24
         clear c24
         obtain ⟨y193, hy193⟩ : ∃ y_ : List (S83), y_ = (x5_1.set (a0_1 : Int).toNat (⟨true, a0_4⟩ : S83)) := ⟨_, rfl⟩
         replace H : (spec_l19Behind.j1 k1 l1 y193 a0_0 a0_1 a0_2 a0_3 a0_4) = some r := by first | (rw [hy193]; with_reducible exact H) | (have H2_ := (Option.bind_some _ _).symm.trans H; rw [hy193]; with_reducible exact H2_) | (have H2_ := (Option.bind_some _ _).symm.trans H; with_reducible exact H2_) | with_reducible exact H | (rw [hy193]; exact H) | exact H
         have Ny193 := Aside0.mk hy193
         clear hy193
         have H' := Aside0.mk H
         clear H
         have hcz26_0 : wr.cell? ⟨gb181, 0, none⟩ = some (.int .i64 a0_0) := (blk_cell BK181.out 0).trans rfl
         have hcz26_1 : wr.cell? ⟨gb181, 1, none⟩ = some (.int .i64 a0_1) := (blk_cell BK181.out 1).trans rfl
         have hcz26_2 : wr.cell? ⟨gb181, 2, none⟩ = some (.int .i64 a0_2) := (blk_cell BK181.out 2).trans rfl
         have hcz26_3 : wr.cell? ⟨gb181, 3, none⟩ = some (.int .i64 a0_3) := (blk_cell BK181.out 3).trans rfl
         have hcz26_4 : wr.cell? ⟨gb181, 4, none⟩ = some (.int .i64 a0_4) := (blk_cell BK181.out 4).trans rfl
         have hfz26_0 := blk_frozen BK181.out 0
         have hfz26_1 := blk_frozen BK181.out 1
         have hfz26_2 := blk_frozen BK181.out 2
         have hfz26_3 := blk_frozen BK181.out 3
         have hfz26_4 := blk_frozen BK181.out 4
         have p25 : 0 ≤ (a0_1 : Int) := of_decide_eq_true att8_0_1
         have q25 : (a0_1 : Int) < ((x5_1.length : Int) : Int) := of_decide_eq_true att8_0_1
         obtain ⟨go25, co25, eo25, gb25, gl25, cl25, HG25⟩ := Kd.R_form HO_5.out (by omega)
         (first | cases eo25 | (injection eo25 with ea_ en_ ec_; (first | subst ea_ | (injection ea_ with ea_; subst ea_)); subst ec_; clear en_))
         have GB25 := Aside0.mk gb25
         have GG25 := Aside0.mk HG25
         clear gb25 gl25 HG25
         obtain ⟨ce25, hcl25, hM25, hcc25, hfr25⟩ := Kd.R_elem HO_5.out z83 (a0_1 : Int) p25 q25
         obtain rfl := k83_openM hM25
         have hx25_0 : wr.cell? ⟨go25, (a0_1 : Int).toNat * 2, none⟩ = some (.bool ((rd_T83 x5_1 a0_1).f0)) := hcc25 0 _ rfl
         have hx25_1 : wr.cell? ⟨go25, (a0_1 : Int).toNat * 2 + 1, none⟩ = some (.int .i64 ((rd_T83 x5_1 a0_1).f1)) := hcc25 1 _ rfl
         have hf25_0 : wr.frozen? ⟨go25, (a0_1 : Int).toNat * 2, none⟩ = false := hfr25 0
         have hf25_1 : wr.frozen? ⟨go25, (a0_1 : Int).toNat * 2 + 1, none⟩ = false := hfr25 1
         clear hcl25 hcc25 hfr25 hM25
         replace p25 := eq_true p25
         replace q25 := eq_true q25
         have HX27 := Aside0.mk (show Kd.R k83 83 wr w.heap.size (fun _ => True) (.slice (some ⟨go25, 0, none⟩) x5_1.length co25) x5_1 from att8_0_4)
         obtain ⟨ce27, hcl27, hM27, hcc27, hfr27⟩ := Kd.R_elem HX27.out z83 (a0_1 : Int) (of_decide_eq_true att8_0_1) att8_1_2
         obtain rfl := k83_openM hM27
         have HP27 := Kd.R_seg HX27.out (a0_1 : Int) (of_decide_eq_true att8_0_1) att8_1_2 (seg := [.bool true, .int .i64 a0_4]) (j := 0) hcl27 hcc27 (show 2 ≤ 2 from by decide) (x' := (⟨true, a0_4⟩ : S83)) (k83_mkM _ _ _ (⟨true, a0_4⟩ : S83) ) (fun _ hk => hk)
         have hx27_0 := hcc27 0 _ rfl
         (try simp only [show (k83).sz = 2 from rfl, Nat.mul_one, Nat.add_zero] at hx27_0)
         have hf27_0 := hfr27 0
         (try simp only [show (k83).sz = 2 from rfl, Nat.mul_one, Nat.add_zero] at hf27_0)
         have hx27_1 := hcc27 1 _ rfl
         (try simp only [show (k83).sz = 2 from rfl, Nat.mul_one, Nat.add_zero] at hx27_1)
         have hf27_1 := hfr27 1
         (try simp only [show (k83).sz = 2 from rfl, Nat.mul_one, Nat.add_zero] at hf27_1)
         clear hcl27 hcc27 hfr27 hM27
         go_wp2_with (first | ((with_reducible refine gate_store (t := 83) (p := 35) rfl ?_); refine store_event (t := 83) (p := 35) (v := ?vo_w28) (w1 := ((wr.setCell ⟨go25, (a0_1 : Int).toNat * 2, none⟩ (.bool true)).setCell ⟨go25, (a0_1 : Int).toNat * 2 + 1, none⟩ (.int .i64 a0_4))) ?hg ?ho ?hn ?hr ?_; (case ho => rfl); (case hg => rfl); (case hn => rfl); (case hr => first | (go_simp; done) | (go_simp; rfl)); intro w28 hw; have hg : wr.grownBy w28 (some go25) := (by rw [hw]; exact HP27.2); have hp_ : Kd.R k83 83 w28 w.heap.size (fun _ => True) (.slice (some ⟨go25, 0, none⟩) x5_1.length co25) y193 := (by rw [hw, Ny193.out]; exact HP27.1); clear HP27; have n0_ := Aside0.mk (hp_); have n1_ := Aside0.mk (Kd.R_over' (v := (.slice (some ⟨go25, 0, none⟩) x5_1.length co25)) att8_0_7 (Kd.R_typed HO_5.out) (by decide) hg); have n2_ := Aside0.mk (blk_grown (g := gb181) (o := .cells #[.int .i64 a0_0, .int .i64 a0_1, .int .i64 a0_2, .int .i64 a0_3, .int .i64 a0_4] 63 (0, 0)) att8_0_2 hg (Kd.R_ne HO_5.out BK181.out (by decide))); have n3_ := Aside0.mk ((by rw [hw]; exact below_set (below_set (HB.out) GB25.out) GB25.out : Below w.heap.size w w28)); clear HO_5; clear HO_6; clear BK181; clear HB; have HO_5 := n0_; have HO_6 := n1_; have BK181 := n2_; have HB := n3_; clear n0_ n1_ n2_ n3_; clear hg hw hp_))
         go_meet
         case rel => exact ⟨_, (y193), H', ⟨by have := HK1.out; first | omega | exact Nat.le_refl _⟩, ⟨att8_0_4⟩, ⟨att8_0_2⟩, ⟨att8_0_0⟩⟩
        ·rw [if_neg c24] at H
         exact absurd H (by simp)
       ·rw [if_neg c23] at H
        exact absurd H (by simp)
      ·rw [if_neg c22] at H
       have c22b0 : (a0_0 == 1) = false := beq_eq_false_iff_ne.mpr c22
       have c22b1 : (a0_0 != 1) = true := bne_iff_ne.mpr c22
       (first | rw [c22b0] | (simp only [i64_w, i32_w]; rw [c22b0]) | skip)
       have H' := Aside0.mk H
       clear H
       go_wp2
       go_meet
       case rel => exact ⟨_, (x5_1), H', ⟨by have := HK1.out; first | omega | exact Nat.le_refl _⟩, ⟨att8_0_4⟩, ⟨att8_0_2⟩, ⟨att8_0_0⟩⟩
     case rest =>
      clear HC19
      try clear c1
      try clear p1
      try clear q1
      try clear hx1
      try clear c2
      try clear p2
      try clear q2
      try clear hx2
      try clear hf2
      try clear c3
      try clear p6
      try clear c9
      try clear c11
      try clear c11b0
      try clear c12
      try clear c12b0
      try clear c13
      try clear c13b0
      try clear c14
      try clear c14b0
      try clear c15
      try clear p15
      try clear q15
      try clear hx15
      try clear hf15
      try clear c17
      try clear hx17
      try clear hf17
      try clear p19
      try clear q19
      try clear hx19
      try clear c22
      try clear c22b0
      try clear c22b1
      try clear c23
      try clear c23b0
      try clear c24
      try clear c24b0
      try clear c25
      try clear p25
      try clear q25
      try clear hx25
      try clear hf25
      try clear c27
      try clear hx27
      try clear hf27
      try clear hcz21_0
      try clear hcz21_1
      try clear hcz21_2
      try clear hcz21_3
      try clear hcz21_4
      try clear hcz26_0
      try clear hcz26_1
      try clear hcz26_2
      try clear hcz26_3
      try clear hcz26_4
      try clear hcz9_0
      try clear hcz9_1
      try clear hcz9_2
      try clear hcz9_3
      try clear hcz9_4
      try clear hfz21_0
      try clear hfz21_1
      try clear hfz21_2
      try clear hfz21_3
      try clear hfz21_4
      try clear hfz26_0
      try clear hfz26_1
      try clear hfz26_2
      try clear hfz26_3
      try clear hfz26_4
      try clear hfz9_0
      try clear hfz9_1
      try clear hfz9_2
      try clear hfz9_3
      try clear hfz9_4
      try clear hx15_0
      try clear hx15_1
      try clear hx17_0
      try clear hx17_1
      try clear hx191_0
      try clear hx25_0
      try clear hx25_1
      try clear hx27_0
      try clear hx27_1
      try clear p15
      try clear p191
      try clear p2
      try clear p25
      try clear q15
      try clear q191
      try clear q25
      obtain ⟨kq, x5_18, HA, HJ18, HO_5, BK181, HB⟩ := hcut
      cases kq with
      | zero => exact absurd HA.out (by simp [spec_l19Behind.j1])
      | succ kj18 =>
       have H := HA.out
       clear HA
       simp only [spec_l19Behind.j1] at H
       replace H := Option.bind_eq_some_iff.mp H
       obtain ⟨t194, A290, H⟩ := H
       (try dsimp only at H)
       have A29 := Aside0.mk A290
       clear A290
       by_cases c30 : t194 = true
       ·subst c30
        rw [if_pos rfl] at H
        by_cases c31 : 0 ≤ a0_2
        ·rw [if_pos c31] at H
         have c31b0 : decide (0 ≤ a0_2) = true := decide_eq_true c31
         clear c31
         by_cases c32 : a0_2 < (l1.length : Int)
         ·rw [if_pos c32] at H
          have c32b0 : decide (a0_2 < (l1.length : Int)) = true := decide_eq_true c32
          clear c32
          obtain ⟨bq33, hbq33⟩ : ∃ b_ : Bool, b_ = ((rd_T83 l1 a0_2).f0) := ⟨_, rfl⟩
          replace H : (if bq33 = true then (if 0 ≤ a0_3 then (if a0_3 < (l1.length : Int) then (if (rd_T83 l1 a0_3).f0 = true then ((spec_l19Of.f a0_0 ((rd_T83 l1 a0_2).f1) ((rd_T83 l1 a0_3).f1)).bind fun t199 => (if 0 ≤ a0_1 then (if a0_1 < (x5_18.length : Int) then (some (x5_18.set (a0_1 : Int).toNat (⟨true, t199⟩ : S83))) else (none)) else (none))) else (some x5_18)) else (none)) else (none)) else (some x5_18)) = some r := by rw [← hbq33] at H; exact H
          have Nbq33 := Aside0.mk hbq33
          clear hbq33
          by_cases c34 : bq33 = true
          ·subst c34
           rw [if_pos rfl] at H
           by_cases c35 : 0 ≤ a0_3
           ·rw [if_pos c35] at H
            have c35b0 : decide (0 ≤ a0_3) = true := decide_eq_true c35
            clear c35
            by_cases c36 : a0_3 < (l1.length : Int)
            ·rw [if_pos c36] at H
             have c36b0 : decide (a0_3 < (l1.length : Int)) = true := decide_eq_true c36
             clear c36
             obtain ⟨bq37, hbq37⟩ : ∃ b_ : Bool, b_ = ((rd_T83 l1 a0_3).f0) := ⟨_, rfl⟩
             replace H : (if bq37 = true then ((spec_l19Of.f a0_0 ((rd_T83 l1 a0_2).f1) ((rd_T83 l1 a0_3).f1)).bind fun t199 => (if 0 ≤ a0_1 then (if a0_1 < (x5_18.length : Int) then (some (x5_18.set (a0_1 : Int).toNat (⟨true, t199⟩ : S83))) else (none)) else (none))) else (some x5_18)) = some r := by rw [← hbq37] at H; exact H
             have Nbq37 := Aside0.mk hbq37
             clear hbq37
             by_cases c38 : bq37 = true
             ·subst c38
              rw [if_pos rfl] at H
              replace H := Option.bind_eq_some_iff.mp H
              obtain ⟨t199, A390, H⟩ := H
              (try dsimp only at H)
              have A39 := Aside0.mk A390
              clear A390
              by_cases c40 : 0 ≤ a0_1
              ·rw [if_pos c40] at H
               have c40b0 : decide (0 ≤ a0_1) = true := decide_eq_true c40
               clear c40
               by_cases c41 : a0_1 < (x5_18.length : Int)
               ·rw [if_pos c41] at H
                have c41b0 : decide (a0_1 < (x5_18.length : Int)) = true := decide_eq_true c41
                clear c41
                obtain ⟨y200, hy200⟩ : ∃ y_ : List (S83), y_ = (x5_18.set (a0_1 : Int).toNat (⟨true, t199⟩ : S83)) := ⟨_, rfl⟩
                replace H : (some y200) = some r := by first | (rw [hy200]; with_reducible exact H) | (have H2_ := (Option.bind_some _ _).symm.trans H; rw [hy200]; with_reducible exact H2_) | (have H2_ := (Option.bind_some _ _).symm.trans H; with_reducible exact H2_) | with_reducible exact H | (rw [hy200]; exact H) | exact H
                have Ny200 := Aside0.mk hy200
                clear hy200
                obtain rfl := Option.some.inj H
                have hcz43_0 : wc.cell? ⟨gb181, 0, none⟩ = some (.int .i64 a0_0) := (blk_cell BK181.out 0).trans rfl
                have hcz43_1 : wc.cell? ⟨gb181, 1, none⟩ = some (.int .i64 a0_1) := (blk_cell BK181.out 1).trans rfl
                have hcz43_2 : wc.cell? ⟨gb181, 2, none⟩ = some (.int .i64 a0_2) := (blk_cell BK181.out 2).trans rfl
                have hcz43_3 : wc.cell? ⟨gb181, 3, none⟩ = some (.int .i64 a0_3) := (blk_cell BK181.out 3).trans rfl
                have hcz43_4 : wc.cell? ⟨gb181, 4, none⟩ = some (.int .i64 a0_4) := (blk_cell BK181.out 4).trans rfl
                have hfz43_0 := blk_frozen BK181.out 0
                have hfz43_1 := blk_frozen BK181.out 1
                have hfz43_2 := blk_frozen BK181.out 2
                have hfz43_3 := blk_frozen BK181.out 3
                have hfz43_4 := blk_frozen BK181.out 4
                try go_wp2_with (first | ((with_reducible refine gate_callee (f := 89) rfl ?_); refine goesL_ (some 38) rfl rfl Try.func89 (by kernel_rfl) rfl #[.int .i64 a0_0] rfl att8_0_3 ?_; (with_reducible refine (spec_l19Three.calls a0_0 true _ A29.out).mono ?_); rintro e w' ⟨rfl, ⟨nd, rfl⟩⟩; refine ⟨_, rfl, ?_⟩; (try (rw [drewN_self wc]; generalize hq_ : World.drewN wc _ = wc; have n0_ : Aside0 (Kd.R k83 83 wc w.heap.size (fun _ => True) v186 x5_18) := ⟨by rw [← hq_]; exact att8_0_4⟩; have n1_ : Aside0 (wc.heap[gb181]? = some (.cells #[.int .i64 a0_0, .int .i64 a0_1, .int .i64 a0_2, .int .i64 a0_3, .int .i64 a0_4] 63 (0, 0))) := ⟨by rw [← hq_]; exact att8_0_2⟩; have n2_ : Aside0 (Below w.heap.size w wc) := ⟨by rw [← hq_]; exact att8_0_0⟩; clear HO_5 BK181 HB hq_; have HO_5 := n0_; have BK181 := n1_; have HB := n2_; clear n0_ n1_ n2_; have hcy43_0 : wc.cell? ⟨gb181, 0, none⟩ = some (.int .i64 a0_0) := (blk_cell BK181.out 0).trans rfl; have hfy43_0 := blk_frozen BK181.out 0; have hcy43_1 : wc.cell? ⟨gb181, 1, none⟩ = some (.int .i64 a0_1) := (blk_cell BK181.out 1).trans rfl; have hfy43_1 := blk_frozen BK181.out 1; have hcy43_2 : wc.cell? ⟨gb181, 2, none⟩ = some (.int .i64 a0_2) := (blk_cell BK181.out 2).trans rfl; have hfy43_2 := blk_frozen BK181.out 2; have hcy43_3 : wc.cell? ⟨gb181, 3, none⟩ = some (.int .i64 a0_3) := (blk_cell BK181.out 3).trans rfl; have hfy43_3 := blk_frozen BK181.out 3; have hcy43_4 : wc.cell? ⟨gb181, 4, none⟩ = some (.int .i64 a0_4) := (blk_cell BK181.out 4).trans rfl; have hfy43_4 := blk_frozen BK181.out 4)); have p195 : 0 ≤ (a0_2 : Int) := of_decide_eq_true att8_0_1; have q195 : a0_2 < (l1.length : Int) := of_decide_eq_true att8_0_1; obtain ⟨ad195, e195, hx195_0, hx195_1⟩ := at_T83 HR1.out a0_2 p195 q195; (try rw [← Nbq33.out] at hx195_0); (try rw [← Nbq37.out] at hx195_0); cases e195; replace hx195_0 := (HB.out.cell (World.block_lt_of_cell? w _ hx195_0)).trans hx195_0; replace hx195_1 := (HB.out.cell (World.block_lt_of_cell? w _ hx195_1)).trans hx195_1; replace p195 := eq_true p195; replace q195 := eq_true q195; have p196 : 0 ≤ (a0_3 : Int) := of_decide_eq_true att8_0_1; have q196 : a0_3 < (l1.length : Int) := of_decide_eq_true att8_0_1; obtain ⟨ad196, e196, hx196_0, hx196_1⟩ := at_T83 HR1.out a0_3 p196 q196; (try rw [← Nbq33.out] at hx196_0); (try rw [← Nbq37.out] at hx196_0); obtain rfl : ad195 = ad196 := (by injection e196); replace hx196_0 := (HB.out.cell (World.block_lt_of_cell? w _ hx196_0)).trans hx196_0; replace hx196_1 := (HB.out.cell (World.block_lt_of_cell? w _ hx196_1)).trans hx196_1; replace p196 := eq_true p196; replace q196 := eq_true q196))
                have n0_ := Aside0.mk (Kd.R_drew HO_5.out)
                have n1_ := Aside0.mk (blk_drew BK181.out)
                have n2_ := Aside0.mk (below_drew1 HB.out)
                clear HO_5
                clear BK181
                clear HB
                have HO_5 := n0_
                have BK181 := n1_
                have HB := n2_
                clear n0_ n1_ n2_
                have p197 : 0 ≤ (a0_2 : Int) := of_decide_eq_true att8_0_1
                have q197 : a0_2 < (l1.length : Int) := of_decide_eq_true att8_0_1
                obtain ⟨ad197, e197, hx197_0, hx197_1⟩ := at_T83 HR1.out a0_2 p197 q197
                have hw197_1 := hx197_1
                have hw197_0 := hx197_0
                (try rw [← Nbq33.out] at hx197_0)
                (try rw [← Nbq33.out] at hw197_0)
                (try rw [← Nbq37.out] at hx197_0)
                (try rw [← Nbq37.out] at hw197_0)
                obtain rfl : ad195 = ad197 := (by injection e197)
                replace hx197_0 := (HB.out.cell (World.block_lt_of_cell? w _ hx197_0)).trans hx197_0
                replace hx197_1 := (HB.out.cell (World.block_lt_of_cell? w _ hx197_1)).trans hx197_1
                replace p197 := eq_true p197
                replace q197 := eq_true q197
                have p198 : 0 ≤ (a0_3 : Int) := of_decide_eq_true att8_0_1
                have q198 : a0_3 < (l1.length : Int) := of_decide_eq_true att8_0_1
                obtain ⟨ad198, e198, hx198_0, hx198_1⟩ := at_T83 HR1.out a0_3 p198 q198
                have hw198_1 := hx198_1
                have hw198_0 := hx198_0
                (try rw [← Nbq33.out] at hx198_0)
                (try rw [← Nbq33.out] at hw198_0)
                (try rw [← Nbq37.out] at hx198_0)
                (try rw [← Nbq37.out] at hw198_0)
                obtain rfl : ad195 = ad198 := (by injection e198)
                replace hx198_0 := (HB.out.cell (World.block_lt_of_cell? w _ hx198_0)).trans hx198_0
                replace hx198_1 := (HB.out.cell (World.block_lt_of_cell? w _ hx198_1)).trans hx198_1
                replace p198 := eq_true p198
                replace q198 := eq_true q198
                refine start_ (n := 21) (S := fun w' => w'.cell? ⟨gb181, 0, none⟩ = some (.int .i64 a0_0) ∧ w'.cell? ⟨gb181, 1, none⟩ = some (.int .i64 a0_1) ∧ w'.cell? ⟨gb181, 2, none⟩ = some (.int .i64 a0_2) ∧ w'.cell? ⟨gb181, 3, none⟩ = some (.int .i64 a0_3) ∧ w'.cell? ⟨gb181, 4, none⟩ = some (.int .i64 a0_4) ∧ w'.cell? (ad195.add ((a0_2).toNat * 2)) = some (.bool (true)) ∧ w'.cell? ⟨(ad195.add ((a0_2).toNat * 2)).block, (ad195.add ((a0_2).toNat * 2)).off + 1, none⟩ = some (.int .i64 ((rd_T83 l1 a0_2).f1)) ∧ w'.cell? (ad195.add ((a0_3).toNat * 2)) = some (.bool (true)) ∧ w'.cell? ⟨(ad195.add ((a0_3).toNat * 2)).block, (ad195.add ((a0_3).toNat * 2)).off + 1, none⟩ = some (.int .i64 ((rd_T83 l1 a0_3).f1))) (ds := [20]) (tf_ 0 21) (by kernel_rfl) rfl rfl ⟨(blk_cell BK181.out 0).trans rfl, (blk_cell BK181.out 1).trans rfl, (blk_cell BK181.out 2).trans rfl, (blk_cell BK181.out 3).trans rfl, (blk_cell BK181.out 4).trans rfl, ((HB.out.cell (World.block_lt_of_cell? w _ hw197_0)).trans hw197_0), ((HB.out.cell (World.block_lt_of_cell? w _ hw197_1)).trans hw197_1), ((HB.out.cell (World.block_lt_of_cell? w _ hw198_0)).trans hw198_0), ((HB.out.cell (World.block_lt_of_cell? w _ hw198_1)).trans hw198_1)⟩ (fun hHeld => ?_); refine with_tabW spec_l19Behind.tab10 spec_l19Behind.bits10 (fun HT_ HW_ => ?_)
                generalize wc.drew = w44 at HO_5 BK181 HB hx197_0 hx197_1 hx198_0 hx198_1 hHeld ⊢
                refine pureP_ (i := 0) (N := some 55) (tf_ 1 20) (any_of HT_.out (by kernel_rfl)) (h := ?_)
                refine pureP_ (i := 1) (N := some 56) (tf_ 2 19) (any_of HT_.out (by kernel_rfl)) (h := ?_)
                refine pureP_ (i := 3) (N := some 58) #[true, true, false, true, false, false, false, false, false, false, false, false, false, false, false, false, false, false, false, false, false] (any_of HT_.out (by kernel_rfl)) (h := ?_)
                refine pureP_ (i := 5) (N := some 60) #[true, true, false, true, false, true, false, false, false, false, false, false, false, false, false, false, false, false, false, false, false] (any_of HT_.out (by kernel_rfl)) (h := ?_)
                refine pureP_ (i := 6) (N := some 61) #[true, true, false, true, false, true, true, false, false, false, false, false, false, false, false, false, false, false, false, false, false] (any_of HT_.out (by kernel_rfl)) (h := ?_)
                refine pureP_ (i := 11) (N := some 66) #[true, true, false, true, false, true, true, false, false, false, false, true, false, false, false, false, false, false, false, false, false] (any_of HT_.out (by kernel_rfl)) (h := ?_)
                refine pureP_ (i := 12) (N := some 67) #[true, true, false, true, false, true, true, false, false, false, false, true, true, false, false, false, false, false, false, false, false] (any_of HT_.out (by kernel_rfl)) (h := ?_)
                refine takeP_ (i := 2) (N := some 57) #[true, true, true, true, false, true, true, false, false, false, false, true, true, false, false, false, false, false, false, false, false] (take_ofW HT_.out HW_.out (by kernel_rfl)) hHeld (hy := Or.inl ⟨by rfl, att8_0_5⟩) (h := ?_)
                refine takeP_ (i := 4) (N := some 59) #[true, true, true, true, true, true, true, false, false, false, false, true, true, false, false, false, false, false, false, false, false] (take_ofW HT_.out HW_.out (by kernel_rfl)) hHeld (hy := Or.inl ⟨by rfl, att8_0_5⟩) (h := ?_)
                refine takeP_ (i := 7) (N := some 62) #[true, true, true, true, true, true, true, true, false, false, false, true, true, false, false, false, false, false, false, false, false] (take_ofW HT_.out HW_.out (by kernel_rfl)) hHeld (hy := Or.inl ⟨by rfl, att8_0_5⟩) (h := ?_)
                refine pureP_ (i := 8) (N := some 63) #[true, true, true, true, true, true, true, true, true, false, false, true, true, false, false, false, false, false, false, false, false] (any_of HT_.out (by kernel_rfl)) (h := ?_)
                refine pureP_ (i := 9) (N := some 64) #[true, true, true, true, true, true, true, true, true, true, false, true, true, false, false, false, false, false, false, false, false] (any_of HT_.out (by kernel_rfl)) (h := ?_)
                refine takeP_ (i := 10) (N := some 65) (tf_ 13 8) (take_ofW HT_.out HW_.out (by kernel_rfl)) hHeld (hy := Or.inl ⟨by rfl, att8_0_5⟩) (h := ?_)
                refine takeP_ (i := 13) (N := some 68) (tf_ 14 7) (take_ofW HT_.out HW_.out (by kernel_rfl)) hHeld (hy := Or.inl ⟨by rfl, att8_0_5⟩) (h := ?_)
                refine pureP_ (i := 14) (N := some 69) (tf_ 15 6) (any_of HT_.out (by kernel_rfl)) (h := ?_)
                refine pureP_ (i := 15) (N := some 70) (tf_ 16 5) (any_of HT_.out (by kernel_rfl)) (h := ?_)
                refine takeP_ (i := 16) (N := some 71) (tf_ 17 4) (take_ofW HT_.out HW_.out (by kernel_rfl)) hHeld (hy := Or.inl ⟨by rfl, att8_0_5⟩) (h := ?_)
                refine one_ (i := 17) (N := some 72) (tf_ 18 3) rfl rfl (one_of HT_.out (by kernel_rfl)) (by decide) (fun K hK => ?_)
                refine goes_ Try.func122 (by kernel_rfl) rfl #[.int .i64 a0_0, .int .i64 ((rd_T83 l1 a0_2).f1), .int .i64 ((rd_T83 l1 a0_3).f1)] (by rfl) rfl rfl att8_0_3 ?_
                with_reducible refine (spec_l19Of.calls a0_0 ((rd_T83 l1 a0_2).f1) ((rd_T83 l1 a0_3).f1) t199 _ A39.out).mono ?_
                rintro e w' ⟨rfl, ⟨nd, rfl⟩⟩
                refine ⟨_, rfl, ?_⟩
                have p42 : 0 ≤ (a0_1 : Int) := of_decide_eq_true att8_0_1
                have q42 : (a0_1 : Int) < ((x5_18.length : Int) : Int) := of_decide_eq_true att8_0_1
                obtain ⟨go42, co42, eo42, gb42, gl42, cl42, HG42⟩ := Kd.R_form HO_5.out (by omega)
                (first | cases eo42 | (injection eo42 with ea_ en_ ec_; (first | subst ea_ | (injection ea_ with ea_; subst ea_)); subst ec_; clear en_))
                have GB42 := Aside0.mk gb42
                have GG42 := Aside0.mk HG42
                clear gb42 gl42 HG42
                obtain ⟨ce42, hcl42, hM42, hcc42, hfr42⟩ := Kd.R_elem HO_5.out z83 (a0_1 : Int) p42 q42
                obtain rfl := k83_openM hM42
                have hx42_0 : World.cell? _ ⟨go42, (a0_1 : Int).toNat * 2, none⟩ = some (.bool ((rd_T83 x5_18 a0_1).f0)) := hcc42 0 _ rfl
                have hx42_1 : World.cell? _ ⟨go42, (a0_1 : Int).toNat * 2 + 1, none⟩ = some (.int .i64 ((rd_T83 x5_18 a0_1).f1)) := hcc42 1 _ rfl
                have hf42_0 : World.frozen? _ ⟨go42, (a0_1 : Int).toNat * 2, none⟩ = false := hfr42 0
                have hf42_1 : World.frozen? _ ⟨go42, (a0_1 : Int).toNat * 2 + 1, none⟩ = false := hfr42 1
                clear hcl42 hcc42 hfr42 hM42
                replace p42 := eq_true p42
                replace q42 := eq_true q42
                obtain ⟨ce45, hcl45, hM45, hcc45, hfr45⟩ := Kd.R_elem HO_5.out z83 (a0_1 : Int) (of_decide_eq_true att8_0_1) att8_1_1
                obtain rfl := k83_openM hM45
                have HP45 := (Kd.R_seg HO_5.out (a0_1 : Int) (of_decide_eq_true att8_0_1) att8_1_1 (seg := [.bool true, .int .i64 t199]) (j := 0) hcl45 hcc45 (show 2 ≤ 2 from by decide) (x' := (⟨true, t199⟩ : S83)) (k83_mkM _ _ _ (⟨true, t199⟩ : S83) ) (fun _ hk => hk)).1
                rw [← Ny200.out] at HP45
                have HQ45 := Aside0.mk HP45
                clear hcl45 hcc45 hfr45 hM45 HP45
                refine hK.out _ _ ⟨(blk_cell BK181.out 0).trans rfl, (blk_cell BK181.out 1).trans rfl, (blk_cell BK181.out 2).trans rfl, (blk_cell BK181.out 3).trans rfl, (blk_cell BK181.out 4).trans rfl, ((HB.out.cell (World.block_lt_of_cell? w _ hw197_0)).trans hw197_0), ((HB.out.cell (World.block_lt_of_cell? w _ hw197_1)).trans hw197_1), ((HB.out.cell (World.block_lt_of_cell? w _ hw198_0)).trans hw198_0), ((HB.out.cell (World.block_lt_of_cell? w _ hw198_1)).trans hw198_1)⟩ (fun hHeld => ?_)
                clear hK K
                refine normP_ (h := ?_)
                refine pureP_ (i := 18) (N := some 73) (tf_ 19 2) (any_of HT_.out (by kernel_rfl)) (h := ?_)
                refine pureP_ (i := 19) (N := some 74) (tf_ 20 1) (any_of HT_.out (by kernel_rfl)) (h := ?_)
                refine last_ (i := 20) (N := none) (tf_ 21 0) rfl rfl (one_of HT_.out (by kernel_rfl)) (by decide) (fun K hK => ?_)
                refine skip_ (w1 := ?_) (by rfl) rfl ?_ ?_
                rotate_left
                ·go_simp
                 rfl
                refine hK.out _ _ ?_
                clear hK K
                refine done_ (done_of HT_.out (by kernel_rfl)) ?_
                try go_wp2
                go_ret
                exact ⟨_, by first | rfl | (simp [errW_none, errW_some] <;> rfl) | (simp [*, errW_none, errW_some] <;> rfl), by (with_reducible repeat (first | apply Kd.R_alloc | apply Kd.R_drewN | apply Kd.R_drew)); exact HQ45.out, by repeat (first | (with_reducible first | exact HB.out | apply below_alloc | apply pw_below_drewN | apply below_drew1 | refine below_set ?_ GB42.out | refine below_set ?_ GB42.out | refine below_set ?_ GE181.out) | exact HB.out)⟩
               ·rw [if_neg c41] at H
                exact absurd H (by simp)
              ·rw [if_neg c40] at H
               exact absurd H (by simp)
             ·replace c38 := Bool.eq_false_iff.mpr c38
              subst c38
              rw [if_neg (show ¬ (false = true) by decide)] at H
              obtain rfl := Option.some.inj H
              have hcz46_0 : wc.cell? ⟨gb181, 0, none⟩ = some (.int .i64 a0_0) := (blk_cell BK181.out 0).trans rfl
              have hcz46_1 : wc.cell? ⟨gb181, 1, none⟩ = some (.int .i64 a0_1) := (blk_cell BK181.out 1).trans rfl
              have hcz46_2 : wc.cell? ⟨gb181, 2, none⟩ = some (.int .i64 a0_2) := (blk_cell BK181.out 2).trans rfl
              have hcz46_3 : wc.cell? ⟨gb181, 3, none⟩ = some (.int .i64 a0_3) := (blk_cell BK181.out 3).trans rfl
              have hcz46_4 : wc.cell? ⟨gb181, 4, none⟩ = some (.int .i64 a0_4) := (blk_cell BK181.out 4).trans rfl
              have hfz46_0 := blk_frozen BK181.out 0
              have hfz46_1 := blk_frozen BK181.out 1
              have hfz46_2 := blk_frozen BK181.out 2
              have hfz46_3 := blk_frozen BK181.out 3
              have hfz46_4 := blk_frozen BK181.out 4
              go_wp2_with (first | ((with_reducible refine gate_callee (f := 89) rfl ?_); refine goesL_ (some 38) rfl rfl Try.func89 (by kernel_rfl) rfl #[.int .i64 a0_0] rfl att8_0_3 ?_; (with_reducible refine (spec_l19Three.calls a0_0 true _ A29.out).mono ?_); rintro e w' ⟨rfl, ⟨nd, rfl⟩⟩; refine ⟨_, rfl, ?_⟩; have p195 : 0 ≤ (a0_2 : Int) := of_decide_eq_true att8_0_1; have q195 : a0_2 < (l1.length : Int) := of_decide_eq_true att8_0_1; obtain ⟨ad195, e195, hx195_0, hx195_1⟩ := at_T83 HR1.out a0_2 p195 q195; (try rw [← Nbq33.out] at hx195_0); (try rw [← Nbq37.out] at hx195_0); cases e195; replace hx195_0 := (HB.out.cell (World.block_lt_of_cell? w _ hx195_0)).trans hx195_0; replace hx195_1 := (HB.out.cell (World.block_lt_of_cell? w _ hx195_1)).trans hx195_1; replace p195 := eq_true p195; replace q195 := eq_true q195; have p196 : 0 ≤ (a0_3 : Int) := of_decide_eq_true att8_0_1; have q196 : a0_3 < (l1.length : Int) := of_decide_eq_true att8_0_1; obtain ⟨ad196, e196, hx196_0, hx196_1⟩ := at_T83 HR1.out a0_3 p196 q196; (try rw [← Nbq33.out] at hx196_0); (try rw [← Nbq37.out] at hx196_0); obtain rfl : ad195 = ad196 := (by injection e196); replace hx196_0 := (HB.out.cell (World.block_lt_of_cell? w _ hx196_0)).trans hx196_0; replace hx196_1 := (HB.out.cell (World.block_lt_of_cell? w _ hx196_1)).trans hx196_1; replace p196 := eq_true p196; replace q196 := eq_true q196))
              go_ret
              exact ⟨_, by first | rfl | (simp [errW_none, errW_some] <;> rfl) | (simp [*, errW_none, errW_some] <;> rfl), by (with_reducible repeat (first | apply Kd.R_alloc | apply Kd.R_drewN | apply Kd.R_drew)); exact HO_5.out, att8_0_0⟩
            ·rw [if_neg c36] at H
             exact absurd H (by simp)
           ·rw [if_neg c35] at H
            exact absurd H (by simp)
          ·replace c34 := Bool.eq_false_iff.mpr c34
           subst c34
           rw [if_neg (show ¬ (false = true) by decide)] at H
           obtain rfl := Option.some.inj H
           have hcz47_0 : wc.cell? ⟨gb181, 0, none⟩ = some (.int .i64 a0_0) := (blk_cell BK181.out 0).trans rfl
           have hcz47_1 : wc.cell? ⟨gb181, 1, none⟩ = some (.int .i64 a0_1) := (blk_cell BK181.out 1).trans rfl
           have hcz47_2 : wc.cell? ⟨gb181, 2, none⟩ = some (.int .i64 a0_2) := (blk_cell BK181.out 2).trans rfl
           have hcz47_3 : wc.cell? ⟨gb181, 3, none⟩ = some (.int .i64 a0_3) := (blk_cell BK181.out 3).trans rfl
           have hcz47_4 : wc.cell? ⟨gb181, 4, none⟩ = some (.int .i64 a0_4) := (blk_cell BK181.out 4).trans rfl
           have hfz47_0 := blk_frozen BK181.out 0
           have hfz47_1 := blk_frozen BK181.out 1
           have hfz47_2 := blk_frozen BK181.out 2
           have hfz47_3 := blk_frozen BK181.out 3
           have hfz47_4 := blk_frozen BK181.out 4
           go_wp2_with (first | ((with_reducible refine gate_callee (f := 89) rfl ?_); refine goesL_ (some 38) rfl rfl Try.func89 (by kernel_rfl) rfl #[.int .i64 a0_0] rfl att8_0_3 ?_; (with_reducible refine (spec_l19Three.calls a0_0 true _ A29.out).mono ?_); rintro e w' ⟨rfl, ⟨nd, rfl⟩⟩; refine ⟨_, rfl, ?_⟩; have p195 : 0 ≤ (a0_2 : Int) := of_decide_eq_true att8_0_1; have q195 : a0_2 < (l1.length : Int) := of_decide_eq_true att8_0_1; obtain ⟨ad195, e195, hx195_0, hx195_1⟩ := at_T83 HR1.out a0_2 p195 q195; (try rw [← Nbq33.out] at hx195_0); cases e195; replace hx195_0 := (HB.out.cell (World.block_lt_of_cell? w _ hx195_0)).trans hx195_0; replace hx195_1 := (HB.out.cell (World.block_lt_of_cell? w _ hx195_1)).trans hx195_1; replace p195 := eq_true p195; replace q195 := eq_true q195))
           go_ret
           exact ⟨_, by first | rfl | (simp [errW_none, errW_some] <;> rfl) | (simp [*, errW_none, errW_some] <;> rfl), by (with_reducible repeat (first | apply Kd.R_alloc | apply Kd.R_drewN | apply Kd.R_drew)); exact HO_5.out, att8_0_0⟩
         ·rw [if_neg c32] at H
          exact absurd H (by simp)
        ·rw [if_neg c31] at H
         exact absurd H (by simp)
       ·replace c30 := Bool.eq_false_iff.mpr c30
        subst c30
        rw [if_neg (show ¬ (false = true) by decide)] at H
        obtain rfl := Option.some.inj H
        have hcz48_0 : wc.cell? ⟨gb181, 0, none⟩ = some (.int .i64 a0_0) := (blk_cell BK181.out 0).trans rfl
        have hcz48_1 : wc.cell? ⟨gb181, 1, none⟩ = some (.int .i64 a0_1) := (blk_cell BK181.out 1).trans rfl
        have hcz48_2 : wc.cell? ⟨gb181, 2, none⟩ = some (.int .i64 a0_2) := (blk_cell BK181.out 2).trans rfl
        have hcz48_3 : wc.cell? ⟨gb181, 3, none⟩ = some (.int .i64 a0_3) := (blk_cell BK181.out 3).trans rfl
        have hcz48_4 : wc.cell? ⟨gb181, 4, none⟩ = some (.int .i64 a0_4) := (blk_cell BK181.out 4).trans rfl
        have hfz48_0 := blk_frozen BK181.out 0
        have hfz48_1 := blk_frozen BK181.out 1
        have hfz48_2 := blk_frozen BK181.out 2
        have hfz48_3 := blk_frozen BK181.out 3
        have hfz48_4 := blk_frozen BK181.out 4
        go_wp2_with (first | ((with_reducible refine gate_callee (f := 89) rfl ?_); refine goesL_ (some 38) rfl rfl Try.func89 (by kernel_rfl) rfl #[.int .i64 a0_0] rfl att8_0_3 ?_; (with_reducible refine (spec_l19Three.calls a0_0 false _ A29.out).mono ?_); rintro e w' ⟨rfl, ⟨nd, rfl⟩⟩; refine ⟨_, rfl, ?_⟩))
        go_ret
        exact ⟨_, by first | rfl | (simp [errW_none, errW_some] <;> rfl) | (simp [*, errW_none, errW_some] <;> rfl), by (with_reducible repeat (first | apply Kd.R_alloc | apply Kd.R_drewN | apply Kd.R_drew)); exact HO_5.out, att8_0_0⟩
 ·rw [if_neg c3] at H
  exact absurd H (by simp)

end Go.Proofs.Ytocimkpafakiaaa.XFnExactFoldBody
