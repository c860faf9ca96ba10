/- Each Go function that the law reaches as a Lean function, and that Go comes to just its answer; written by this session's xprint.py over the kit's printer. -/
import Derived.Test.YtocimkpafakiaaaXFnExactFoldBodyx0
import Derived.Test.YtocimkpafakiaaaXFnExactFoldBodyx9
import Derived.Test.YtocimkpafakiaaaXFnExactFoldBodyx10
namespace Go.Proofs.Ytocimkpafakiaaa.XFnExactFoldBody
open Go.RowKit Go.Proofs.YtocimkpafakiaaaW.PrintWords Go.Proofs.YtocimkpafakiaaaW.PrintLast Go.Proofs.YtocimkpafakiaaaW.PrintMore
attribute [local go_sem] max2_int min2_int max_two min_two max_three min_three max_four min_four   -- for this text's walks alone
set_option linter.unusedVariables false
set_option linter.unusedSimpArgs false

theorem att12_0_0 {p : Prop} (h : p := by repeat (first | (with_reducible first | exact HB.out | apply below_alloc | apply pw_below_drewN | apply below_drew1) | exact HB.out)) : p := h
theorem att12_0_1 {p : Prop} (h : p := by first | (with_reducible assumption) | assumption) : p := h
theorem att12_0_2 {p : Prop} (h : p := by (try simp only [List.map_toArray, List.map_cons, List.map_nil]); first | done | rfl | (simp only [List.length_drop, List.length_take]; rfl)) : p := h
theorem att12_0_3 {p : Prop} (h : p := by repeat (first | (with_reducible exact HR297_0.out) | (with_reducible refine Kd.C_alloc ?_ _) | (with_reducible refine Kd.C_drewN ?_ _) | (with_reducible refine Kd.C_drew ?_) | exact HR297_0.out)) : p := h
theorem att12_0_4 {p : Prop} (h : p := by repeat (first | exact Drawn0.refl _ | apply Drawn0.step)) : p := h
theorem att12_0_5 {p : Prop} (h : p := by (with_reducible repeat (first | apply Kd.R_alloc | apply Kd.R_drewN | apply Kd.R_drew)); exact HO292.out) : p := h
theorem att12_0_6 {p : Prop} (h : p := by repeat (first | exact Below.refl _ _ | apply below_alloc | apply below_drew1)) : p := h
theorem att12_1_0 {p : Prop} (h : p := by have h_ : (x5_1 : Int) < ((x3_1.length : Int) : Int) := of_decide_eq_true att12_0_1; first | exact h_ | (have e_ := (Kd.R_reads' HO_3.out).1; omega) | simpa using h_) : p := h
/-! ### spec_FoldBody: function 52 -/
def spec_FoldBody.l0 : Nat → List (S63) → List (S63) → List (List (S83)) → Int → Option ((List (S63)))
 | 0, _, _, _, _ => none
 | k + 1, x0, x3, x4, x5 => if x5 < (x4.length : Int) then (if 0 ≤ x5 then (if x5 < (x0.length : Int) then ((spec_FoldOne.f k ((rd_T63 x0 x5).f0) ((rd_T63 x0 x5).f1) ((rd_T63 x0 x5).f2) ((rd_T63 x0 x5).f3) ((rd_T63 x0 x5).f4) (rd_L5 x4 x5) (wrap64 (x5 + 1))).bind fun bt298 => (if x5 < (x3.length : Int) then (spec_FoldBody.l0 k x0 (x3.set (x5 : Int).toNat (⟨bt298.1, bt298.2.1, bt298.2.2.1, bt298.2.2.2.1, bt298.2.2.2.2⟩ : S63)) x4 (wrap64 (x5 + 1))) else (none))) else (none)) else (none)) else (some x3)
def spec_FoldBody.f (k : Nat) (l0 : List (S63)) : Option ((List (S63))) := (some (([] : List (S63)) : List (S63))).bind fun y287 => (if y287.length + l0.length < 3518437208883 then ((spec_KnownAt.f k l0).bind fun t293 => (spec_FoldBody.l0 k l0 (y287 ++ l0) t293 0)) else (none))
theorem spec_FoldBody.mono_l : ∀ k, (∀ y0 y1 y2 y3, LeO (spec_FoldBody.l0 k y0 y1 y2 y3) (spec_FoldBody.l0 (k + 1) y0 y1 y2 y3))
 | 0 => fun _ _ _ _ r h => by simp [spec_FoldBody.l0] at h
 | k + 1 => by
  have ih0 := spec_FoldBody.mono_l k
  ·intro y0 y1 y2 y3
   unfold spec_FoldBody.l0
   repeat' first
   | (with_reducible exact ih0 _ _ _ _)
   | (with_reducible exact spec_FoldOne.mono _ _ _ _ _ _ _ _)
   | (with_reducible exact spec_KnownAt.mono _ _)
   | (with_reducible exact LeO.refl _)
   | (with_reducible exact LeO.none _)
   | (with_reducible refine LeO.ite ?_ ?_)
   | (with_reducible refine LeO.bind ?_ (fun _ => ?_))
   | exact ih0 _ _ _ _
   | exact spec_FoldOne.mono _ _ _ _ _ _ _ _
   | exact spec_KnownAt.mono _ _
   | exact LeO.none _
   | refine LeO.ite ?_ ?_
   | refine LeO.bind ?_ (fun _ => ?_)
theorem spec_FoldBody.mono : ∀ a0 k, LeO (spec_FoldBody.f k a0) (spec_FoldBody.f (k + 1) a0) := by
 intro a0 k
 have ih0 := spec_FoldBody.mono_l k
 unfold spec_FoldBody.f
 repeat' first
   | (with_reducible exact ih0 _ _ _ _)
   | (with_reducible exact spec_FoldOne.mono _ _ _ _ _ _ _ _)
   | (with_reducible exact spec_KnownAt.mono _ _)
   | (with_reducible exact LeO.refl _)
   | (with_reducible exact LeO.none _)
   | (with_reducible refine LeO.ite ?_ ?_)
   | (with_reducible refine LeO.bind ?_ (fun _ => ?_))
   | exact ih0 _ _ _ _
   | exact spec_FoldOne.mono _ _ _ _ _ _ _ _
   | exact spec_KnownAt.mono _ _
   | exact LeO.none _
   | refine LeO.ite ?_ ?_
   | refine LeO.bind ?_ (fun _ => ?_)
def spec_FoldBody.T6 : Bool × List (List Nat × List Nat) := (true, [([], []), ([], []), ([], []), ([], []), ([2, 3], [2, 3]), ([4], [4]), ([], []), ([], []), ([6, 7], [6, 7]), ([8], [8]), ([], []), ([10], [10]), ([5, 9, 11], [5, 9, 11]), ([0, 1, 0, 1, 2, 3, 4, 5, 6, 7, 8, 9, 10, 11, 12], [0, 1]), ([13, 12, 12, 0, 1, 2, 3, 4, 5, 6, 7, 8, 9, 10, 11, 12], [12, 13])])
def spec_FoldBody.B6 : List Nat := [0, 0, 0, 0, 12, 28, 0, 0, 192, 448, 0, 1024, 4092, 8191, 16383]
theorem spec_FoldBody.tab6 : rtab .any (opsOf Try.f52 6) = spec_FoldBody.T6 := by kernel_rfl
theorem spec_FoldBody.bits6 : waitsOk spec_FoldBody.T6.2 spec_FoldBody.B6 = true := by kernel_rfl
set_option maxHeartbeats 80000000 in
set_option maxRecDepth 100000 in
theorem spec_FoldBody.calls (k : Nat) (A0 : Option Addr) (c0 : Nat) (l0 : List (S63)) (r : List (S63)) (w : World) (hr0 : Kd.C k63 w A0 l0.length l0) (hc0 : l0.length ≤ c0) (h : spec_FoldBody.f k l0 = some r) :
  Calls Try.prog 52 #[.slice A0 l0.length c0] w fun e w' => ∃ v0_ : Value, e = .returned (v0_) ∧ Kd.R k63 63 w' w.heap.size (fun _ => True) v0_ r ∧ Below w.heap.size w w' := by
 have hu63 := Try.underlying63
 have HR0 := Aside0.mk hr0
 have HC0 := Aside0.mk hc0
 clear hr0 hc0
 have HB := Aside0.mk (Below.refl w.heap.size w)
 have H : ((some (([] : List (S63)) : List (S63))).bind fun y287 => (if y287.length + l0.length < 3518437208883 then ((spec_KnownAt.f k l0).bind fun t293 => (spec_FoldBody.l0 k l0 (y287 ++ l0) t293 0)) else (none))) = some r := h
 clear h
 obtain ⟨y287, hy287⟩ : ∃ y_ : List (S63), y_ = (([] : List (S63))) := ⟨_, rfl⟩
 replace H : (if y287.length + l0.length < 3518437208883 then ((spec_KnownAt.f k l0).bind fun t293 => (spec_FoldBody.l0 k l0 (y287 ++ l0) t293 0)) else (none)) = some r := by first | (rw [hy287]; with_reducible exact H) | (have H2_ := (Option.bind_some _ _).symm.trans H; rw [hy287]; with_reducible exact H2_) | (have H2_ := (Option.bind_some _ _).symm.trans H; with_reducible exact H2_) | with_reducible exact H | (rw [hy287]; exact H) | exact H
 have Ny287 := Aside0.mk hy287
 clear hy287
 by_cases c2 : y287.length + l0.length < 3518437208883
 ·rw [if_pos c2] at H
  have LMc2 := Aside0.mk c2
  clear c2
  obtain ⟨y290, hy290⟩ : ∃ y_ : List (S63), y_ = (y287 ++ l0) := ⟨_, rfl⟩
  replace H : ((spec_KnownAt.f k l0).bind fun t293 => (spec_FoldBody.l0 k l0 y290 t293 0)) = some r := by first | (rw [hy290]; with_reducible exact H) | (have H2_ := (Option.bind_some _ _).symm.trans H; rw [hy290]; with_reducible exact H2_) | (have H2_ := (Option.bind_some _ _).symm.trans H; with_reducible exact H2_) | with_reducible exact H | (rw [hy290]; exact H) | exact H
  have Ny290 := Aside0.mk hy290
  clear hy290
  replace H := Option.bind_eq_some_iff.mp H
  obtain ⟨t293, A30, H⟩ := H
  (try dsimp only at H)
  have A3 := Aside0.mk A30
  clear A30
  have H' := Aside0.mk H
  clear H
  go_enter Try.func52, Try.ntmps52
  go_wp2_with (first | ((with_reducible refine gate_dst (N := 6) rfl ?_); refine Kd.R_lit k63 _ 63 ?hg (N := 6) ?hd (xs := ([] : List (S63))) (inner := []) (ok := fun _ => True) (okp := fun _ => True) ?hr ?hp (fun _ hk => hk) trivial (Below.refl _ _) (Nat.le_refl _) (by simp) ?_; (case hd => rfl); (case hg => rfl); (case hr => first | (go_simp; done) | (go_simp; rfl)); (case hp => exact (Reps.none _ _)); intro v288 w4 ho5 hb hg_ hnew_; clear hg_ hnew_; (first | rw [← Ny287.out] at ho5 | (simp only [Int.reduceToNat] at ho5; rw [← Ny287.out] at ho5)); have n0_ := Aside0.mk (Kd.R_lower ho5 (below_size att12_0_0)); have n1_ := Aside0.mk (below_step att12_0_0 hb); clear HB; have HO289 := n0_; have HB := n1_; clear n0_ n1_; clear hb ho5) | ((with_reducible refine gate_builtin (b := .append) (xs := #[.tmp 6, .tmp 7]) rfl ?_); at_builtin; refine Kd.R_append_rows k63 (w0 := w) w.heap.size rfl (.tmp 6) (.tmp 7) 24 63 (.agg #[(.int .i64 0), (.int .i64 0), (.int .i64 0), (.int .i64 0), (.int .i64 0)]) 40 rfl Try.underlying24 info63 rfl (by decide) (by omega) v288 y287 l0 _ _ _ (fun _ => True) (fun _ => False) rfl rfl ?aO ?aR (fun _ _ h => h) (fun _ h => h.elim) ?aF ?aB ?aS ?aL ?_; (case aR => repeat (first | exact (Kd.C_below HR0.out HB.out) | (with_reducible refine Kd.C_alloc ?_ _) | (with_reducible refine Kd.C_drewN ?_ _) | (with_reducible refine Kd.C_drew ?_))); (case aB => exact att12_0_0); (case aF => exact (fun _ _ => trivial)); (case aO => exact (by (with_reducible repeat (first | apply Kd.R_alloc | apply Kd.R_drewN | apply Kd.R_drew)); exact HO289.out)); (case aS => exact (below_size att12_0_0)); (case aL => have := LMc2.out; omega); intro v291 w6 ho hb hg hat; rw [← Ny290.out] at ho; have n0_ := Aside0.mk (hb); have n1_ := Aside0.mk (ho); clear HB; clear HO289; have HB := n0_; have HO292 := n1_; clear n0_ n1_; clear ho hb hg hat) | ((with_reducible refine gate_callee (f := 45) rfl ?_); refine goesL_ (some 10) rfl rfl Try.func45 (by kernel_rfl) rfl #[.slice A0 l0.length c0] rfl att12_0_2 ?_; (with_reducible refine (spec_KnownAt.calls k _ _ l0 t293 _ ?side1 ?side2 A3.out).mono ?_); (case side1 => repeat (first | exact (Kd.C_below HR0.out HB.out) | (with_reducible refine Kd.C_alloc ?_ _) | (with_reducible refine Kd.C_drewN ?_ _) | (with_reducible refine Kd.C_drew ?_))); (case side2 => exact HC0.out); rintro e w7 ⟨v294, rfl, ho0, hb⟩; refine ⟨_, rfl, ?_⟩; have n0_ := Aside0.mk (Kd.R_below att12_0_5 hb); have n1_ := Aside0.mk (Kd.S_lower ho0 (below_size att12_0_0)); have n2_ := Aside0.mk (below_step att12_0_0 hb); clear HO292; clear HB; have HO292 := n0_; have HO295 := n1_; have HB := n2_; clear n0_ n1_ n2_; (try clear hb); (try clear hb2); (try clear hk); (try clear hi); (try clear ho0)))
  go_loopg [5] k (fun kq v5 w' => ∃ (x3_1 : List (S63)) (x5_1 : Int), v5 = .int .i64 x5_1 ∧ Aside0 (spec_FoldBody.l0 kq l0 x3_1 t293 x5_1 = some r) ∧ Aside0 (kq ≤ k) ∧ Aside0 (Kd.R k63 63 w' w.heap.size (fun _ => True) v291 x3_1) ∧ Aside0 (Kd.S (Kd.slice 83 k83) 81 w' w.heap.size (fun _ => True) v294 t293) ∧ Aside0 (Below w.heap.size w w'))
  case atStart => exact ⟨(y290), (0), (by first | rfl | (simp; done) | (simp [*]; done)), H', ⟨Nat.le_refl _⟩, ⟨att12_0_5⟩, ⟨by (with_reducible repeat (first | apply Kd.S_alloc | apply Kd.S_drewN | apply Kd.S_drew)); exact HO295.out⟩, ⟨att12_0_0⟩⟩
  case round =>
   clear H'
   try clear c2
   try clear p2
   try clear c4
   try clear c5
   obtain ⟨x3_1, x5_1, rfl, HA, HK1, HO_3, HO_4, HB⟩ := hrel
   cases gk with
   | zero => exact absurd HA.out (by simp [spec_FoldBody.l0])
   | succ k1 =>
    have H := HA.out
    clear HA
    simp only [spec_FoldBody.l0] at H
    by_cases c8 : x5_1 < (t293.length : Int)
    ·rw [if_pos c8] at H
     have c8b0 : decide (x5_1 < (t293.length : Int)) = true := decide_eq_true c8
     clear c8
     by_cases c9 : 0 ≤ x5_1
     ·rw [if_pos c9] at H
      have c9b0 : decide (0 ≤ x5_1) = true := decide_eq_true c9
      clear c9
      by_cases c10 : x5_1 < (l0.length : Int)
      ·rw [if_pos c10] at H
       have c10b0 : decide (x5_1 < (l0.length : Int)) = true := decide_eq_true c10
       clear c10
       replace H := Option.bind_eq_some_iff.mp H
       obtain ⟨⟨t298, t299, t300, t301, t302⟩, A110, H⟩ := H
       (try dsimp only at H)
       have A11 := Aside0.mk A110
       clear A110
       by_cases c12 : x5_1 < (x3_1.length : Int)
       ·rw [if_pos c12] at H
        have c12b0 : decide (x5_1 < (x3_1.length : Int)) = true := decide_eq_true c12
        clear c12
        obtain ⟨y303, hy303⟩ : ∃ y_ : List (S63), y_ = (x3_1.set (x5_1 : Int).toNat (⟨t298, t299, t300, t301, t302⟩ : S63)) := ⟨_, rfl⟩
        replace H : (spec_FoldBody.l0 k1 l0 y303 t293 (wrap64 (x5_1 + 1))) = some r := by first | (rw [hy303]; with_reducible exact H) | (have H2_ := (Option.bind_some _ _).symm.trans H; rw [hy303]; with_reducible exact H2_) | (have H2_ := (Option.bind_some _ _).symm.trans H; with_reducible exact H2_) | with_reducible exact H | (rw [hy303]; exact H) | exact H
        have Ny303 := Aside0.mk hy303
        clear hy303
        have H' := Aside0.mk H
        clear H
        obtain ⟨Ao14, co14, eo14⟩ := Kd.S_slice HO_4.out
        subst eo14
        try go_wp2
        have n0_ := Aside0.mk (Kd.R_drew HO_3.out)
        have n1_ := Aside0.mk (Kd.S_drew HO_4.out)
        have n2_ := Aside0.mk (below_drew1 HB.out)
        clear HO_3
        clear HO_4
        clear HB
        have HO_3 := n0_
        have HO_4 := n1_
        have HB := n2_
        clear n0_ n1_ n2_
        have p296 : 0 ≤ (x5_1 : Int) := of_decide_eq_true att12_0_1
        have q296 : x5_1 < (l0.length : Int) := of_decide_eq_true att12_0_1
        obtain ⟨ad296, e296, hx296_0, hx296_1, hx296_2, hx296_3, hx296_4⟩ := at_T63 HR0.out x5_1 p296 q296
        have hw296_4 := hx296_4
        have hw296_3 := hx296_3
        have hw296_2 := hx296_2
        have hw296_1 := hx296_1
        have hw296_0 := hx296_0
        cases e296
        replace hx296_0 := (HB.out.cell (World.block_lt_of_cell? w _ hx296_0)).trans hx296_0
        replace hx296_1 := (HB.out.cell (World.block_lt_of_cell? w _ hx296_1)).trans hx296_1
        replace hx296_2 := (HB.out.cell (World.block_lt_of_cell? w _ hx296_2)).trans hx296_2
        replace hx296_3 := (HB.out.cell (World.block_lt_of_cell? w _ hx296_3)).trans hx296_3
        replace hx296_4 := (HB.out.cell (World.block_lt_of_cell? w _ hx296_4)).trans hx296_4
        replace p296 := eq_true p296
        replace q296 := eq_true q296
        have p297 : 0 ≤ (x5_1 : Int) := of_decide_eq_true att12_0_1
        have q297 : x5_1 < (t293.length : Int) := of_decide_eq_true att12_0_1
        obtain ⟨ad297, A297_0, c297_0, e297, hx297_0, hl297_0, hi297_0⟩ := at_L5 (Kd.S_reads' HO_4.out).2.2 x5_1 p297 q297
        cases e297
        obtain ⟨ce297, hce297, hMe297, hcc297⟩ := Kd.S_get HO_4.out [] x5_1 p297 (by first | exact q297 | exact of_decide_eq_true att12_0_1 | (have e_ := (Kd.S_reads' HO_4.out).1; omega))
        obtain ⟨ve297_0, rfl, ge297_0⟩ := hMe297
        have hv297_0 := hcc297 0 _ rfl
        rw [Nat.add_zero, show ((Kd.slice 83 k83)).sz = 1 from rfl, Nat.mul_one] at hv297_0
        replace hv297_0 := Option.some.inj (hv297_0.symm.trans hx297_0)
        rw [hv297_0] at ge297_0
        have HL297_0 := Aside0.mk (show Kd.R k83 83 _ _ _ _ (rd_L5 t293 x5_1) from ge297_0)
        clear hv297_0 ge297_0
        clear hcc297 hce297
        have HR297_0 := Aside0.mk hi297_0
        have HC297_0 := Aside0.mk hl297_0
        clear hi297_0 hl297_0
        replace p297 := eq_true p297
        replace q297 := eq_true q297
        refine start_ (n := 15) (S := fun w' => w'.cell? (ad296.add ((x5_1).toNat * 5)) = some (.int .i64 ((rd_T63 l0 x5_1).f0)) ∧ w'.cell? ⟨(ad296.add ((x5_1).toNat * 5)).block, (ad296.add ((x5_1).toNat * 5)).off + 1, none⟩ = some (.int .i64 ((rd_T63 l0 x5_1).f1)) ∧ w'.cell? ⟨(ad296.add ((x5_1).toNat * 5)).block, (ad296.add ((x5_1).toNat * 5)).off + 2, none⟩ = some (.int .i64 ((rd_T63 l0 x5_1).f2)) ∧ w'.cell? ⟨(ad296.add ((x5_1).toNat * 5)).block, (ad296.add ((x5_1).toNat * 5)).off + 3, none⟩ = some (.int .i64 ((rd_T63 l0 x5_1).f3)) ∧ w'.cell? ⟨(ad296.add ((x5_1).toNat * 5)).block, (ad296.add ((x5_1).toNat * 5)).off + 4, none⟩ = some (.int .i64 ((rd_T63 l0 x5_1).f4)) ∧ w'.cell? (ad297.add (x5_1).toNat) = some (.slice A297_0 (rd_L5 t293 x5_1).length c297_0)) (ds := [14]) (tf_ 0 15) (by kernel_rfl) rfl rfl ⟨((HB.out.cell (World.block_lt_of_cell? w _ hw296_0)).trans hw296_0), ((HB.out.cell (World.block_lt_of_cell? w _ hw296_1)).trans hw296_1), ((HB.out.cell (World.block_lt_of_cell? w _ hw296_2)).trans hw296_2), ((HB.out.cell (World.block_lt_of_cell? w _ hw296_3)).trans hw296_3), ((HB.out.cell (World.block_lt_of_cell? w _ hw296_4)).trans hw296_4), hx297_0⟩ (fun hHeld => ?_); refine with_tabW spec_FoldBody.tab6 spec_FoldBody.bits6 (fun HT_ HW_ => ?_)
        generalize wr.drew = w15 at HO_3 HO_4 HB HL297_0 HR297_0 hx296_0 hx296_1 hx296_2 hx296_3 hx296_4 hx297_0 hHeld ⊢
        refine pureP_ (i := 0) (N := some 17) (tf_ 1 14) (any_of HT_.out (by kernel_rfl)) (h := ?_)
        refine pureP_ (i := 1) (N := some 18) (tf_ 2 13) (any_of HT_.out (by kernel_rfl)) (h := ?_)
        refine pureP_ (i := 2) (N := some 19) (tf_ 3 12) (any_of HT_.out (by kernel_rfl)) (h := ?_)
        refine pureP_ (i := 3) (N := some 20) (tf_ 4 11) (any_of HT_.out (by kernel_rfl)) (h := ?_)
        refine pureP_ (i := 4) (N := some 21) (tf_ 5 10) (any_of HT_.out (by kernel_rfl)) (h := ?_)
        refine pureP_ (i := 6) (N := some 23) #[true, true, true, true, true, false, true, false, false, false, false, false, false, false, false] (any_of HT_.out (by kernel_rfl)) (h := ?_)
        refine pureP_ (i := 7) (N := some 24) #[true, true, true, true, true, false, true, true, false, false, false, false, false, false, false] (any_of HT_.out (by kernel_rfl)) (h := ?_)
        refine pureP_ (i := 8) (N := some 25) #[true, true, true, true, true, false, true, true, true, false, false, false, false, false, false] (any_of HT_.out (by kernel_rfl)) (h := ?_)
        refine pureP_ (i := 10) (N := some 27) #[true, true, true, true, true, false, true, true, true, false, true, false, false, false, false] (any_of HT_.out (by kernel_rfl)) (h := ?_)
        refine pureP_ (i := 11) (N := some 28) #[true, true, true, true, true, false, true, true, true, false, true, true, false, false, false] (any_of HT_.out (by kernel_rfl)) (h := ?_)
        refine takeP_ (i := 5) (N := some 22) #[true, true, true, true, true, true, true, true, true, false, true, true, false, false, false] (take_ofW HT_.out HW_.out (by kernel_rfl)) hHeld (hy := Or.inl ⟨by rfl, by rintro w' ⟨s0, s1, s2, s3, s4, s5⟩; go_simp; with_reducible rfl⟩) (h := ?_)
        refine takeP_ (i := 9) (N := some 26) (tf_ 12 3) (take_ofW HT_.out HW_.out (by kernel_rfl)) hHeld (hy := Or.inl ⟨by rfl, by rintro w' ⟨s0, s1, s2, s3, s4, s5⟩; go_simp; with_reducible rfl⟩) (h := ?_)
        refine one_ (i := 12) (N := some 29) (tf_ 13 2) rfl rfl (one_of HT_.out (by kernel_rfl)) (by decide) (fun K hK => ?_)
        refine goes_ Try.func98 (by kernel_rfl) rfl #[.agg #[.int .i64 ((rd_T63 l0 x5_1).f0), .int .i64 ((rd_T63 l0 x5_1).f1), .int .i64 ((rd_T63 l0 x5_1).f2), .int .i64 ((rd_T63 l0 x5_1).f3), .int .i64 ((rd_T63 l0 x5_1).f4)], .slice A297_0 (rd_L5 t293 x5_1).length c297_0, .int .i64 (wrap64 (x5_1 + 1))] (by rfl) rfl rfl att12_0_2 ?_
        with_reducible refine (spec_FoldOne.calls k1 ((rd_T63 l0 x5_1).f0) ((rd_T63 l0 x5_1).f1) ((rd_T63 l0 x5_1).f2) ((rd_T63 l0 x5_1).f3) ((rd_T63 l0 x5_1).f4) _ _ (rd_L5 t293 x5_1) (wrap64 (x5_1 + 1)) t298 t299 t300 t301 t302 _ ?side1 ?side2 A11.out).mono ?_
        (case side1 => repeat (first | exact att12_0_3 | (with_reducible refine Kd.C_alloc ?_ _) | (with_reducible refine Kd.C_drewN ?_ _) | (with_reducible refine Kd.C_drew ?_)))
        (case side2 => exact HC297_0.out)
        rintro e w16 ⟨rfl, hb⟩
        have HS5_ := (hb.cell (World.block_lt_of_cell? _ _ (hHeld.2.2.2.2.2))).trans (hHeld.2.2.2.2.2)
        refine ⟨_, rfl, ?_⟩
        have n0_ := Aside0.mk (Kd.R_below (by (with_reducible repeat (first | apply Kd.R_alloc | apply Kd.R_drewN | apply Kd.R_drew)); exact HO_3.out) hb)
        have n1_ := Aside0.mk (Kd.S_below (by (with_reducible repeat (first | apply Kd.S_alloc | apply Kd.S_drewN | apply Kd.S_drew)); exact HO_4.out) hb)
        have n2_ := Aside0.mk (Kd.R_below (by (with_reducible repeat (first | apply Kd.R_alloc | apply Kd.R_drewN | apply Kd.R_drew)); exact HL297_0.out) hb)
        have n3_ := Aside0.mk (Kd.C_below att12_0_3 hb)
        have n4_ := Aside0.mk (below_step att12_0_0 hb)
        clear HO_3
        clear HO_4
        clear HL297_0
        clear HR297_0
        clear HB
        have HO_3 := n0_
        have HO_4 := n1_
        have HL297_0 := n2_
        have HR297_0 := n3_
        have HB := n4_
        clear n0_ n1_ n2_ n3_ n4_
        (try clear hb)
        (try clear hb2)
        (try clear hk)
        (try clear hi)
        have p13 : 0 ≤ (x5_1 : Int) := of_decide_eq_true att12_0_1
        have q13 : (x5_1 : Int) < ((x3_1.length : Int) : Int) := of_decide_eq_true att12_0_1
        obtain ⟨go13, co13, eo13, gb13, gl13, cl13, HG13⟩ := Kd.R_form HO_3.out (by omega)
        (first | cases eo13 | (injection eo13 with ea_ en_ ec_; (first | subst ea_ | (injection ea_ with ea_; subst ea_)); subst ec_; clear en_))
        have GB13 := Aside0.mk gb13
        have GG13 := Aside0.mk HG13
        clear gb13 gl13 HG13
        obtain ⟨ce13, hcl13, hM13, hcc13, hfr13⟩ := Kd.R_elem HO_3.out z63 (x5_1 : Int) p13 q13
        obtain rfl := k63_openM hM13
        have hx13_0 : World.cell? _ ⟨go13, (x5_1 : Int).toNat * 5, none⟩ = some (.int .i64 ((rd_T63 x3_1 x5_1).f0)) := hcc13 0 _ rfl
        have hx13_1 : World.cell? _ ⟨go13, (x5_1 : Int).toNat * 5 + 1, none⟩ = some (.int .i64 ((rd_T63 x3_1 x5_1).f1)) := hcc13 1 _ rfl
        have hx13_2 : World.cell? _ ⟨go13, (x5_1 : Int).toNat * 5 + 2, none⟩ = some (.int .i64 ((rd_T63 x3_1 x5_1).f2)) := hcc13 2 _ rfl
        have hx13_3 : World.cell? _ ⟨go13, (x5_1 : Int).toNat * 5 + 3, none⟩ = some (.int .i64 ((rd_T63 x3_1 x5_1).f3)) := hcc13 3 _ rfl
        have hx13_4 : World.cell? _ ⟨go13, (x5_1 : Int).toNat * 5 + 4, none⟩ = some (.int .i64 ((rd_T63 x3_1 x5_1).f4)) := hcc13 4 _ rfl
        have hf13_0 : World.frozen? _ ⟨go13, (x5_1 : Int).toNat * 5, none⟩ = false := hfr13 0
        have hf13_1 : World.frozen? _ ⟨go13, (x5_1 : Int).toNat * 5 + 1, none⟩ = false := hfr13 1
        have hf13_2 : World.frozen? _ ⟨go13, (x5_1 : Int).toNat * 5 + 2, none⟩ = false := hfr13 2
        have hf13_3 : World.frozen? _ ⟨go13, (x5_1 : Int).toNat * 5 + 3, none⟩ = false := hfr13 3
        have hf13_4 : World.frozen? _ ⟨go13, (x5_1 : Int).toNat * 5 + 4, none⟩ = false := hfr13 4
        clear hcl13 hcc13 hfr13 hM13
        replace p13 := eq_true p13
        replace q13 := eq_true q13
        obtain ⟨ce17, hcl17, hM17, hcc17, hfr17⟩ := Kd.R_elem HO_3.out z63 (x5_1 : Int) (of_decide_eq_true att12_0_1) att12_1_0
        obtain rfl := k63_openM hM17
        have HP17 := (Kd.R_seg HO_3.out (x5_1 : Int) (of_decide_eq_true att12_0_1) att12_1_0 (seg := [.int .i64 t298, .int .i64 t299, .int .i64 t300, .int .i64 t301, .int .i64 t302]) (j := 0) hcl17 hcc17 (show 5 ≤ 5 from by decide) (x' := (⟨t298, t299, t300, t301, t302⟩ : S63)) (k63_mkM _ _ _ (⟨t298, t299, t300, t301, t302⟩ : S63) ) (fun _ hk => hk)).1
        rw [← Ny303.out] at HP17
        have HQ17 := Aside0.mk HP17
        clear hcl17 hcc17 hfr17 hM17 HP17
        refine hK.out _ _ ⟨((HB.out.cell (World.block_lt_of_cell? w _ hw296_0)).trans hw296_0), ((HB.out.cell (World.block_lt_of_cell? w _ hw296_1)).trans hw296_1), ((HB.out.cell (World.block_lt_of_cell? w _ hw296_2)).trans hw296_2), ((HB.out.cell (World.block_lt_of_cell? w _ hw296_3)).trans hw296_3), ((HB.out.cell (World.block_lt_of_cell? w _ hw296_4)).trans hw296_4), HS5_⟩ (fun hHeld => ?_)
        clear hK K
        refine normP_ (h := ?_)
        refine pureP_ (i := 13) (N := some 30) (tf_ 14 1) (any_of HT_.out (by kernel_rfl)) (h := ?_)
        refine last_ (i := 14) (N := none) (tf_ 15 0) rfl rfl (one_of HT_.out (by kernel_rfl)) (by decide) (fun K hK => ?_)
        refine skip_ (w1 := ?_) (by rfl) rfl ?_ ?_
        rotate_left
        ·go_simp
         rfl
        refine hK.out _ _ ?_
        clear hK K
        refine done_ (done_of HT_.out (by kernel_rfl)) ?_
        try go_wp2
        go_roundg k1
        case measure => have := HK1.out; omega
        case rel => exact ⟨(y303), (wrap64 (x5_1 + 1)), (by first | rfl | (simp; done) | (simp [*]; done)), H', ⟨by have := HK1.out; omega⟩, ⟨by (with_reducible repeat (first | apply Kd.R_alloc | apply Kd.R_drewN | apply Kd.R_drew)); exact HQ17.out⟩, ⟨by (with_reducible repeat (first | apply Kd.S_alloc | apply Kd.S_drewN | apply Kd.S_drew)); exact Kd.S_mono (Kd.S_far (p := ⟨go13, (x5_1 : Int).toNat * 5 + 4, none⟩) (Kd.S_far (p := ⟨go13, (x5_1 : Int).toNat * 5 + 3, none⟩) (Kd.S_far (p := ⟨go13, (x5_1 : Int).toNat * 5 + 2, none⟩) (Kd.S_far (p := ⟨go13, (x5_1 : Int).toNat * 5 + 1, none⟩) (Kd.S_far (p := ⟨go13, (x5_1 : Int).toNat * 5, none⟩) (Kd.S_types HO_4.out GG13.out (by decide)) (fun _ hk => hk.2) (.int .i64 t298)) (fun _ hk => hk.2) (.int .i64 t299)) (fun _ hk => hk.2) (.int .i64 t300)) (fun _ hk => hk.2) (.int .i64 t301)) (fun _ hk => hk.2) (.int .i64 t302)) (fun _ hk => trivial)⟩, ⟨by repeat (first | (with_reducible first | exact HB.out | apply below_alloc | apply pw_below_drewN | apply below_drew1 | refine below_set ?_ GB13.out | refine below_set ?_ GB13.out | refine below_set ?_ GB13.out | refine below_set ?_ GB13.out | refine below_set ?_ GB13.out) | exact HB.out)⟩⟩
       ·rw [if_neg c12] at H
        exact absurd H (by simp)
      ·rw [if_neg c10] at H
       exact absurd H (by simp)
     ·rw [if_neg c9] at H
      exact absurd H (by simp)
    ·rw [if_neg c8] at H
     have c8b0 : decide (x5_1 < (t293.length : Int)) = false := decide_eq_false c8
     clear c8
     obtain rfl := Option.some.inj H
     obtain ⟨Ao18, co18, eo18⟩ := Kd.S_slice HO_4.out
     subst eo18
     go_wp2
     go_ret
     exact ⟨_, by first | rfl | (simp [errW_none, errW_some] <;> rfl) | (simp [*, errW_none, errW_some] <;> rfl), by (with_reducible repeat (first | apply Kd.R_alloc | apply Kd.R_drewN | apply Kd.R_drew)); exact HO_3.out, att12_0_0⟩
 ·rw [if_neg c2] at H
  exact absurd H (by simp)

/-! ### impl_within: function 79 -/
def impl_within.f (a0 : Int) (a1 : Int) (a2 : Int) : Option (Bool) := if a0 ≥ a1 then (some (decide (a0 ≤ a2))) else (some false)
set_option maxHeartbeats 80000000 in
set_option maxRecDepth 100000 in
theorem impl_within.calls (a0 : Int) (a1 : Int) (a2 : Int) (r : Bool) (w : World) (h : impl_within.f a0 a1 a2 = some r) :
  Calls Try.prog 79 #[.int .i64 a0, .int .i64 a1, .int .i64 a2] w fun e w' => e = .returned (.bool r) ∧ Drawn0 w w' := by
 have H : (if a0 ≥ a1 then (some (decide (a0 ≤ a2))) else (some false)) = some r := h
 clear h
 by_cases c4 : a0 ≥ a1
 ·rw [if_pos c4] at H
  have c4b0 : decide (a1 ≤ a0) = true := decide_eq_true c4
  clear c4
  obtain rfl := Option.some.inj H
  go_enter Try.func79, Try.ntmps79
  go_wp2
  go_ret
  exact ⟨by first | rfl | (simp; done) | (simp [*]; done), att12_0_4⟩
 ·rw [if_neg c4] at H
  have c4b0 : decide (a1 ≤ a0) = false := decide_eq_false c4
  clear c4
  obtain rfl := Option.some.inj H
  go_enter Try.func79, Try.ntmps79
  go_wp2
  go_ret
  exact ⟨by first | rfl | (simp; done) | (simp [*]; done), att12_0_4⟩

/-! ### impl_named: function 114 -/
def nmR (op r : Int) : Int := if op = 1 ∨ op = 2 ∨ op = 3 ∨ op = 4 ∨ op = 6 ∨ op = 7 ∨ op = 8 then r else 0
def nmA (op a : Int) : Int := if op = 2 ∨ op = 3 ∨ op = 4 ∨ op = 5 ∨ op = 7 ∨ op = 10 ∨ op = 12 then a else 0
def nmB (op b : Int) : Int := if op = 2 ∨ op = 3 ∨ op = 4 ∨ op = 6 ∨ op = 8 then b else 0
def nmN (op n : Int) : Int := if op = 1 ∨ op = 5 ∨ op = 6 ∨ op = 7 ∨ op = 8 ∨ op = 9 ∨ op = 11 ∨ op = 12 then n else 0
def impl_named.f (op r a b n : Int) : Option (Int × Int × Int × Int × Int) := some (op, nmR op r, nmA op a, nmB op b, nmN op n)
set_option maxHeartbeats 4000000 in
set_option maxRecDepth 100000 in
theorem impl_named.hand (op r a b n : Int) (w : World) : Calls Try.prog 114 #[.agg #[.int .i64 op, .int .i64 r, .int .i64 a, .int .i64 b, .int .i64 n]] w fun e w' => e = .returned (.agg #[.int .i64 op, .int .i64 (nmR op r), .int .i64 (nmA op a), .int .i64 (nmB op b), .int .i64 (nmN op n)]) ∧ Below w.heap.size w w' := by
 by_cases h : 1 ≤ op ∧ op ≤ 13
 ·obtain rfl | rfl | rfl | rfl | rfl | rfl | rfl | rfl | rfl | rfl | rfl | rfl | rfl : op = 1 ∨ op = 2 ∨ op = 3 ∨ op = 4 ∨ op = 5 ∨ op = 6 ∨ op = 7 ∨ op = 8 ∨ op = 9 ∨ op = 10 ∨ op = 11 ∨ op = 12 ∨ op = 13 := by omega
  all_goals
   clear h
   simp only [nmR, nmA, nmB, nmN, Int.reduceEq, or_true, true_or, or_false, false_or, if_true, if_false, or_self, reduceIte]
   go_enter Try.func114, Try.ntmps114
   go_wp2
   try (go_region; go_wp2)
   exact bodyPost_ret (v := .agg #[_, _, _, _, _]) (by simp [results, Try.results114, go_sem]) rfl ⟨rfl, att12_0_6⟩
 ·have e1 : (op == 1) = false := beq_eq_false_iff_ne.mpr (by omega)
  have e2 : (op == 2) = false := beq_eq_false_iff_ne.mpr (by omega)
  have e3 : (op == 3) = false := beq_eq_false_iff_ne.mpr (by omega)
  have e4 : (op == 4) = false := beq_eq_false_iff_ne.mpr (by omega)
  have e5 : (op == 5) = false := beq_eq_false_iff_ne.mpr (by omega)
  have e6 : (op == 6) = false := beq_eq_false_iff_ne.mpr (by omega)
  have e7 : (op == 7) = false := beq_eq_false_iff_ne.mpr (by omega)
  have e8 : (op == 8) = false := beq_eq_false_iff_ne.mpr (by omega)
  have e9 : (op == 9) = false := beq_eq_false_iff_ne.mpr (by omega)
  have e10 : (op == 10) = false := beq_eq_false_iff_ne.mpr (by omega)
  have e11 : (op == 11) = false := beq_eq_false_iff_ne.mpr (by omega)
  have e12 : (op == 12) = false := beq_eq_false_iff_ne.mpr (by omega)
  have eR : nmR op r = 0 := by unfold nmR; rw [if_neg (by omega)]
  have eA : nmA op a = 0 := by unfold nmA; rw [if_neg (by omega)]
  have eB : nmB op b = 0 := by unfold nmB; rw [if_neg (by omega)]
  have eN : nmN op n = 0 := by unfold nmN; rw [if_neg (by omega)]
  rw [eR, eA, eB, eN]
  clear h eR eA eB eN
  go_enter Try.func114, Try.ntmps114
  go_wp2
  exact bodyPost_ret (v := .agg #[_, _, _, _, _]) (by simp [results, Try.results114, go_sem]) rfl ⟨rfl, att12_0_6⟩
theorem impl_named.calls (a0_0 a0_1 a0_2 a0_3 a0_4 r1 r2 r3 r4 r5 : Int) (w : World) (h : impl_named.f a0_0 a0_1 a0_2 a0_3 a0_4 = some (r1, r2, r3, r4, r5)) :
  Calls Try.prog 114 #[.agg #[.int .i64 a0_0, .int .i64 a0_1, .int .i64 a0_2, .int .i64 a0_3, .int .i64 a0_4]] w fun e w' => e = .returned (.agg #[.int .i64 r1, .int .i64 r2, .int .i64 r3, .int .i64 r4, .int .i64 r5]) ∧ Below w.heap.size w w' := by
 simp only [impl_named.f, Option.some.injEq, Prod.mk.injEq] at h
 obtain ⟨rfl, rfl, rfl, rfl, rfl⟩ := h
 exact impl_named.hand _ _ _ _ _ w

/-! ### impl_isReg: function 115 -/
def impl_isReg.f (a0 : Int) : Option (Bool) := (impl_within.f a0 0 3).bind fun t304 => (some t304)
set_option maxHeartbeats 80000000 in
set_option maxRecDepth 100000 in
theorem impl_isReg.calls (a0 : Int) (r : Bool) (w : World) (h : impl_isReg.f a0 = some r) :
  Calls Try.prog 115 #[.int .i64 a0] w fun e w' => e = .returned (.bool r) ∧ Drawn0 w w' := by
 have H : ((impl_within.f a0 0 3).bind fun t304 => (some t304)) = some r := h
 clear h
 replace H := Option.bind_eq_some_iff.mp H
 obtain ⟨t304, A20, H⟩ := H
 (try dsimp only at H)
 have A2 := Aside0.mk A20
 clear A20
 obtain rfl := Option.some.inj H
 go_enter Try.func115, Try.ntmps115
 go_wp2_with (first | ((with_reducible refine gate_callee (f := 79) rfl ?_); refine goesL_ (some 4) rfl rfl Try.func79 (by kernel_rfl) rfl #[.int .i64 a0, .int .i64 0, .int .i64 3] rfl att12_0_2 ?_; (with_reducible refine (impl_within.calls a0 0 3 t304 _ A2.out).mono ?_); rintro e w' ⟨rfl, ⟨nd, rfl⟩⟩; refine ⟨_, rfl, ?_⟩))
 go_ret
 exact ⟨by first | rfl | (simp; done) | (simp [*]; done), att12_0_4⟩

/-! ### impl_ofChan: function 116 -/
def impl_ofChan.f (a0 : Int) : Option (Bool) := (impl_within.f a0 5 9).bind fun t305 => (some t305)
set_option maxHeartbeats 80000000 in
set_option maxRecDepth 100000 in
theorem impl_ofChan.calls (a0 : Int) (r : Bool) (w : World) (h : impl_ofChan.f a0 = some r) :
  Calls Try.prog 116 #[.int .i64 a0] w fun e w' => e = .returned (.bool r) ∧ Drawn0 w w' := by
 have H : ((impl_within.f a0 5 9).bind fun t305 => (some t305)) = some r := h
 clear h
 replace H := Option.bind_eq_some_iff.mp H
 obtain ⟨t305, A20, H⟩ := H
 (try dsimp only at H)
 have A2 := Aside0.mk A20
 clear A20
 obtain rfl := Option.some.inj H
 go_enter Try.func116, Try.ntmps116
 go_wp2_with (first | ((with_reducible refine gate_callee (f := 79) rfl ?_); refine goesL_ (some 4) rfl rfl Try.func79 (by kernel_rfl) rfl #[.int .i64 a0, .int .i64 5, .int .i64 9] rfl att12_0_2 ?_; (with_reducible refine (impl_within.calls a0 5 9 t305 _ A2.out).mono ?_); rintro e w' ⟨rfl, ⟨nd, rfl⟩⟩; refine ⟨_, rfl, ?_⟩))
 go_ret
 exact ⟨by first | rfl | (simp; done) | (simp [*]; done), att12_0_4⟩

end Go.Proofs.Ytocimkpafakiaaa.XFnExactFoldBody
