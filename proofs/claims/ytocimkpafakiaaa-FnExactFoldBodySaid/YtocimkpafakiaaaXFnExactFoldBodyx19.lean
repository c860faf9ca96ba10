/- Each Go function that the law reaches as a Lean function, and that Go comes to just its answer; written by this session's xprint.py over the kit's printer. -/
import Derived.Test.YtocimkpafakiaaaXFnExactFoldBodyx0
import Derived.Test.YtocimkpafakiaaaXFnExactFoldBodyx3
import Derived.Test.YtocimkpafakiaaaXFnExactFoldBodyx4
import Derived.Test.YtocimkpafakiaaaXFnExactFoldBodyx11
import Derived.Test.YtocimkpafakiaaaXFnExactFoldBodyx17
import Derived.Test.YtocimkpafakiaaaXFnExactFoldBodyx18
namespace Go.Proofs.Ytocimkpafakiaaa.XFnExactFoldBody
open Go.RowKit Go.Proofs.YtocimkpafakiaaaW.PrintWords Go.Proofs.YtocimkpafakiaaaW.PrintLast Go.Proofs.YtocimkpafakiaaaW.PrintMore
attribute [local go_sem] max2_int min2_int max_two min_two max_three min_three max_four min_four   -- for this text's walks alone
set_option linter.unusedVariables false
set_option linter.unusedSimpArgs false

theorem att20_0_0 {p : Prop} (h : p := by repeat (first | (with_reducible first | exact HB.out | apply below_alloc | apply pw_below_drewN | apply below_drew1) | exact HB.out)) : p := h
theorem att20_0_1 {p : Prop} (h : p := by (try simp only [List.map_toArray, List.map_cons, List.map_nil]); first | done | rfl | (simp only [List.length_drop, List.length_take]; rfl)) : p := h
theorem att20_0_2 {p : Prop} (h : p := by (with_reducible repeat (first | apply Kd.R_alloc | apply Kd.R_drewN | apply Kd.R_drew)); exact HO415.out) : p := h
theorem att20_0_3 {p : Prop} (h : p := by (with_reducible repeat (first | apply Kd.R_alloc | apply Kd.R_drewN | apply Kd.R_drew)); exact HO418.out) : p := h
theorem att20_0_4 {p : Prop} (h : p := by (with_reducible repeat (first | apply Kd.R_alloc | apply Kd.R_drewN | apply Kd.R_drew)); exact HO_6.out) : p := h
theorem att20_0_5 {p : Prop} (h : p := by (with_reducible repeat (first | apply Kd.R_alloc | apply Kd.R_drewN | apply Kd.R_drew)); exact HO_4.out) : p := h
theorem att20_0_6 {p : Prop} (h : p := by (try simp only [List.map_toArray, List.map_cons, List.map_nil]); first | done | (rw [show t434.length = t422.length from (Kd.R_reads' HO_6.out).1.symm] <;> rfl) | rfl | (simp only [List.length_drop, List.length_take]; rfl)) : p := h
theorem att20_0_7 {p : Prop} (h : p := by (with_reducible repeat (first | apply Kd.R_alloc | apply Kd.R_drewN | apply Kd.R_drew)); exact HO421.out) : p := h
theorem att20_0_8 {p : Prop} (h : p := by (with_reducible repeat (first | apply Kd.R_alloc | apply Kd.R_drewN | apply Kd.R_drew)); exact HO438.out) : p := h
theorem att20_0_9 {p : Prop} (h : p := by (with_reducible repeat (first | apply Kd.R_alloc | apply Kd.R_drewN | apply Kd.R_drew)); exact HO424.out) : p := h
theorem att20_0_10 {p : Prop} (h : p := by first | (with_reducible assumption) | assumption) : p := h
theorem att20_0_11 {p : Prop} (h : p := by (with_reducible repeat (first | apply Kd.R_alloc | apply Kd.R_drewN | apply Kd.R_drew)); exact HO441.out) : p := h
theorem att20_0_12 {p : Prop} (h : p := by (with_reducible repeat (first | apply Kd.R_alloc | apply Kd.R_drewN | apply Kd.R_drew)); exact HO428.out) : p := h
theorem att20_0_13 {p : Prop} (h : p := by (with_reducible repeat (first | apply Kd.S_alloc | apply Kd.S_drewN | apply Kd.S_drew)); exact HO_9.out) : p := h
theorem att20_0_14 {p : Prop} (h : p := by (with_reducible repeat (first | apply Kd.R_alloc | apply Kd.R_drewN | apply Kd.R_drew)); exact HO_3.out) : p := h
theorem att20_0_15 {p : Prop} (h : p := by repeat (first | (with_reducible exact HR404_0.out) | (with_reducible refine Kd.C_alloc ?_ _) | (with_reducible refine Kd.C_drewN ?_ _) | (with_reducible refine Kd.C_drew ?_) | exact HR404_0.out)) : p := h
theorem att20_0_16 {p : Prop} (h : p := by (with_reducible repeat (first | apply Kd.R_alloc | apply Kd.R_drewN | apply Kd.R_drew)); exact Kd.R_mono HO418.out (fun _ hk => hk.2.2.1)) : p := h
theorem att20_0_17 {p : Prop} (h : p := by (with_reducible repeat (first | apply Kd.R_alloc | apply Kd.R_drewN | apply Kd.R_drew)); exact Kd.R_mono HO424.out (fun _ hk => hk.2.1)) : p := h
theorem att20_0_18 {p : Prop} (h : p := by first | rfl | (simp; done) | (simp [*]; done)) : p := h
theorem att20_0_19 {p : Prop} (h : p := by (with_reducible repeat (first | apply Kd.R_alloc | apply Kd.R_drewN | apply Kd.R_drew)); exact HL404_0.out) : p := h
theorem att20_0_20 {p : Prop} (h : p := by (with_reducible repeat (first | apply Kd.R_alloc | apply Kd.R_drewN | apply Kd.R_drew)); exact HO400.out) : p := h
theorem att20_1_0 {p : Prop} (h : p := by have h_ : (x11_1 : Int) < ((x3_1.length : Int) : Int) := of_decide_eq_true att20_0_10; first | exact h_ | (have e_ := (Kd.R_reads' HO_3.out).1; omega) | simpa using h_) : p := h
/-! ### impl_FoldBody: function 53 -/
def impl_FoldBody.l0 : Nat → List (S63) → List (S63) → List (List (S83)) → Int → Int → Option ((List (S63)))
 | 0, _, _, _, _, _ => none
 | k + 1, x0, x3, x9, x10, x11 => if x11 < x10 then (if 0 ≤ x11 then (if x11 < (x9.length : Int) then (if x11 < (x0.length : Int) then ((impl_FoldOne.f ((rd_T63 x0 x11).f0) ((rd_T63 x0 x11).f1) ((rd_T63 x0 x11).f2) ((rd_T63 x0 x11).f3) ((rd_T63 x0 x11).f4) (rd_L5 x9 x11) (wrap64 (x11 + 1))).bind fun bt406 => (if x11 < (x3.length : Int) then (impl_FoldBody.l0 k x0 (x3.set (x11 : Int).toNat (⟨bt406.1, bt406.2.1, bt406.2.2.1, bt406.2.2.2.1, bt406.2.2.2.2⟩ : S63)) x9 x10 (wrap64 (x11 + 1))) else (none))) else (none)) else (none)) else (none)) else (some x3)
def impl_FoldBody.f (k : Nat) (l0 : List (S63)) : Option ((List (S63))) := (impl_copyBody.f l0).bind fun t398 => ((impl_KnownAt.f k l0).bind fun t401 => (impl_FoldBody.l0 k l0 t398 t401 (t401.length : Int) 0))
theorem impl_FoldBody.mono_l : ∀ k, (∀ y0 y1 y2 y3 y4, LeO (impl_FoldBody.l0 k y0 y1 y2 y3 y4) (impl_FoldBody.l0 (k + 1) y0 y1 y2 y3 y4))
 | 0 => fun _ _ _ _ _ r h => by simp [impl_FoldBody.l0] at h
 | k + 1 => by
  have ih0 := impl_FoldBody.mono_l k
  ·intro y0 y1 y2 y3 y4
   unfold impl_FoldBody.l0
   repeat' first
   | (with_reducible exact ih0 _ _ _ _ _)
   | (with_reducible exact impl_KnownAt.mono _ _)
   | (with_reducible exact LeO.refl _)
   | (with_reducible exact LeO.none _)
   | (with_reducible refine LeO.ite ?_ ?_)
   | (with_reducible refine LeO.bind ?_ (fun _ => ?_))
   | exact ih0 _ _ _ _ _
   | exact impl_KnownAt.mono _ _
   | exact LeO.none _
   | refine LeO.ite ?_ ?_
   | refine LeO.bind ?_ (fun _ => ?_)
theorem impl_FoldBody.mono : ∀ a0 k, LeO (impl_FoldBody.f k a0) (impl_FoldBody.f (k + 1) a0) := by
 intro a0 k
 have ih0 := impl_FoldBody.mono_l k
 unfold impl_FoldBody.f
 repeat' first
   | (with_reducible exact ih0 _ _ _ _ _)
   | (with_reducible exact impl_KnownAt.mono _ _)
   | (with_reducible exact LeO.refl _)
   | (with_reducible exact LeO.none _)
   | (with_reducible refine LeO.ite ?_ ?_)
   | (with_reducible refine LeO.bind ?_ (fun _ => ?_))
   | exact ih0 _ _ _ _ _
   | exact impl_KnownAt.mono _ _
   | exact LeO.none _
   | refine LeO.ite ?_ ?_
   | refine LeO.bind ?_ (fun _ => ?_)
set_option maxHeartbeats 80000000 in
set_option maxRecDepth 100000 in
theorem impl_FoldBody.calls (k : Nat) (A0 : Option Addr) (c0 : Nat) (l0 : List (S63)) (r : List (S63)) (w : World) (hr0 : Kd.C k63 w A0 l0.length l0) (hc0 : l0.length ≤ c0) (h : impl_FoldBody.f k l0 = some r) :
  Calls Try.prog 53 #[.slice A0 l0.length c0] w fun e w' => ∃ v0_ : Value, e = .returned (v0_) ∧ Kd.R k63 63 w' w.heap.size (fun _ => True) v0_ r ∧ Below w.heap.size w w' := by
 have hu63 := Try.underlying63
 have HR0 := Aside0.mk hr0
 have HC0 := Aside0.mk hc0
 clear hr0 hc0
 have HB := Aside0.mk (Below.refl w.heap.size w)
 have H : ((impl_copyBody.f l0).bind fun t398 => ((impl_KnownAt.f k l0).bind fun t401 => (impl_FoldBody.l0 k l0 t398 t401 (t401.length : Int) 0))) = some r := h
 clear h
 replace H := Option.bind_eq_some_iff.mp H
 obtain ⟨t398, A20, H⟩ := H
 (try dsimp only at H)
 have A2 := Aside0.mk A20
 clear A20
 replace H := Option.bind_eq_some_iff.mp H
 obtain ⟨t401, A30, H⟩ := H
 (try dsimp only at H)
 have A3 := Aside0.mk A30
 clear A30
 have H' := Aside0.mk H
 clear H
 go_enter Try.func53, Try.ntmps53
 go_wp2_with (first | ((with_reducible refine gate_callee (f := 66) rfl ?_); refine goesL_ (some 7) rfl rfl Try.func66 (by kernel_rfl) rfl #[.slice A0 l0.length c0] rfl att20_0_1 ?_; (with_reducible refine (impl_copyBody.calls _ _ l0 t398 _ ?side1 ?side2 A2.out).mono ?_); (case side1 => repeat (first | exact HR0.out | (with_reducible refine Kd.C_alloc ?_ _) | (with_reducible refine Kd.C_drewN ?_ _) | (with_reducible refine Kd.C_drew ?_))); (case side2 => exact HC0.out); rintro e w4 ⟨v399, rfl, ho0, hb⟩; refine ⟨_, rfl, ?_⟩; have n0_ := Aside0.mk (Kd.R_lower ho0 (below_size att20_0_0)); have n1_ := Aside0.mk (below_step att20_0_0 hb); clear HB; have HO400 := n0_; have HB := n1_; clear n0_ n1_; (try clear hb); (try clear hb2); (try clear hk); (try clear hi); (try clear ho0)) | ((with_reducible refine gate_callee (f := 46) rfl ?_); refine goesL_ (some 9) rfl rfl Try.func46 (by kernel_rfl) rfl #[.slice A0 l0.length c0] rfl att20_0_1 ?_; (with_reducible refine (impl_KnownAt.calls k _ _ l0 t401 _ ?side1 ?side2 A3.out).mono ?_); (case side1 => repeat (first | exact (Kd.C_below HR0.out HB.out) | (with_reducible refine Kd.C_alloc ?_ _) | (with_reducible refine Kd.C_drewN ?_ _) | (with_reducible refine Kd.C_drew ?_))); (case side2 => exact HC0.out); rintro e w5 ⟨v402, rfl, ho0, hb⟩; refine ⟨_, rfl, ?_⟩; have n0_ := Aside0.mk (Kd.R_below att20_0_20 hb); have n1_ := Aside0.mk (Kd.S_lower ho0 (below_size att20_0_0)); have n2_ := Aside0.mk (below_step att20_0_0 hb); clear HO400; clear HB; have HO400 := n0_; have HO403 := n1_; have HB := n2_; clear n0_ n1_ n2_; (try clear hb); (try clear hb2); (try clear hk); (try clear hi); (try clear ho0); obtain ⟨Ao6, co6, eo6⟩ := Kd.S_slice HO403.out; subst eo6))
 go_loopg [11] k (fun kq v11 w' => ∃ (x3_1 : List (S63)) (x11_1 : Int), v11 = .int .i64 x11_1 ∧ Aside0 (impl_FoldBody.l0 kq l0 x3_1 t401 (t401.length : Int) x11_1 = some r) ∧ Aside0 (kq ≤ k) ∧ Aside0 (Kd.R k63 63 w' w.heap.size (fun _ => True) v399 x3_1) ∧ Aside0 (Kd.S (Kd.slice 83 k83) 81 w' w.heap.size (fun _ => True) (.slice Ao6 t401.length co6) t401) ∧ Aside0 (Below w.heap.size w w'))
 case atStart => exact ⟨(t398), (0), att20_0_18, H', ⟨Nat.le_refl _⟩, ⟨att20_0_20⟩, ⟨by (with_reducible repeat (first | apply Kd.S_alloc | apply Kd.S_drewN | apply Kd.S_drew)); exact HO403.out⟩, ⟨att20_0_0⟩⟩
 case round =>
  clear H'
  try clear p2
  try clear c4
  try clear c5
  try clear c6
  obtain ⟨x3_1, x11_1, rfl, HA, HK1, HO_3, HO_9, HB⟩ := hrel
  cases gk with
  | zero => exact absurd HA.out (by simp [impl_FoldBody.l0])
  | succ k1 =>
   have H := HA.out
   clear HA
   simp only [impl_FoldBody.l0] at H
   by_cases c7 : x11_1 < (t401.length : Int)
   ·rw [if_pos c7] at H
    have c7b0 : decide (x11_1 < (t401.length : Int)) = true := decide_eq_true c7
    clear c7
    by_cases c8 : 0 ≤ x11_1
    ·rw [if_pos c8] at H
     have c8b0 : decide (0 ≤ x11_1) = true := decide_eq_true c8
     clear c8
     by_cases c9 : x11_1 < (t401.length : Int)
     ·rw [if_pos c9] at H
      have c9b0 : decide (x11_1 < (t401.length : Int)) = true := decide_eq_true c9
      clear c9
      by_cases c10 : x11_1 < (l0.length : Int)
      ·rw [if_pos c10] at H
       have c10b0 : decide (x11_1 < (l0.length : Int)) = true := decide_eq_true c10
       clear c10
       replace H := Option.bind_eq_some_iff.mp H
       obtain ⟨⟨t406, t407, t408, t409, t410⟩, A110, H⟩ := H
       (try dsimp only at H)
       have A11 := Aside0.mk A110
       clear A110
       by_cases c12 : x11_1 < (x3_1.length : Int)
       ·rw [if_pos c12] at H
        have c12b0 : decide (x11_1 < (x3_1.length : Int)) = true := decide_eq_true c12
        clear c12
        obtain ⟨y411, hy411⟩ : ∃ y_ : List (S63), y_ = (x3_1.set (x11_1 : Int).toNat (⟨t406, t407, t408, t409, t410⟩ : S63)) := ⟨_, rfl⟩
        replace H : (impl_FoldBody.l0 k1 l0 y411 t401 (t401.length : Int) (wrap64 (x11_1 + 1))) = some r := by first | (rw [hy411]; with_reducible exact H) | (have H2_ := (Option.bind_some _ _).symm.trans H; rw [hy411]; with_reducible exact H2_) | (have H2_ := (Option.bind_some _ _).symm.trans H; with_reducible exact H2_) | with_reducible exact H | (rw [hy411]; exact H) | exact H
        have Ny411 := Aside0.mk hy411
        clear hy411
        have H' := Aside0.mk H
        clear H
        have p404 : 0 ≤ (x11_1 : Int) := of_decide_eq_true att20_0_10
        have q404 : x11_1 < (t401.length : Int) := of_decide_eq_true att20_0_10
        obtain ⟨ad404, A404_0, c404_0, e404, hx404_0, hl404_0, hi404_0⟩ := at_L5 (Kd.S_reads' HO_9.out).2.2 x11_1 p404 q404
        cases e404
        obtain ⟨ce404, hce404, hMe404, hcc404⟩ := Kd.S_get HO_9.out [] x11_1 p404 (by first | exact q404 | exact of_decide_eq_true att20_0_10 | (have e_ := (Kd.S_reads' HO_9.out).1; omega))
        obtain ⟨ve404_0, rfl, ge404_0⟩ := hMe404
        have hv404_0 := hcc404 0 _ rfl
        rw [Nat.add_zero, show ((Kd.slice 83 k83)).sz = 1 from rfl, Nat.mul_one] at hv404_0
        replace hv404_0 := Option.some.inj (hv404_0.symm.trans hx404_0)
        rw [hv404_0] at ge404_0
        have HL404_0 := Aside0.mk (show Kd.R k83 83 _ _ _ _ (rd_L5 t401 x11_1) from ge404_0)
        clear hv404_0 ge404_0
        clear hcc404 hce404
        have HR404_0 := Aside0.mk hi404_0
        have HC404_0 := Aside0.mk hl404_0
        clear hi404_0 hl404_0
        replace p404 := eq_true p404
        replace q404 := eq_true q404
        have p405 : 0 ≤ (x11_1 : Int) := of_decide_eq_true att20_0_10
        have q405 : x11_1 < (l0.length : Int) := of_decide_eq_true att20_0_10
        obtain ⟨ad405, e405, hx405_0, hx405_1, hx405_2, hx405_3, hx405_4⟩ := at_T63 HR0.out x11_1 p405 q405
        cases e405
        replace hx405_0 := (HB.out.cell (World.block_lt_of_cell? w _ hx405_0)).trans hx405_0
        replace hx405_1 := (HB.out.cell (World.block_lt_of_cell? w _ hx405_1)).trans hx405_1
        replace hx405_2 := (HB.out.cell (World.block_lt_of_cell? w _ hx405_2)).trans hx405_2
        replace hx405_3 := (HB.out.cell (World.block_lt_of_cell? w _ hx405_3)).trans hx405_3
        replace hx405_4 := (HB.out.cell (World.block_lt_of_cell? w _ hx405_4)).trans hx405_4
        replace p405 := eq_true p405
        replace q405 := eq_true q405
        go_wp2_with (first | ((with_reducible refine gate_callee (f := 99) rfl ?_); refine goesL_ (some 25) rfl rfl Try.func99 (by kernel_rfl) rfl #[.agg #[.int .i64 ((rd_T63 l0 x11_1).f0), .int .i64 ((rd_T63 l0 x11_1).f1), .int .i64 ((rd_T63 l0 x11_1).f2), .int .i64 ((rd_T63 l0 x11_1).f3), .int .i64 ((rd_T63 l0 x11_1).f4)], .slice A404_0 (rd_L5 t401 x11_1).length c404_0, .int .i64 (wrap64 (x11_1 + 1))] rfl att20_0_1 ?_; (with_reducible refine (impl_FoldOne.calls ((rd_T63 l0 x11_1).f0) ((rd_T63 l0 x11_1).f1) ((rd_T63 l0 x11_1).f2) ((rd_T63 l0 x11_1).f3) ((rd_T63 l0 x11_1).f4) _ _ (rd_L5 t401 x11_1) (wrap64 (x11_1 + 1)) t406 t407 t408 t409 t410 _ ?side1 ?side2 A11.out).mono ?_); (case side1 => repeat (first | exact att20_0_15 | (with_reducible refine Kd.C_alloc ?_ _) | (with_reducible refine Kd.C_drewN ?_ _) | (with_reducible refine Kd.C_drew ?_))); (case side2 => exact HC404_0.out); rintro e w14 ⟨rfl, hb⟩; refine ⟨_, rfl, ?_⟩; have n0_ := Aside0.mk (Kd.R_below att20_0_14 hb); have n1_ := Aside0.mk (Kd.S_below att20_0_13 hb); have n2_ := Aside0.mk (Kd.R_below att20_0_19 hb); have n3_ := Aside0.mk (Kd.C_below att20_0_15 hb); have n4_ := Aside0.mk (below_step att20_0_0 hb); clear HO_3; clear HO_9; clear HL404_0; clear HR404_0; clear HB; have HO_3 := n0_; have HO_9 := n1_; have HL404_0 := n2_; have HR404_0 := n3_; have HB := n4_; clear n0_ n1_ n2_ n3_ n4_; (try clear hb); (try clear hb2); (try clear hk); (try clear hi); have p13 : 0 ≤ (x11_1 : Int) := of_decide_eq_true att20_0_10; have q13 : (x11_1 : Int) < ((x3_1.length : Int) : Int) := of_decide_eq_true att20_0_10; obtain ⟨go13, co13, eo13, gb13, gl13, cl13, HG13⟩ := Kd.R_form HO_3.out (by omega); (first | cases eo13 | (injection eo13 with ea_ en_ ec_; (first | subst ea_ | (injection ea_ with ea_; subst ea_)); subst ec_; clear en_)); have GB13 := Aside0.mk gb13; have GG13 := Aside0.mk HG13; clear gb13 gl13 HG13; obtain ⟨ce13, hcl13, hM13, hcc13, hfr13⟩ := Kd.R_elem HO_3.out z63 (x11_1 : Int) p13 q13; obtain rfl := k63_openM hM13; have hx13_0 : w14.cell? ⟨go13, (x11_1 : Int).toNat * 5, none⟩ = some (.int .i64 ((rd_T63 x3_1 x11_1).f0)) := hcc13 0 _ rfl; have hx13_1 : w14.cell? ⟨go13, (x11_1 : Int).toNat * 5 + 1, none⟩ = some (.int .i64 ((rd_T63 x3_1 x11_1).f1)) := hcc13 1 _ rfl; have hx13_2 : w14.cell? ⟨go13, (x11_1 : Int).toNat * 5 + 2, none⟩ = some (.int .i64 ((rd_T63 x3_1 x11_1).f2)) := hcc13 2 _ rfl; have hx13_3 : w14.cell? ⟨go13, (x11_1 : Int).toNat * 5 + 3, none⟩ = some (.int .i64 ((rd_T63 x3_1 x11_1).f3)) := hcc13 3 _ rfl; have hx13_4 : w14.cell? ⟨go13, (x11_1 : Int).toNat * 5 + 4, none⟩ = some (.int .i64 ((rd_T63 x3_1 x11_1).f4)) := hcc13 4 _ rfl; have hf13_0 : w14.frozen? ⟨go13, (x11_1 : Int).toNat * 5, none⟩ = false := hfr13 0; have hf13_1 : w14.frozen? ⟨go13, (x11_1 : Int).toNat * 5 + 1, none⟩ = false := hfr13 1; have hf13_2 : w14.frozen? ⟨go13, (x11_1 : Int).toNat * 5 + 2, none⟩ = false := hfr13 2; have hf13_3 : w14.frozen? ⟨go13, (x11_1 : Int).toNat * 5 + 3, none⟩ = false := hfr13 3; have hf13_4 : w14.frozen? ⟨go13, (x11_1 : Int).toNat * 5 + 4, none⟩ = false := hfr13 4; clear hcl13 hcc13 hfr13 hM13; replace p13 := eq_true p13; replace q13 := eq_true q13; have HX15 := Aside0.mk (show Kd.R k63 63 w14 w.heap.size (fun _ => True) (.slice (some ⟨go13, 0, none⟩) x3_1.length co13) x3_1 from att20_0_14); obtain ⟨ce15, hcl15, hM15, hcc15, hfr15⟩ := Kd.R_elem HX15.out z63 (x11_1 : Int) (of_decide_eq_true att20_0_10) att20_1_0; obtain rfl := k63_openM hM15; have HP15 := Kd.R_seg HX15.out (x11_1 : Int) (of_decide_eq_true att20_0_10) att20_1_0 (seg := [.int .i64 t406, .int .i64 t407, .int .i64 t408, .int .i64 t409, .int .i64 t410]) (j := 0) hcl15 hcc15 (show 5 ≤ 5 from by decide) (x' := (⟨t406, t407, t408, t409, t410⟩ : S63)) (k63_mkM _ _ _ (⟨t406, t407, t408, t409, t410⟩ : S63) ) (fun _ hk => hk); have hx15_0 := hcc15 0 _ rfl; (try simp only [show (k63).sz = 5 from rfl, Nat.mul_one, Nat.add_zero] at hx15_0); have hf15_0 := hfr15 0; (try simp only [show (k63).sz = 5 from rfl, Nat.mul_one, Nat.add_zero] at hf15_0); have hx15_1 := hcc15 1 _ rfl; (try simp only [show (k63).sz = 5 from rfl, Nat.mul_one, Nat.add_zero] at hx15_1); have hf15_1 := hfr15 1; (try simp only [show (k63).sz = 5 from rfl, Nat.mul_one, Nat.add_zero] at hf15_1); have hx15_2 := hcc15 2 _ rfl; (try simp only [show (k63).sz = 5 from rfl, Nat.mul_one, Nat.add_zero] at hx15_2); have hf15_2 := hfr15 2; (try simp only [show (k63).sz = 5 from rfl, Nat.mul_one, Nat.add_zero] at hf15_2); have hx15_3 := hcc15 3 _ rfl; (try simp only [show (k63).sz = 5 from rfl, Nat.mul_one, Nat.add_zero] at hx15_3); have hf15_3 := hfr15 3; (try simp only [show (k63).sz = 5 from rfl, Nat.mul_one, Nat.add_zero] at hf15_3); have hx15_4 := hcc15 4 _ rfl; (try simp only [show (k63).sz = 5 from rfl, Nat.mul_one, Nat.add_zero] at hx15_4); have hf15_4 := hfr15 4; (try simp only [show (k63).sz = 5 from rfl, Nat.mul_one, Nat.add_zero] at hf15_4); clear hcl15 hcc15 hfr15 hM15) | ((with_reducible refine gate_store (t := 63) (p := 26) rfl ?_); refine store_event (t := 63) (p := 26) (v := ?vo_w16) (w1 := (((((w14.setCell ⟨go13, (x11_1 : Int).toNat * 5, none⟩ (.int .i64 t406)).setCell ⟨go13, (x11_1 : Int).toNat * 5 + 1, none⟩ (.int .i64 t407)).setCell ⟨go13, (x11_1 : Int).toNat * 5 + 2, none⟩ (.int .i64 t408)).setCell ⟨go13, (x11_1 : Int).toNat * 5 + 3, none⟩ (.int .i64 t409)).setCell ⟨go13, (x11_1 : Int).toNat * 5 + 4, none⟩ (.int .i64 t410))) ?hg ?ho ?hn ?hr ?_; (case ho => rfl); (case hg => rfl); (case hn => rfl); (case hr => first | (go_simp; done) | (go_simp; rfl)); intro w16 hw; have hg : w14.grownBy w16 (some go13) := (by rw [hw]; exact HP15.2); have hp_ : Kd.R k63 63 w16 w.heap.size (fun _ => True) (.slice (some ⟨go13, 0, none⟩) x3_1.length co13) y411 := (by rw [hw, Ny411.out]; exact HP15.1); clear HP15; have n0_ := Aside0.mk (hp_); have n1_ := Aside0.mk (Kd.S_over' (v := (.slice (some ⟨go13, 0, none⟩) x3_1.length co13)) att20_0_13 (Kd.R_typed HO_3.out) (by decide) hg); have n2_ := Aside0.mk (Kd.R_over' (v := (.slice (some ⟨go13, 0, none⟩) x3_1.length co13)) att20_0_19 (Kd.R_typed HO_3.out) (by decide) hg); have n3_ := Aside0.mk ((by rw [hw]; exact below_set (below_set (below_set (below_set (below_set (HB.out) GB13.out) GB13.out) GB13.out) GB13.out) GB13.out : Below w.heap.size w w16)); clear HO_3; clear HO_9; clear HL404_0; clear HB; have HO_3 := n0_; have HO_9 := n1_; have HL404_0 := n2_; have HB := n3_; clear n0_ n1_ n2_ n3_; clear hg hw hp_))
        go_roundg k1
        case measure => have := HK1.out; omega
        case rel => exact ⟨(y411), (wrap64 (x11_1 + 1)), att20_0_18, H', ⟨by have := HK1.out; omega⟩, ⟨att20_0_14⟩, ⟨att20_0_13⟩, ⟨att20_0_0⟩⟩
       ·rw [if_neg c12] at H
        exact absurd H (by simp)
      ·rw [if_neg c10] at H
       exact absurd H (by simp)
     ·rw [if_neg c9] at H
      exact absurd H (by simp)
    ·rw [if_neg c8] at H
     exact absurd H (by simp)
   ·rw [if_neg c7] at H
    have c7b0 : decide (x11_1 < (t401.length : Int)) = false := decide_eq_false c7
    clear c7
    obtain rfl := Option.some.inj H
    go_wp2
    go_ret
    exact ⟨_, by first | rfl | (simp [errW_none, errW_some] <;> rfl) | (simp [*, errW_none, errW_some] <;> rfl), by (with_reducible repeat (first | apply Kd.R_alloc | apply Kd.R_drewN | apply Kd.R_drew)); exact HO_3.out, att20_0_0⟩

/-! ### laws_FnExactFoldBody: function 9 -/
def laws_FnExactFoldBody.j0 : Nat → List (S65) → List (S63) → List (S63) → Bool → Option (Bool)
 | 0, _, _, _, _ => none
 | k + 1, x0, x4, x6, x42 => if x42 = true then (some false) else ((laws_markInsS.f k x6 1).bind fun bt433 => ((laws_heldInsS.f k bt433.2 1).bind fun t435 => (if t435 < 0 then (some false) else (if t435 = bt433.1 then ((laws_toInsS.f k x0).bind fun t436 => ((impl_FoldBody.f k t436).bind fun t439 => ((laws_eqInsS.f k t439 x4).bind fun t442 => (if t442 = true then ((laws_heldInsS.f k bt433.2 1).bind fun t443 => (if t443 < 0 then (some false) else (if t443 = bt433.1 then (some true) else (some false)))) else (some false))))) else (some false)))))
def laws_FnExactFoldBody.f (k : Nat) (l0 : List (S65)) : Option (Bool) := (laws_szInsS.f l0 1048576).bind fun t412 => (if t412 < 0 then (some true) else ((laws_toInsS.f k l0).bind fun t413 => ((spec_FoldBody.f k t413).bind fun t416 => ((laws_toInsS.f k l0).bind fun t419 => ((impl_FoldBody.f k t419).bind fun t422 => ((laws_eqInsS.f k t422 t416).bind fun t425 => (if t425 = true then ((laws_toInsS.f k l0).bind fun t426 => ((laws_eqInsS.f k t419 t426).bind fun t429 => (if t429 = true then ((laws_markInsS.f k t419 1).bind fun bt430 => (if bt430.1 < 0 then (laws_FnExactFoldBody.j0 k l0 t416 t422 true) else ((laws_eqInsS.f k t422 t416).bind fun t432 => (laws_FnExactFoldBody.j0 k l0 t416 t422 (!t432))))) else (some false)))) else (some false))))))))
theorem laws_FnExactFoldBody.mono_l : ∀ k, (∀ y0 y1 y2 y3, LeO (laws_FnExactFoldBody.j0 k y0 y1 y2 y3) (laws_FnExactFoldBody.j0 (k + 1) y0 y1 y2 y3))
 | 0 => fun _ _ _ _ r h => by simp [laws_FnExactFoldBody.j0] at h
 | k + 1 => by
  have ih0 := laws_FnExactFoldBody.mono_l k
  ·intro y0 y1 y2 y3
   unfold laws_FnExactFoldBody.j0
   repeat' first
   | (with_reducible exact ih0 _ _ _ _)
   | (with_reducible exact impl_FoldBody.mono _ _)
   | (with_reducible exact laws_eqInsS.mono _ _ _)
   | (with_reducible exact laws_heldInsS.mono _ _ _)
   | (with_reducible exact laws_markInsS.mono _ _ _)
   | (with_reducible exact laws_toInsS.mono _ _)
   | (with_reducible exact spec_FoldBody.mono _ _)
   | (with_reducible exact LeO.refl _)
   | (with_reducible exact LeO.none _)
   | (with_reducible refine LeO.ite ?_ ?_)
   | (with_reducible refine LeO.bind ?_ (fun _ => ?_))
   | exact ih0 _ _ _ _
   | exact impl_FoldBody.mono _ _
   | exact laws_eqInsS.mono _ _ _
   | exact laws_heldInsS.mono _ _ _
   | exact laws_markInsS.mono _ _ _
   | exact laws_toInsS.mono _ _
   | exact spec_FoldBody.mono _ _
   | exact LeO.none _
   | refine LeO.ite ?_ ?_
   | refine LeO.bind ?_ (fun _ => ?_)
theorem laws_FnExactFoldBody.mono : ∀ a0 k, LeO (laws_FnExactFoldBody.f k a0) (laws_FnExactFoldBody.f (k + 1) a0) := by
 intro a0 k
 have ih0 := laws_FnExactFoldBody.mono_l k
 unfold laws_FnExactFoldBody.f
 repeat' first
   | (with_reducible exact ih0 _ _ _ _)
   | (with_reducible exact impl_FoldBody.mono _ _)
   | (with_reducible exact laws_eqInsS.mono _ _ _)
   | (with_reducible exact laws_heldInsS.mono _ _ _)
   | (with_reducible exact laws_markInsS.mono _ _ _)
   | (with_reducible exact laws_toInsS.mono _ _)
   | (with_reducible exact spec_FoldBody.mono _ _)
   | (with_reducible exact LeO.refl _)
   | (with_reducible exact LeO.none _)
   | (with_reducible refine LeO.ite ?_ ?_)
   | (with_reducible refine LeO.bind ?_ (fun _ => ?_))
   | exact ih0 _ _ _ _
   | exact impl_FoldBody.mono _ _
   | exact laws_eqInsS.mono _ _ _
   | exact laws_heldInsS.mono _ _ _
   | exact laws_markInsS.mono _ _ _
   | exact laws_toInsS.mono _ _
   | exact spec_FoldBody.mono _ _
   | exact LeO.none _
   | refine LeO.ite ?_ ?_
   | refine LeO.bind ?_ (fun _ => ?_)
set_option maxHeartbeats 80000000 in
set_option maxRecDepth 100000 in
theorem laws_FnExactFoldBody.calls (k : Nat) (A0 : Option Addr) (c0 : Nat) (l0 : List (S65)) (r : Bool) (w : World) (hr0 : Kd.C k65 w A0 l0.length l0) (hc0 : l0.length ≤ c0) (h : laws_FnExactFoldBody.f k l0 = some r) :
  Calls Try.prog 9 #[.slice A0 l0.length c0] w fun e w' => e = .returned (.bool r) ∧ Below w.heap.size w w' := by
 have HR0 := Aside0.mk hr0
 have HC0 := Aside0.mk hc0
 clear hr0 hc0
 have HB := Aside0.mk (Below.refl w.heap.size w)
 have H : ((laws_szInsS.f l0 1048576).bind fun t412 => (if t412 < 0 then (some true) else ((laws_toInsS.f k l0).bind fun t413 => ((spec_FoldBody.f k t413).bind fun t416 => ((laws_toInsS.f k l0).bind fun t419 => ((impl_FoldBody.f k t419).bind fun t422 => ((laws_eqInsS.f k t422 t416).bind fun t425 => (if t425 = true then ((laws_toInsS.f k l0).bind fun t426 => ((laws_eqInsS.f k t419 t426).bind fun t429 => (if t429 = true then ((laws_markInsS.f k t419 1).bind fun bt430 => (if bt430.1 < 0 then (laws_FnExactFoldBody.j0 k l0 t416 t422 true) else ((laws_eqInsS.f k t422 t416).bind fun t432 => (laws_FnExactFoldBody.j0 k l0 t416 t422 (!t432))))) else (some false)))) else (some false))))))))) = some r := h
 clear h
 replace H := Option.bind_eq_some_iff.mp H
 obtain ⟨t412, A20, H⟩ := H
 (try dsimp only at H)
 have A2 := Aside0.mk A20
 clear A20
 by_cases c3 : t412 < 0
 ·rw [if_pos c3] at H
  have c3b0 : decide (t412 < 0) = true := decide_eq_true c3
  clear c3
  obtain rfl := Option.some.inj H
  go_enter Try.func9, Try.ntmps9
  go_wp2_with (first | ((with_reducible refine gate_callee (f := 12) rfl ?_); refine goesL_ (some 13) rfl rfl Try.func12 (by kernel_rfl) rfl #[.slice A0 l0.length c0, .int .i64 1048576] rfl att20_0_1 ?_; (with_reducible refine (laws_szInsS.calls _ _ l0 1048576 t412 _ ?side1 ?side2 A2.out).mono ?_); (case side1 => repeat (first | exact HR0.out | (with_reducible refine Kd.C_alloc ?_ _) | (with_reducible refine Kd.C_drewN ?_ _) | (with_reducible refine Kd.C_drew ?_))); (case side2 => exact HC0.out); rintro e w' ⟨rfl, ⟨nd, rfl⟩⟩; refine ⟨_, rfl, ?_⟩))
  go_ret
  exact ⟨by first | rfl | (simp [errW_none, errW_some] <;> rfl) | (simp [*, errW_none, errW_some] <;> rfl), att20_0_0⟩
 ·rw [if_neg c3] at H
  have c3b0 : decide (t412 < 0) = false := decide_eq_false c3
  clear c3
  replace H := Option.bind_eq_some_iff.mp H
  obtain ⟨t413, A40, H⟩ := H
  (try dsimp only at H)
  have A4 := Aside0.mk A40
  clear A40
  replace H := Option.bind_eq_some_iff.mp H
  obtain ⟨t416, A50, H⟩ := H
  (try dsimp only at H)
  have A5 := Aside0.mk A50
  clear A50
  replace H := Option.bind_eq_some_iff.mp H
  obtain ⟨t419, A60, H⟩ := H
  (try dsimp only at H)
  have A6 := Aside0.mk A60
  clear A60
  replace H := Option.bind_eq_some_iff.mp H
  obtain ⟨t422, A70, H⟩ := H
  (try dsimp only at H)
  have A7 := Aside0.mk A70
  clear A70
  replace H := Option.bind_eq_some_iff.mp H
  obtain ⟨t425, A80, H⟩ := H
  (try dsimp only at H)
  have A8 := Aside0.mk A80
  clear A80
  by_cases c9 : t425 = true
  ·subst c9
   rw [if_pos rfl] at H
   replace H := Option.bind_eq_some_iff.mp H
   obtain ⟨t426, A100, H⟩ := H
   (try dsimp only at H)
   have A10 := Aside0.mk A100
   clear A100
   replace H := Option.bind_eq_some_iff.mp H
   obtain ⟨t429, A110, H⟩ := H
   (try dsimp only at H)
   have A11 := Aside0.mk A110
   clear A110
   by_cases c12 : t429 = true
   ·subst c12
    rw [if_pos rfl] at H
    replace H := Option.bind_eq_some_iff.mp H
    obtain ⟨⟨t430, t431⟩, A130, H⟩ := H
    (try dsimp only at H)
    have A13 := Aside0.mk A130
    clear A130
    have HC14 := Aside0.mk H
    clear H
    go_enter Try.func9, Try.ntmps9
    go_upto_region 14 with (first | ((with_reducible refine gate_callee (f := 12) rfl ?_); refine goesL_ (some 13) rfl rfl Try.func12 (by kernel_rfl) rfl #[.slice A0 l0.length c0, .int .i64 1048576] rfl att20_0_1 ?_; (with_reducible refine (laws_szInsS.calls _ _ l0 1048576 t412 _ ?side1 ?side2 A2.out).mono ?_); (case side1 => repeat (first | exact HR0.out | (with_reducible refine Kd.C_alloc ?_ _) | (with_reducible refine Kd.C_drewN ?_ _) | (with_reducible refine Kd.C_drew ?_))); (case side2 => exact HC0.out); rintro e w' ⟨rfl, ⟨nd, rfl⟩⟩; refine ⟨_, rfl, ?_⟩) | ((with_reducible refine gate_callee (f := 14) rfl ?_); refine goesL_ (some 17) rfl rfl Try.func14 (by kernel_rfl) rfl #[.slice A0 l0.length c0] rfl att20_0_1 ?_; (with_reducible refine (laws_toInsS.calls k _ _ l0 t413 _ ?side1 ?side2 A4.out).mono ?_); (case side1 => repeat (first | exact HR0.out | (with_reducible refine Kd.C_alloc ?_ _) | (with_reducible refine Kd.C_drewN ?_ _) | (with_reducible refine Kd.C_drew ?_))); (case side2 => exact HC0.out); rintro e w15 ⟨v414, rfl, ho0, hb⟩; refine ⟨_, rfl, ?_⟩; have n0_ := Aside0.mk (Kd.R_lower ho0 (below_size att20_0_0)); have n1_ := Aside0.mk (below_step att20_0_0 hb); clear HB; have HO415 := n0_; have HB := n1_; clear n0_ n1_; (try clear hb); (try clear hb2); (try clear hk); (try clear hi); (try clear ho0); obtain ⟨Ao16, co16, eo16⟩ := Kd.R_slice HO415.out; subst eo16) | ((with_reducible refine gate_callee (f := 52) rfl ?_); refine goesL_ (some 18) rfl rfl Try.func52 (by kernel_rfl) rfl #[.slice Ao16 t413.length co16] rfl att20_0_1 ?_; (with_reducible refine (spec_FoldBody.calls k _ _ t413 t416 _ ?side1 ?side2 A5.out).mono ?_); (case side1 => repeat (first | exact (Kd.R_reads' HO415.out).2.2 | (with_reducible refine Kd.C_alloc ?_ _) | (with_reducible refine Kd.C_drewN ?_ _) | (with_reducible refine Kd.C_drew ?_))); (case side2 => exact (Kd.R_reads' HO415.out).2.1); rintro e w17 ⟨v417, rfl, ho0, hb⟩; refine ⟨_, rfl, ?_⟩; have n0_ := Aside0.mk (Kd.R_elder' att20_0_2 (Kd.R_base ho0) hb); have n1_ := Aside0.mk (Kd.R_lower (Kd.R_new' ho0 (Kd.R_lt att20_0_2)) (below_size att20_0_0)); have n2_ := Aside0.mk (below_step att20_0_0 hb); clear HO415; clear HB; have HO415 := n0_; have HO418 := n1_; have HB := n2_; clear n0_ n1_ n2_; (try clear hb); (try clear hb2); (try clear hk); (try clear hi); (try clear ho0)) | ((with_reducible refine gate_callee (f := 14) rfl ?_); refine goesL_ (some 20) rfl rfl Try.func14 (by kernel_rfl) rfl #[.slice A0 l0.length c0] rfl att20_0_1 ?_; (with_reducible refine (laws_toInsS.calls k _ _ l0 t419 _ ?side1 ?side2 A6.out).mono ?_); (case side1 => repeat (first | exact (Kd.C_below HR0.out HB.out) | (with_reducible refine Kd.C_alloc ?_ _) | (with_reducible refine Kd.C_drewN ?_ _) | (with_reducible refine Kd.C_drew ?_))); (case side2 => exact HC0.out); rintro e w18 ⟨v420, rfl, ho0, hb⟩; refine ⟨_, rfl, ?_⟩; have n0_ := Aside0.mk (Kd.R_elder' att20_0_2 (Kd.R_base ho0) hb); have n1_ := Aside0.mk (Kd.R_elder' att20_0_3 (Kd.R_base ho0) hb); have n2_ := Aside0.mk (Kd.R_lower (Kd.R_new' (Kd.R_new' ho0 (Kd.R_lt att20_0_2)) (Kd.R_lt att20_0_3)) (below_size att20_0_0)); have n3_ := Aside0.mk (below_step att20_0_0 hb); clear HO415; clear HO418; clear HB; have HO415 := n0_; have HO418 := n1_; have HO421 := n2_; have HB := n3_; clear n0_ n1_ n2_ n3_; (try clear hb); (try clear hb2); (try clear hk); (try clear hi); (try clear ho0); obtain ⟨Ao19, co19, eo19⟩ := Kd.R_slice HO421.out; subst eo19) | ((with_reducible refine gate_callee (f := 53) rfl ?_); refine goesL_ (some 22) rfl rfl Try.func53 (by kernel_rfl) rfl #[.slice Ao19 t419.length co19] rfl att20_0_1 ?_; (with_reducible refine (impl_FoldBody.calls k _ _ t419 t422 _ ?side1 ?side2 A7.out).mono ?_); (case side1 => repeat (first | exact (Kd.R_reads' HO421.out).2.2 | (with_reducible refine Kd.C_alloc ?_ _) | (with_reducible refine Kd.C_drewN ?_ _) | (with_reducible refine Kd.C_drew ?_))); (case side2 => exact (Kd.R_reads' HO421.out).2.1); rintro e w20 ⟨v423, rfl, ho0, hb⟩; refine ⟨_, rfl, ?_⟩; have n0_ := Aside0.mk (Kd.R_elder' att20_0_2 (Kd.R_base ho0) hb); have n1_ := Aside0.mk (Kd.R_elder' att20_0_3 (Kd.R_base ho0) hb); have n2_ := Aside0.mk (Kd.R_elder' att20_0_7 (Kd.R_base ho0) hb); have n3_ := Aside0.mk (Kd.R_lower (Kd.R_new' (Kd.R_new' (Kd.R_new' ho0 (Kd.R_lt att20_0_2)) (Kd.R_lt att20_0_3)) (Kd.R_lt att20_0_7)) (below_size att20_0_0)); have n4_ := Aside0.mk (below_step att20_0_0 hb); clear HO415; clear HO418; clear HO421; clear HB; have HO415 := n0_; have HO418 := n1_; have HO421 := n2_; have HO424 := n3_; have HB := n4_; clear n0_ n1_ n2_ n3_ n4_; (try clear hb); (try clear hb2); (try clear hk); (try clear hi); (try clear ho0); obtain ⟨Ao21, co21, eo21⟩ := Kd.R_slice HO424.out; subst eo21; obtain ⟨Ao22, co22, eo22⟩ := Kd.R_slice HO418.out; subst eo22) | ((with_reducible refine gate_callee (f := 16) rfl ?_); refine goesL_ (some 25) rfl rfl Try.func16 (by kernel_rfl) rfl #[.slice Ao21 t422.length co21, .slice Ao22 t416.length co22] rfl att20_0_1 ?_; (with_reducible refine (laws_eqInsS.calls k _ _ t422 _ _ t416 true _ ?side1 ?side2 ?side3 ?side4 A8.out).mono ?_); (case side1 => repeat (first | exact (Kd.R_reads' HO424.out).2.2 | (with_reducible refine Kd.C_alloc ?_ _) | (with_reducible refine Kd.C_drewN ?_ _) | (with_reducible refine Kd.C_drew ?_))); (case side2 => exact (Kd.R_reads' HO424.out).2.1); (case side3 => repeat (first | exact (Kd.R_reads' HO418.out).2.2 | (with_reducible refine Kd.C_alloc ?_ _) | (with_reducible refine Kd.C_drewN ?_ _) | (with_reducible refine Kd.C_drew ?_))); (case side4 => exact (Kd.R_reads' HO418.out).2.1); rintro e w23 ⟨rfl, hb⟩; refine ⟨_, rfl, ?_⟩; have n0_ := Aside0.mk (Kd.R_below att20_0_2 hb); have n1_ := Aside0.mk (Kd.R_below att20_0_3 hb); have n2_ := Aside0.mk (Kd.R_below att20_0_7 hb); have n3_ := Aside0.mk (Kd.R_below att20_0_9 hb); have n4_ := Aside0.mk (below_step att20_0_0 hb); clear HO415; clear HO418; clear HO421; clear HO424; clear HB; have HO415 := n0_; have HO418 := n1_; have HO421 := n2_; have HO424 := n3_; have HB := n4_; clear n0_ n1_ n2_ n3_ n4_; (try clear hb); (try clear hb2); (try clear hk); (try clear hi)) | ((with_reducible refine gate_callee (f := 14) rfl ?_); refine goesL_ (some 29) rfl rfl Try.func14 (by kernel_rfl) rfl #[.slice A0 l0.length c0] rfl att20_0_1 ?_; (with_reducible refine (laws_toInsS.calls k _ _ l0 t426 _ ?side1 ?side2 A10.out).mono ?_); (case side1 => repeat (first | exact (Kd.C_below HR0.out HB.out) | (with_reducible refine Kd.C_alloc ?_ _) | (with_reducible refine Kd.C_drewN ?_ _) | (with_reducible refine Kd.C_drew ?_))); (case side2 => exact HC0.out); rintro e w24 ⟨v427, rfl, ho0, hb⟩; refine ⟨_, rfl, ?_⟩; have n0_ := Aside0.mk (Kd.R_elder' att20_0_2 (Kd.R_base ho0) hb); have n1_ := Aside0.mk (Kd.R_elder' att20_0_3 (Kd.R_base ho0) hb); have n2_ := Aside0.mk (Kd.R_elder' att20_0_7 (Kd.R_base ho0) hb); have n3_ := Aside0.mk (Kd.R_elder' att20_0_9 (Kd.R_base ho0) hb); have n4_ := Aside0.mk (Kd.R_lower (Kd.R_new' (Kd.R_new' (Kd.R_new' (Kd.R_new' ho0 (Kd.R_lt att20_0_2)) (Kd.R_lt att20_0_3)) (Kd.R_lt att20_0_7)) (Kd.R_lt att20_0_9)) (below_size att20_0_0)); have n5_ := Aside0.mk (below_step att20_0_0 hb); clear HO415; clear HO418; clear HO421; clear HO424; clear HB; have HO415 := n0_; have HO418 := n1_; have HO421 := n2_; have HO424 := n3_; have HO428 := n4_; have HB := n5_; clear n0_ n1_ n2_ n3_ n4_ n5_; (try clear hb); (try clear hb2); (try clear hk); (try clear hi); (try clear ho0); obtain ⟨Ao25, co25, eo25⟩ := Kd.R_slice HO428.out; subst eo25) | ((with_reducible refine gate_callee (f := 16) rfl ?_); refine goesL_ (some 30) rfl rfl Try.func16 (by kernel_rfl) rfl #[.slice Ao19 t419.length co19, .slice Ao25 t426.length co25] rfl att20_0_1 ?_; (with_reducible refine (laws_eqInsS.calls k _ _ t419 _ _ t426 true _ ?side1 ?side2 ?side3 ?side4 A11.out).mono ?_); (case side1 => repeat (first | exact (Kd.R_reads' HO421.out).2.2 | (with_reducible refine Kd.C_alloc ?_ _) | (with_reducible refine Kd.C_drewN ?_ _) | (with_reducible refine Kd.C_drew ?_))); (case side2 => exact (Kd.R_reads' HO421.out).2.1); (case side3 => repeat (first | exact (Kd.R_reads' HO428.out).2.2 | (with_reducible refine Kd.C_alloc ?_ _) | (with_reducible refine Kd.C_drewN ?_ _) | (with_reducible refine Kd.C_drew ?_))); (case side4 => exact (Kd.R_reads' HO428.out).2.1); rintro e w26 ⟨rfl, hb⟩; refine ⟨_, rfl, ?_⟩; have n0_ := Aside0.mk (Kd.R_below att20_0_2 hb); have n1_ := Aside0.mk (Kd.R_below att20_0_3 hb); have n2_ := Aside0.mk (Kd.R_below att20_0_7 hb); have n3_ := Aside0.mk (Kd.R_below att20_0_9 hb); have n4_ := Aside0.mk (Kd.R_below att20_0_12 hb); have n5_ := Aside0.mk (below_step att20_0_0 hb); clear HO415; clear HO418; clear HO421; clear HO424; clear HO428; clear HB; have HO415 := n0_; have HO418 := n1_; have HO421 := n2_; have HO424 := n3_; have HO428 := n4_; have HB := n5_; clear n0_ n1_ n2_ n3_ n4_ n5_; (try clear hb); (try clear hb2); (try clear hk); (try clear hi)) | ((with_reducible refine gate_callee (f := 17) rfl ?_); refine goesL_ (some 34) rfl rfl Try.func17 (by kernel_rfl) rfl #[.slice Ao19 t419.length co19, .int .i64 1] rfl att20_0_1 ?_; (with_reducible refine (laws_markInsS.calls k (fun k_ => some k_ = (.slice Ao19 t419.length co19 : Value).ownBlock) (.slice Ao19 t419.length co19) t419 1 t430 t431 w _ ?side1 ?side2 A13.out).mono ?_); (case side1 => repeat (first | (with_reducible first | exact HB.out | apply below_alloc | apply pw_below_drewN | apply below_drew1) | exact HB.out)); (case side2 => exact Kd.R_tight rfl HO421.out); rintro e w27 ⟨rfl, hy0, hb, hkp⟩; refine ⟨_, rfl, ?_⟩; have n0_ := Aside0.mk (Kd.R_mono (ok' := fun k_ => some k_ ≠ (.slice Ao22 t416.length co22 : Value).ownBlock ∧ some k_ ≠ (.slice Ao19 t419.length co19 : Value).ownBlock ∧ some k_ ≠ (.slice Ao21 t422.length co21 : Value).ownBlock ∧ some k_ ≠ (.slice Ao25 t426.length co25 : Value).ownBlock) (Kd.R_keptB (HO415.out) hkp (fun k_ hk_ hs_ => (hk_.1.1.2) hs_)) (fun k_ hk_ => ⟨hk_.1.1.1.1.2, hk_.1.1.1.2, hk_.1.1.2, hk_.1.2⟩)); have n1_ := Aside0.mk (Kd.R_mono (ok' := fun k_ => some k_ ≠ (.slice Ao16 t413.length co16 : Value).ownBlock ∧ some k_ ≠ (.slice Ao19 t419.length co19 : Value).ownBlock ∧ some k_ ≠ (.slice Ao21 t422.length co21 : Value).ownBlock ∧ some k_ ≠ (.slice Ao25 t426.length co25 : Value).ownBlock) (Kd.R_keptB (HO418.out) hkp (fun k_ hk_ hs_ => (hk_.1.1.2) hs_)) (fun k_ hk_ => ⟨hk_.1.1.1.1.2, hk_.1.1.1.2, hk_.1.1.2, hk_.1.2⟩)); have n2_ := Aside0.mk (Kd.R_reok rfl hy0 (fun k_ e_ => HO421.out.1 k_ e_)); have n3_ := Aside0.mk (Kd.R_mono (ok' := fun k_ => some k_ ≠ (.slice Ao16 t413.length co16 : Value).ownBlock ∧ some k_ ≠ (.slice Ao22 t416.length co22 : Value).ownBlock ∧ some k_ ≠ (.slice Ao19 t419.length co19 : Value).ownBlock ∧ some k_ ≠ (.slice Ao25 t426.length co25 : Value).ownBlock) (Kd.R_keptB (HO424.out) hkp (fun k_ hk_ hs_ => (hk_.1.2) hs_)) (fun k_ hk_ => ⟨hk_.1.1.1.1.2, hk_.1.1.1.2, hk_.1.1.2, hk_.1.2⟩)); have n4_ := Aside0.mk (Kd.R_mono (ok' := fun k_ => some k_ ≠ (.slice Ao16 t413.length co16 : Value).ownBlock ∧ some k_ ≠ (.slice Ao22 t416.length co22 : Value).ownBlock ∧ some k_ ≠ (.slice Ao19 t419.length co19 : Value).ownBlock ∧ some k_ ≠ (.slice Ao21 t422.length co21 : Value).ownBlock) (Kd.R_keptB (HO428.out) hkp (fun k_ hk_ hs_ => (hk_.1.2) hs_)) (fun k_ hk_ => ⟨hk_.1.1.1.1.2, hk_.1.1.1.2, hk_.1.1.2, hk_.1.2⟩)); have n5_ := Aside0.mk (hb); clear HO415; clear HO418; clear HO421; clear HO424; clear HO428; clear HB; have HO415 := n0_; have HO418 := n1_; have HO421 := n2_; have HO424 := n3_; have HO428 := n4_; have HB := n5_; clear n0_ n1_ n2_ n3_ n4_ n5_; (try clear hb); (try clear hkp); (try clear hy0)))
    (try simp only [Act.put, List.setIfInBounds_toArray, List.set_cons_zero, List.set_cons_succ])
    go_cut [42] (fun v42 wc => ∃ (kq : Nat) (x42_13 : Bool), v42 = .bool x42_13 ∧ Aside0 (laws_FnExactFoldBody.j0 kq l0 t416 t422 x42_13 = some r) ∧ Aside0 (kq ≤ k) ∧ Aside0 (Kd.R k63 63 wc w.heap.size (fun k_ => some k_ ≠ ((.slice Ao21 t422.length co21) : Value).ownBlock) (.slice Ao22 t416.length co22) t416) ∧ Aside0 (Kd.R k63 63 wc w.heap.size (fun k_ => some k_ ≠ ((.slice Ao22 t416.length co22) : Value).ownBlock) (.slice Ao21 t422.length co21) t422) ∧ Aside0 (Below w.heap.size w wc))
    case first =>
     have H := HC14.out
     clear HC14
     by_cases c28 : t430 < 0
     ·rw [if_pos c28] at H
      have c28b0 : decide (t430 < 0) = true := decide_eq_true c28
      clear c28
      (first | rw [c28b0] | (simp only [i64_w, i32_w]; rw [c28b0]) | skip)
      have H' := Aside0.mk H
      clear H
      go_wp2
      go_meet
      case rel => exact ⟨_, (true), att20_0_18, H', ⟨by first | omega | exact Nat.le_refl _⟩, ⟨att20_0_16⟩, ⟨att20_0_17⟩, ⟨att20_0_0⟩⟩
     ·rw [if_neg c28] at H
      have c28b0 : decide (t430 < 0) = false := decide_eq_false c28
      clear c28
      (first | rw [c28b0] | (simp only [i64_w, i32_w]; rw [c28b0]) | skip)
      replace H := Option.bind_eq_some_iff.mp H
      obtain ⟨t432, A290, H⟩ := H
      (try dsimp only at H)
      have A29 := Aside0.mk A290
      clear A290
      have H' := Aside0.mk H
      clear H
      go_wp2_with (first | (go_at_call 16; (with_reducible refine (laws_eqInsS.calls k _ _ t422 _ _ t416 t432 _ ?side1 ?side2 ?side3 ?side4 A29.out).mono ?_); (case side1 => repeat (first | exact (Kd.R_reads' HO424.out).2.2 | (with_reducible refine Kd.C_alloc ?_ _) | (with_reducible refine Kd.C_drewN ?_ _) | (with_reducible refine Kd.C_drew ?_))); (case side2 => exact (Kd.R_reads' HO424.out).2.1); (case side3 => repeat (first | exact (Kd.R_reads' HO418.out).2.2 | (with_reducible refine Kd.C_alloc ?_ _) | (with_reducible refine Kd.C_drewN ?_ _) | (with_reducible refine Kd.C_drew ?_))); (case side4 => exact (Kd.R_reads' HO418.out).2.1); rintro e w30 ⟨rfl, hb⟩; have n0_ := Aside0.mk (Kd.R_below att20_0_2 hb); have n1_ := Aside0.mk (Kd.R_below att20_0_3 hb); have n2_ := Aside0.mk (Kd.R_below att20_0_7 hb); have n3_ := Aside0.mk (Kd.R_below att20_0_9 hb); have n4_ := Aside0.mk (Kd.R_below att20_0_12 hb); have n5_ := Aside0.mk (below_step att20_0_0 hb); clear HO415; clear HO418; clear HO421; clear HO424; clear HO428; clear HB; have HO415 := n0_; have HO418 := n1_; have HO421 := n2_; have HO424 := n3_; have HO428 := n4_; have HB := n5_; clear n0_ n1_ n2_ n3_ n4_ n5_; (try clear hb); (try clear hb2); (try clear hk); (try clear hi)))
      go_meet
      case rel => exact ⟨_, (!t432), att20_0_18, H', ⟨by first | omega | exact Nat.le_refl _⟩, ⟨att20_0_16⟩, ⟨att20_0_17⟩, ⟨att20_0_0⟩⟩
    case rest =>
     clear HC14
     try clear c1
     try clear c2
     try clear p2
     try clear c3
     try clear c3b0
     try clear c5
     try clear c9
     try clear c12
     try clear c14
     try clear c16
     try clear c17
     try clear c28
     try clear c28b0
     obtain ⟨kq, x42_13, rfl, HA, HJ13, HO_4, HO_6, HB⟩ := hcut
     cases kq with
     | zero => exact absurd HA.out (by simp [laws_FnExactFoldBody.j0])
     | succ kj13 =>
      have H := HA.out
      clear HA
      simp only [laws_FnExactFoldBody.j0] at H
      by_cases c31 : x42_13 = true
      ·subst c31
       rw [if_pos rfl] at H
       obtain rfl := Option.some.inj H
       go_wp2
       go_ret
       exact ⟨by first | rfl | (simp [errW_none, errW_some] <;> rfl) | (simp [*, errW_none, errW_some] <;> rfl), att20_0_0⟩
      ·replace c31 := Bool.eq_false_iff.mpr c31
       subst c31
       rw [if_neg (show ¬ (false = true) by decide)] at H
       replace H := Option.bind_eq_some_iff.mp H
       obtain ⟨⟨t433, t434⟩, A320, H⟩ := H
       (try dsimp only at H)
       have A32 := Aside0.mk A320
       clear A320
       replace H := Option.bind_eq_some_iff.mp H
       obtain ⟨t435, A330, H⟩ := H
       (try dsimp only at H)
       have A33 := Aside0.mk A330
       clear A330
       by_cases c34 : t435 < 0
       ·rw [if_pos c34] at H
        have c34b0 : decide (t435 < 0) = true := decide_eq_true c34
        clear c34
        obtain rfl := Option.some.inj H
        go_wp2_with (first | ((with_reducible refine gate_callee (f := 17) rfl ?_); refine goesL_ (some 45) rfl rfl Try.func17 (by kernel_rfl) rfl #[.slice Ao21 t422.length co21, .int .i64 1] rfl att20_0_1 ?_; (with_reducible refine (laws_markInsS.calls kj13 (fun k_ => some k_ = (.slice Ao21 t422.length co21 : Value).ownBlock) (.slice Ao21 t422.length co21) t422 1 t433 t434 w _ ?side1 ?side2 A32.out).mono ?_); (case side1 => repeat (first | (with_reducible first | exact HB.out | apply below_alloc | apply pw_below_drewN | apply below_drew1) | exact HB.out)); (case side2 => exact Kd.R_tight rfl HO_6.out); rintro e w35 ⟨rfl, hy0, hb, hkp⟩; refine ⟨_, rfl, ?_⟩; have n0_ := Aside0.mk (Kd.R_mono (ok' := fun k_ => some k_ ≠ (.slice Ao21 t422.length co21 : Value).ownBlock) (Kd.R_keptB (HO_4.out) hkp (fun k_ hk_ hs_ => (hk_) hs_)) (fun k_ hk_ => hk_.1)); have n1_ := Aside0.mk (Kd.R_reok rfl hy0 (fun k_ e_ => HO_6.out.1 k_ e_)); have n2_ := Aside0.mk (hb); clear HO_4; clear HO_6; clear HB; have HO_4 := n0_; have HO_6 := n1_; have HB := n2_; clear n0_ n1_ n2_; (try clear hb); (try clear hkp); (try clear hy0)) | ((with_reducible refine gate_callee (f := 18) rfl ?_); refine goesL_ (some 48) rfl rfl Try.func18 (by kernel_rfl) rfl #[.slice Ao21 t434.length co21, .int .i64 1] rfl att20_0_6 ?_; (with_reducible refine (laws_heldInsS.calls kj13 _ _ t434 1 t435 _ ?side1 ?side2 A33.out).mono ?_); (case side1 => repeat (first | exact (Kd.R_reads' HO_6.out).2.2 | (with_reducible refine Kd.C_alloc ?_ _) | (with_reducible refine Kd.C_drewN ?_ _) | (with_reducible refine Kd.C_drew ?_))); (case side2 => rw [show t434.length = t422.length from (Kd.R_reads' HO_6.out).1.symm]; exact (Kd.R_reads' HO_6.out).2.1); rintro e w' ⟨rfl, ⟨nd, rfl⟩⟩; refine ⟨_, rfl, ?_⟩))
        go_ret
        exact ⟨by first | rfl | (simp [errW_none, errW_some] <;> rfl) | (simp [*, errW_none, errW_some] <;> rfl), att20_0_0⟩
       ·rw [if_neg c34] at H
        have c34b0 : decide (t435 < 0) = false := decide_eq_false c34
        clear c34
        by_cases c36 : t435 = t433
        ·rw [if_pos c36] at H
         have c36b0 : (t435 == t433) = true := beq_iff_eq.mpr c36
         have c36b1 : (t435 != t433) = false := bne_eq_false_iff_eq.mpr c36
         clear c36
         replace H := Option.bind_eq_some_iff.mp H
         obtain ⟨t436, A370, H⟩ := H
         (try dsimp only at H)
         have A37 := Aside0.mk A370
         clear A370
         replace H := Option.bind_eq_some_iff.mp H
         obtain ⟨t439, A380, H⟩ := H
         (try dsimp only at H)
         have A38 := Aside0.mk A380
         clear A380
         replace H := Option.bind_eq_some_iff.mp H
         obtain ⟨t442, A390, H⟩ := H
         (try dsimp only at H)
         have A39 := Aside0.mk A390
         clear A390
         by_cases c40 : t442 = true
         ·subst c40
          rw [if_pos rfl] at H
          replace H := Option.bind_eq_some_iff.mp H
          obtain ⟨t443, A410, H⟩ := H
          (try dsimp only at H)
          have A41 := Aside0.mk A410
          clear A410
          by_cases c42 : t443 < 0
          ·rw [if_pos c42] at H
           have c42b0 : decide (t443 < 0) = true := decide_eq_true c42
           clear c42
           obtain rfl := Option.some.inj H
           go_wp2_with (first | ((with_reducible refine gate_callee (f := 17) rfl ?_); refine goesL_ (some 45) rfl rfl Try.func17 (by kernel_rfl) rfl #[.slice Ao21 t422.length co21, .int .i64 1] rfl att20_0_1 ?_; (with_reducible refine (laws_markInsS.calls kj13 (fun k_ => some k_ = (.slice Ao21 t422.length co21 : Value).ownBlock) (.slice Ao21 t422.length co21) t422 1 t433 t434 w _ ?side1 ?side2 A32.out).mono ?_); (case side1 => repeat (first | (with_reducible first | exact HB.out | apply below_alloc | apply pw_below_drewN | apply below_drew1) | exact HB.out)); (case side2 => exact Kd.R_tight rfl HO_6.out); rintro e w43 ⟨rfl, hy0, hb, hkp⟩; refine ⟨_, rfl, ?_⟩; have n0_ := Aside0.mk (Kd.R_mono (ok' := fun k_ => some k_ ≠ (.slice Ao21 t422.length co21 : Value).ownBlock) (Kd.R_keptB (HO_4.out) hkp (fun k_ hk_ hs_ => (hk_) hs_)) (fun k_ hk_ => hk_.1)); have n1_ := Aside0.mk (Kd.R_reok rfl hy0 (fun k_ e_ => HO_6.out.1 k_ e_)); have n2_ := Aside0.mk (hb); clear HO_4; clear HO_6; clear HB; have HO_4 := n0_; have HO_6 := n1_; have HB := n2_; clear n0_ n1_ n2_; (try clear hb); (try clear hkp); (try clear hy0)) | ((with_reducible refine gate_callee (f := 18) rfl ?_); refine goesL_ (some 48) rfl rfl Try.func18 (by kernel_rfl) rfl #[.slice Ao21 t434.length co21, .int .i64 1] rfl att20_0_6 ?_; (with_reducible refine (laws_heldInsS.calls kj13 _ _ t434 1 t435 _ ?side1 ?side2 A33.out).mono ?_); (case side1 => repeat (first | exact (Kd.R_reads' HO_6.out).2.2 | (with_reducible refine Kd.C_alloc ?_ _) | (with_reducible refine Kd.C_drewN ?_ _) | (with_reducible refine Kd.C_drew ?_))); (case side2 => rw [show t434.length = t422.length from (Kd.R_reads' HO_6.out).1.symm]; exact (Kd.R_reads' HO_6.out).2.1); rintro e w' ⟨rfl, ⟨nd, rfl⟩⟩; refine ⟨_, rfl, ?_⟩) | ((with_reducible refine gate_callee (f := 14) rfl ?_); refine goesL_ (some 55) rfl rfl Try.func14 (by kernel_rfl) rfl #[.slice A0 l0.length c0] rfl att20_0_1 ?_; (with_reducible refine (laws_toInsS.calls kj13 _ _ l0 t436 _ ?side1 ?side2 A37.out).mono ?_); (case side1 => repeat (first | exact (Kd.C_below HR0.out att20_0_0) | (with_reducible refine Kd.C_alloc ?_ _) | (with_reducible refine Kd.C_drewN ?_ _) | (with_reducible refine Kd.C_drew ?_))); (case side2 => exact HC0.out); rintro e w44 ⟨v437, rfl, ho0, hb⟩; refine ⟨_, rfl, ?_⟩; have n0_ := Aside0.mk (Kd.R_elder' att20_0_5 (Kd.R_base ho0) hb); have n1_ := Aside0.mk (Kd.R_elder' att20_0_4 (Kd.R_base ho0) hb); have n2_ := Aside0.mk (Kd.R_lower (Kd.R_new' (Kd.R_new' ho0 (Kd.R_lt att20_0_5)) (Kd.R_lt att20_0_4)) (below_size att20_0_0)); have n3_ := Aside0.mk (below_step att20_0_0 hb); clear HO_4; clear HO_6; clear HB; have HO_4 := n0_; have HO_6 := n1_; have HO438 := n2_; have HB := n3_; clear n0_ n1_ n2_ n3_; (try clear hb); (try clear hb2); (try clear hk); (try clear hi); (try clear ho0); obtain ⟨Ao45, co45, eo45⟩ := Kd.R_slice HO438.out; subst eo45) | ((with_reducible refine gate_callee (f := 53) rfl ?_); refine goesL_ (some 56) rfl rfl Try.func53 (by kernel_rfl) rfl #[.slice Ao45 t436.length co45] rfl att20_0_1 ?_; (with_reducible refine (impl_FoldBody.calls kj13 _ _ t436 t439 _ ?side1 ?side2 A38.out).mono ?_); (case side1 => repeat (first | exact (Kd.R_reads' HO438.out).2.2 | (with_reducible refine Kd.C_alloc ?_ _) | (with_reducible refine Kd.C_drewN ?_ _) | (with_reducible refine Kd.C_drew ?_))); (case side2 => exact (Kd.R_reads' HO438.out).2.1); rintro e w46 ⟨v440, rfl, ho0, hb⟩; refine ⟨_, rfl, ?_⟩; have n0_ := Aside0.mk (Kd.R_elder' att20_0_5 (Kd.R_base ho0) hb); have n1_ := Aside0.mk (Kd.R_elder' att20_0_4 (Kd.R_base ho0) hb); have n2_ := Aside0.mk (Kd.R_elder' att20_0_8 (Kd.R_base ho0) hb); have n3_ := Aside0.mk (Kd.R_lower (Kd.R_new' (Kd.R_new' (Kd.R_new' ho0 (Kd.R_lt att20_0_5)) (Kd.R_lt att20_0_4)) (Kd.R_lt att20_0_8)) (below_size att20_0_0)); have n4_ := Aside0.mk (below_step att20_0_0 hb); clear HO_4; clear HO_6; clear HO438; clear HB; have HO_4 := n0_; have HO_6 := n1_; have HO438 := n2_; have HO441 := n3_; have HB := n4_; clear n0_ n1_ n2_ n3_ n4_; (try clear hb); (try clear hb2); (try clear hk); (try clear hi); (try clear ho0); obtain ⟨Ao47, co47, eo47⟩ := Kd.R_slice HO441.out; subst eo47) | ((with_reducible refine gate_callee (f := 16) rfl ?_); refine goesL_ (some 59) rfl rfl Try.func16 (by kernel_rfl) rfl #[.slice Ao47 t439.length co47, .slice Ao22 t416.length co22] rfl att20_0_1 ?_; (with_reducible refine (laws_eqInsS.calls kj13 _ _ t439 _ _ t416 true _ ?side1 ?side2 ?side3 ?side4 A39.out).mono ?_); (case side1 => repeat (first | exact (Kd.R_reads' HO441.out).2.2 | (with_reducible refine Kd.C_alloc ?_ _) | (with_reducible refine Kd.C_drewN ?_ _) | (with_reducible refine Kd.C_drew ?_))); (case side2 => exact (Kd.R_reads' HO441.out).2.1); (case side3 => repeat (first | exact (Kd.R_reads' HO_4.out).2.2 | (with_reducible refine Kd.C_alloc ?_ _) | (with_reducible refine Kd.C_drewN ?_ _) | (with_reducible refine Kd.C_drew ?_))); (case side4 => exact (Kd.R_reads' HO_4.out).2.1); rintro e w48 ⟨rfl, hb⟩; refine ⟨_, rfl, ?_⟩; have n0_ := Aside0.mk (Kd.R_below att20_0_5 hb); have n1_ := Aside0.mk (Kd.R_below att20_0_4 hb); have n2_ := Aside0.mk (Kd.R_below att20_0_8 hb); have n3_ := Aside0.mk (Kd.R_below att20_0_11 hb); have n4_ := Aside0.mk (below_step att20_0_0 hb); clear HO_4; clear HO_6; clear HO438; clear HO441; clear HB; have HO_4 := n0_; have HO_6 := n1_; have HO438 := n2_; have HO441 := n3_; have HB := n4_; clear n0_ n1_ n2_ n3_ n4_; (try clear hb); (try clear hb2); (try clear hk); (try clear hi)) | ((with_reducible refine gate_callee (f := 18) rfl ?_); refine goesL_ (some 63) rfl rfl Try.func18 (by kernel_rfl) rfl #[.slice Ao21 t434.length co21, .int .i64 1] rfl att20_0_6 ?_; (with_reducible refine (laws_heldInsS.calls kj13 _ _ t434 1 t443 _ ?side1 ?side2 A41.out).mono ?_); (case side1 => repeat (first | exact (Kd.R_reads' HO_6.out).2.2 | (with_reducible refine Kd.C_alloc ?_ _) | (with_reducible refine Kd.C_drewN ?_ _) | (with_reducible refine Kd.C_drew ?_))); (case side2 => rw [show t434.length = t422.length from (Kd.R_reads' HO_6.out).1.symm]; exact (Kd.R_reads' HO_6.out).2.1); rintro e w' ⟨rfl, ⟨nd, rfl⟩⟩; refine ⟨_, rfl, ?_⟩))
           go_ret
           exact ⟨by first | rfl | (simp [errW_none, errW_some] <;> rfl) | (simp [*, errW_none, errW_some] <;> rfl), att20_0_0⟩
          ·rw [if_neg c42] at H
           have c42b0 : decide (t443 < 0) = false := decide_eq_false c42
           clear c42
           by_cases c49 : t443 = t433
           ·rw [if_pos c49] at H
            have c49b0 : (t443 == t433) = true := beq_iff_eq.mpr c49
            have c49b1 : (t443 != t433) = false := bne_eq_false_iff_eq.mpr c49
            clear c49
            obtain rfl := Option.some.inj H
            go_wp2_with (first | ((with_reducible refine gate_callee (f := 17) rfl ?_); refine goesL_ (some 45) rfl rfl Try.func17 (by kernel_rfl) rfl #[.slice Ao21 t422.length co21, .int .i64 1] rfl att20_0_1 ?_; (with_reducible refine (laws_markInsS.calls kj13 (fun k_ => some k_ = (.slice Ao21 t422.length co21 : Value).ownBlock) (.slice Ao21 t422.length co21) t422 1 t433 t434 w _ ?side1 ?side2 A32.out).mono ?_); (case side1 => repeat (first | (with_reducible first | exact HB.out | apply below_alloc | apply pw_below_drewN | apply below_drew1) | exact HB.out)); (case side2 => exact Kd.R_tight rfl HO_6.out); rintro e w50 ⟨rfl, hy0, hb, hkp⟩; refine ⟨_, rfl, ?_⟩; have n0_ := Aside0.mk (Kd.R_mono (ok' := fun k_ => some k_ ≠ (.slice Ao21 t422.length co21 : Value).ownBlock) (Kd.R_keptB (HO_4.out) hkp (fun k_ hk_ hs_ => (hk_) hs_)) (fun k_ hk_ => hk_.1)); have n1_ := Aside0.mk (Kd.R_reok rfl hy0 (fun k_ e_ => HO_6.out.1 k_ e_)); have n2_ := Aside0.mk (hb); clear HO_4; clear HO_6; clear HB; have HO_4 := n0_; have HO_6 := n1_; have HB := n2_; clear n0_ n1_ n2_; (try clear hb); (try clear hkp); (try clear hy0)) | ((with_reducible refine gate_callee (f := 18) rfl ?_); refine goesL_ (some 48) rfl rfl Try.func18 (by kernel_rfl) rfl #[.slice Ao21 t434.length co21, .int .i64 1] rfl att20_0_6 ?_; (with_reducible refine (laws_heldInsS.calls kj13 _ _ t434 1 t435 _ ?side1 ?side2 A33.out).mono ?_); (case side1 => repeat (first | exact (Kd.R_reads' HO_6.out).2.2 | (with_reducible refine Kd.C_alloc ?_ _) | (with_reducible refine Kd.C_drewN ?_ _) | (with_reducible refine Kd.C_drew ?_))); (case side2 => rw [show t434.length = t422.length from (Kd.R_reads' HO_6.out).1.symm]; exact (Kd.R_reads' HO_6.out).2.1); rintro e w' ⟨rfl, ⟨nd, rfl⟩⟩; refine ⟨_, rfl, ?_⟩) | ((with_reducible refine gate_callee (f := 14) rfl ?_); refine goesL_ (some 55) rfl rfl Try.func14 (by kernel_rfl) rfl #[.slice A0 l0.length c0] rfl att20_0_1 ?_; (with_reducible refine (laws_toInsS.calls kj13 _ _ l0 t436 _ ?side1 ?side2 A37.out).mono ?_); (case side1 => repeat (first | exact (Kd.C_below HR0.out att20_0_0) | (with_reducible refine Kd.C_alloc ?_ _) | (with_reducible refine Kd.C_drewN ?_ _) | (with_reducible refine Kd.C_drew ?_))); (case side2 => exact HC0.out); rintro e w51 ⟨v437, rfl, ho0, hb⟩; refine ⟨_, rfl, ?_⟩; have n0_ := Aside0.mk (Kd.R_elder' att20_0_5 (Kd.R_base ho0) hb); have n1_ := Aside0.mk (Kd.R_elder' att20_0_4 (Kd.R_base ho0) hb); have n2_ := Aside0.mk (Kd.R_lower (Kd.R_new' (Kd.R_new' ho0 (Kd.R_lt att20_0_5)) (Kd.R_lt att20_0_4)) (below_size att20_0_0)); have n3_ := Aside0.mk (below_step att20_0_0 hb); clear HO_4; clear HO_6; clear HB; have HO_4 := n0_; have HO_6 := n1_; have HO438 := n2_; have HB := n3_; clear n0_ n1_ n2_ n3_; (try clear hb); (try clear hb2); (try clear hk); (try clear hi); (try clear ho0); obtain ⟨Ao52, co52, eo52⟩ := Kd.R_slice HO438.out; subst eo52) | ((with_reducible refine gate_callee (f := 53) rfl ?_); refine goesL_ (some 56) rfl rfl Try.func53 (by kernel_rfl) rfl #[.slice Ao52 t436.length co52] rfl att20_0_1 ?_; (with_reducible refine (impl_FoldBody.calls kj13 _ _ t436 t439 _ ?side1 ?side2 A38.out).mono ?_); (case side1 => repeat (first | exact (Kd.R_reads' HO438.out).2.2 | (with_reducible refine Kd.C_alloc ?_ _) | (with_reducible refine Kd.C_drewN ?_ _) | (with_reducible refine Kd.C_drew ?_))); (case side2 => exact (Kd.R_reads' HO438.out).2.1); rintro e w53 ⟨v440, rfl, ho0, hb⟩; refine ⟨_, rfl, ?_⟩; have n0_ := Aside0.mk (Kd.R_elder' att20_0_5 (Kd.R_base ho0) hb); have n1_ := Aside0.mk (Kd.R_elder' att20_0_4 (Kd.R_base ho0) hb); have n2_ := Aside0.mk (Kd.R_elder' att20_0_8 (Kd.R_base ho0) hb); have n3_ := Aside0.mk (Kd.R_lower (Kd.R_new' (Kd.R_new' (Kd.R_new' ho0 (Kd.R_lt att20_0_5)) (Kd.R_lt att20_0_4)) (Kd.R_lt att20_0_8)) (below_size att20_0_0)); have n4_ := Aside0.mk (below_step att20_0_0 hb); clear HO_4; clear HO_6; clear HO438; clear HB; have HO_4 := n0_; have HO_6 := n1_; have HO438 := n2_; have HO441 := n3_; have HB := n4_; clear n0_ n1_ n2_ n3_ n4_; (try clear hb); (try clear hb2); (try clear hk); (try clear hi); (try clear ho0); obtain ⟨Ao54, co54, eo54⟩ := Kd.R_slice HO441.out; subst eo54) | ((with_reducible refine gate_callee (f := 16) rfl ?_); refine goesL_ (some 59) rfl rfl Try.func16 (by kernel_rfl) rfl #[.slice Ao54 t439.length co54, .slice Ao22 t416.length co22] rfl att20_0_1 ?_; (with_reducible refine (laws_eqInsS.calls kj13 _ _ t439 _ _ t416 true _ ?side1 ?side2 ?side3 ?side4 A39.out).mono ?_); (case side1 => repeat (first | exact (Kd.R_reads' HO441.out).2.2 | (with_reducible refine Kd.C_alloc ?_ _) | (with_reducible refine Kd.C_drewN ?_ _) | (with_reducible refine Kd.C_drew ?_))); (case side2 => exact (Kd.R_reads' HO441.out).2.1); (case side3 => repeat (first | exact (Kd.R_reads' HO_4.out).2.2 | (with_reducible refine Kd.C_alloc ?_ _) | (with_reducible refine Kd.C_drewN ?_ _) | (with_reducible refine Kd.C_drew ?_))); (case side4 => exact (Kd.R_reads' HO_4.out).2.1); rintro e w55 ⟨rfl, hb⟩; refine ⟨_, rfl, ?_⟩; have n0_ := Aside0.mk (Kd.R_below att20_0_5 hb); have n1_ := Aside0.mk (Kd.R_below att20_0_4 hb); have n2_ := Aside0.mk (Kd.R_below att20_0_8 hb); have n3_ := Aside0.mk (Kd.R_below att20_0_11 hb); have n4_ := Aside0.mk (below_step att20_0_0 hb); clear HO_4; clear HO_6; clear HO438; clear HO441; clear HB; have HO_4 := n0_; have HO_6 := n1_; have HO438 := n2_; have HO441 := n3_; have HB := n4_; clear n0_ n1_ n2_ n3_ n4_; (try clear hb); (try clear hb2); (try clear hk); (try clear hi)) | ((with_reducible refine gate_callee (f := 18) rfl ?_); refine goesL_ (some 63) rfl rfl Try.func18 (by kernel_rfl) rfl #[.slice Ao21 t434.length co21, .int .i64 1] rfl att20_0_6 ?_; (with_reducible refine (laws_heldInsS.calls kj13 _ _ t434 1 t443 _ ?side1 ?side2 A41.out).mono ?_); (case side1 => repeat (first | exact (Kd.R_reads' HO_6.out).2.2 | (with_reducible refine Kd.C_alloc ?_ _) | (with_reducible refine Kd.C_drewN ?_ _) | (with_reducible refine Kd.C_drew ?_))); (case side2 => rw [show t434.length = t422.length from (Kd.R_reads' HO_6.out).1.symm]; exact (Kd.R_reads' HO_6.out).2.1); rintro e w' ⟨rfl, ⟨nd, rfl⟩⟩; refine ⟨_, rfl, ?_⟩))
            go_ret
            exact ⟨by first | rfl | (simp [errW_none, errW_some] <;> rfl) | (simp [*, errW_none, errW_some] <;> rfl), att20_0_0⟩
           ·rw [if_neg c49] at H
            have c49b0 : (t443 == t433) = false := beq_eq_false_iff_ne.mpr c49
            have c49b1 : (t443 != t433) = true := bne_iff_ne.mpr c49
            obtain rfl := Option.some.inj H
            go_wp2_with (first | ((with_reducible refine gate_callee (f := 17) rfl ?_); refine goesL_ (some 45) rfl rfl Try.func17 (by kernel_rfl) rfl #[.slice Ao21 t422.length co21, .int .i64 1] rfl att20_0_1 ?_; (with_reducible refine (laws_markInsS.calls kj13 (fun k_ => some k_ = (.slice Ao21 t422.length co21 : Value).ownBlock) (.slice Ao21 t422.length co21) t422 1 t433 t434 w _ ?side1 ?side2 A32.out).mono ?_); (case side1 => repeat (first | (with_reducible first | exact HB.out | apply below_alloc | apply pw_below_drewN | apply below_drew1) | exact HB.out)); (case side2 => exact Kd.R_tight rfl HO_6.out); rintro e w56 ⟨rfl, hy0, hb, hkp⟩; refine ⟨_, rfl, ?_⟩; have n0_ := Aside0.mk (Kd.R_mono (ok' := fun k_ => some k_ ≠ (.slice Ao21 t422.length co21 : Value).ownBlock) (Kd.R_keptB (HO_4.out) hkp (fun k_ hk_ hs_ => (hk_) hs_)) (fun k_ hk_ => hk_.1)); have n1_ := Aside0.mk (Kd.R_reok rfl hy0 (fun k_ e_ => HO_6.out.1 k_ e_)); have n2_ := Aside0.mk (hb); clear HO_4; clear HO_6; clear HB; have HO_4 := n0_; have HO_6 := n1_; have HB := n2_; clear n0_ n1_ n2_; (try clear hb); (try clear hkp); (try clear hy0)) | ((with_reducible refine gate_callee (f := 18) rfl ?_); refine goesL_ (some 48) rfl rfl Try.func18 (by kernel_rfl) rfl #[.slice Ao21 t434.length co21, .int .i64 1] rfl att20_0_6 ?_; (with_reducible refine (laws_heldInsS.calls kj13 _ _ t434 1 t435 _ ?side1 ?side2 A33.out).mono ?_); (case side1 => repeat (first | exact (Kd.R_reads' HO_6.out).2.2 | (with_reducible refine Kd.C_alloc ?_ _) | (with_reducible refine Kd.C_drewN ?_ _) | (with_reducible refine Kd.C_drew ?_))); (case side2 => rw [show t434.length = t422.length from (Kd.R_reads' HO_6.out).1.symm]; exact (Kd.R_reads' HO_6.out).2.1); rintro e w' ⟨rfl, ⟨nd, rfl⟩⟩; refine ⟨_, rfl, ?_⟩) | ((with_reducible refine gate_callee (f := 14) rfl ?_); refine goesL_ (some 55) rfl rfl Try.func14 (by kernel_rfl) rfl #[.slice A0 l0.length c0] rfl att20_0_1 ?_; (with_reducible refine (laws_toInsS.calls kj13 _ _ l0 t436 _ ?side1 ?side2 A37.out).mono ?_); (case side1 => repeat (first | exact (Kd.C_below HR0.out att20_0_0) | (with_reducible refine Kd.C_alloc ?_ _) | (with_reducible refine Kd.C_drewN ?_ _) | (with_reducible refine Kd.C_drew ?_))); (case side2 => exact HC0.out); rintro e w57 ⟨v437, rfl, ho0, hb⟩; refine ⟨_, rfl, ?_⟩; have n0_ := Aside0.mk (Kd.R_elder' att20_0_5 (Kd.R_base ho0) hb); have n1_ := Aside0.mk (Kd.R_elder' att20_0_4 (Kd.R_base ho0) hb); have n2_ := Aside0.mk (Kd.R_lower (Kd.R_new' (Kd.R_new' ho0 (Kd.R_lt att20_0_5)) (Kd.R_lt att20_0_4)) (below_size att20_0_0)); have n3_ := Aside0.mk (below_step att20_0_0 hb); clear HO_4; clear HO_6; clear HB; have HO_4 := n0_; have HO_6 := n1_; have HO438 := n2_; have HB := n3_; clear n0_ n1_ n2_ n3_; (try clear hb); (try clear hb2); (try clear hk); (try clear hi); (try clear ho0); obtain ⟨Ao58, co58, eo58⟩ := Kd.R_slice HO438.out; subst eo58) | ((with_reducible refine gate_callee (f := 53) rfl ?_); refine goesL_ (some 56) rfl rfl Try.func53 (by kernel_rfl) rfl #[.slice Ao58 t436.length co58] rfl att20_0_1 ?_; (with_reducible refine (impl_FoldBody.calls kj13 _ _ t436 t439 _ ?side1 ?side2 A38.out).mono ?_); (case side1 => repeat (first | exact (Kd.R_reads' HO438.out).2.2 | (with_reducible refine Kd.C_alloc ?_ _) | (with_reducible refine Kd.C_drewN ?_ _) | (with_reducible refine Kd.C_drew ?_))); (case side2 => exact (Kd.R_reads' HO438.out).2.1); rintro e w59 ⟨v440, rfl, ho0, hb⟩; refine ⟨_, rfl, ?_⟩; have n0_ := Aside0.mk (Kd.R_elder' att20_0_5 (Kd.R_base ho0) hb); have n1_ := Aside0.mk (Kd.R_elder' att20_0_4 (Kd.R_base ho0) hb); have n2_ := Aside0.mk (Kd.R_elder' att20_0_8 (Kd.R_base ho0) hb); have n3_ := Aside0.mk (Kd.R_lower (Kd.R_new' (Kd.R_new' (Kd.R_new' ho0 (Kd.R_lt att20_0_5)) (Kd.R_lt att20_0_4)) (Kd.R_lt att20_0_8)) (below_size att20_0_0)); have n4_ := Aside0.mk (below_step att20_0_0 hb); clear HO_4; clear HO_6; clear HO438; clear HB; have HO_4 := n0_; have HO_6 := n1_; have HO438 := n2_; have HO441 := n3_; have HB := n4_; clear n0_ n1_ n2_ n3_ n4_; (try clear hb); (try clear hb2); (try clear hk); (try clear hi); (try clear ho0); obtain ⟨Ao60, co60, eo60⟩ := Kd.R_slice HO441.out; subst eo60) | ((with_reducible refine gate_callee (f := 16) rfl ?_); refine goesL_ (some 59) rfl rfl Try.func16 (by kernel_rfl) rfl #[.slice Ao60 t439.length co60, .slice Ao22 t416.length co22] rfl att20_0_1 ?_; (with_reducible refine (laws_eqInsS.calls kj13 _ _ t439 _ _ t416 true _ ?side1 ?side2 ?side3 ?side4 A39.out).mono ?_); (case side1 => repeat (first | exact (Kd.R_reads' HO441.out).2.2 | (with_reducible refine Kd.C_alloc ?_ _) | (with_reducible refine Kd.C_drewN ?_ _) | (with_reducible refine Kd.C_drew ?_))); (case side2 => exact (Kd.R_reads' HO441.out).2.1); (case side3 => repeat (first | exact (Kd.R_reads' HO_4.out).2.2 | (with_reducible refine Kd.C_alloc ?_ _) | (with_reducible refine Kd.C_drewN ?_ _) | (with_reducible refine Kd.C_drew ?_))); (case side4 => exact (Kd.R_reads' HO_4.out).2.1); rintro e w61 ⟨rfl, hb⟩; refine ⟨_, rfl, ?_⟩; have n0_ := Aside0.mk (Kd.R_below att20_0_5 hb); have n1_ := Aside0.mk (Kd.R_below att20_0_4 hb); have n2_ := Aside0.mk (Kd.R_below att20_0_8 hb); have n3_ := Aside0.mk (Kd.R_below att20_0_11 hb); have n4_ := Aside0.mk (below_step att20_0_0 hb); clear HO_4; clear HO_6; clear HO438; clear HO441; clear HB; have HO_4 := n0_; have HO_6 := n1_; have HO438 := n2_; have HO441 := n3_; have HB := n4_; clear n0_ n1_ n2_ n3_ n4_; (try clear hb); (try clear hb2); (try clear hk); (try clear hi)) | ((with_reducible refine gate_callee (f := 18) rfl ?_); refine goesL_ (some 63) rfl rfl Try.func18 (by kernel_rfl) rfl #[.slice Ao21 t434.length co21, .int .i64 1] rfl att20_0_6 ?_; (with_reducible refine (laws_heldInsS.calls kj13 _ _ t434 1 t443 _ ?side1 ?side2 A41.out).mono ?_); (case side1 => repeat (first | exact (Kd.R_reads' HO_6.out).2.2 | (with_reducible refine Kd.C_alloc ?_ _) | (with_reducible refine Kd.C_drewN ?_ _) | (with_reducible refine Kd.C_drew ?_))); (case side2 => rw [show t434.length = t422.length from (Kd.R_reads' HO_6.out).1.symm]; exact (Kd.R_reads' HO_6.out).2.1); rintro e w' ⟨rfl, ⟨nd, rfl⟩⟩; refine ⟨_, rfl, ?_⟩))
            go_ret
            exact ⟨by first | rfl | (simp [errW_none, errW_some] <;> rfl) | (simp [*, errW_none, errW_some] <;> rfl), att20_0_0⟩
         ·replace c40 := Bool.eq_false_iff.mpr c40
          subst c40
          rw [if_neg (show ¬ (false = true) by decide)] at H
          obtain rfl := Option.some.inj H
          go_wp2_with (first | ((with_reducible refine gate_callee (f := 17) rfl ?_); refine goesL_ (some 45) rfl rfl Try.func17 (by kernel_rfl) rfl #[.slice Ao21 t422.length co21, .int .i64 1] rfl att20_0_1 ?_; (with_reducible refine (laws_markInsS.calls kj13 (fun k_ => some k_ = (.slice Ao21 t422.length co21 : Value).ownBlock) (.slice Ao21 t422.length co21) t422 1 t433 t434 w _ ?side1 ?side2 A32.out).mono ?_); (case side1 => repeat (first | (with_reducible first | exact HB.out | apply below_alloc | apply pw_below_drewN | apply below_drew1) | exact HB.out)); (case side2 => exact Kd.R_tight rfl HO_6.out); rintro e w62 ⟨rfl, hy0, hb, hkp⟩; refine ⟨_, rfl, ?_⟩; have n0_ := Aside0.mk (Kd.R_mono (ok' := fun k_ => some k_ ≠ (.slice Ao21 t422.length co21 : Value).ownBlock) (Kd.R_keptB (HO_4.out) hkp (fun k_ hk_ hs_ => (hk_) hs_)) (fun k_ hk_ => hk_.1)); have n1_ := Aside0.mk (Kd.R_reok rfl hy0 (fun k_ e_ => HO_6.out.1 k_ e_)); have n2_ := Aside0.mk (hb); clear HO_4; clear HO_6; clear HB; have HO_4 := n0_; have HO_6 := n1_; have HB := n2_; clear n0_ n1_ n2_; (try clear hb); (try clear hkp); (try clear hy0)) | ((with_reducible refine gate_callee (f := 18) rfl ?_); refine goesL_ (some 48) rfl rfl Try.func18 (by kernel_rfl) rfl #[.slice Ao21 t434.length co21, .int .i64 1] rfl att20_0_6 ?_; (with_reducible refine (laws_heldInsS.calls kj13 _ _ t434 1 t435 _ ?side1 ?side2 A33.out).mono ?_); (case side1 => repeat (first | exact (Kd.R_reads' HO_6.out).2.2 | (with_reducible refine Kd.C_alloc ?_ _) | (with_reducible refine Kd.C_drewN ?_ _) | (with_reducible refine Kd.C_drew ?_))); (case side2 => rw [show t434.length = t422.length from (Kd.R_reads' HO_6.out).1.symm]; exact (Kd.R_reads' HO_6.out).2.1); rintro e w' ⟨rfl, ⟨nd, rfl⟩⟩; refine ⟨_, rfl, ?_⟩) | ((with_reducible refine gate_callee (f := 14) rfl ?_); refine goesL_ (some 55) rfl rfl Try.func14 (by kernel_rfl) rfl #[.slice A0 l0.length c0] rfl att20_0_1 ?_; (with_reducible refine (laws_toInsS.calls kj13 _ _ l0 t436 _ ?side1 ?side2 A37.out).mono ?_); (case side1 => repeat (first | exact (Kd.C_below HR0.out att20_0_0) | (with_reducible refine Kd.C_alloc ?_ _) | (with_reducible refine Kd.C_drewN ?_ _) | (with_reducible refine Kd.C_drew ?_))); (case side2 => exact HC0.out); rintro e w63 ⟨v437, rfl, ho0, hb⟩; refine ⟨_, rfl, ?_⟩; have n0_ := Aside0.mk (Kd.R_elder' att20_0_5 (Kd.R_base ho0) hb); have n1_ := Aside0.mk (Kd.R_elder' att20_0_4 (Kd.R_base ho0) hb); have n2_ := Aside0.mk (Kd.R_lower (Kd.R_new' (Kd.R_new' ho0 (Kd.R_lt att20_0_5)) (Kd.R_lt att20_0_4)) (below_size att20_0_0)); have n3_ := Aside0.mk (below_step att20_0_0 hb); clear HO_4; clear HO_6; clear HB; have HO_4 := n0_; have HO_6 := n1_; have HO438 := n2_; have HB := n3_; clear n0_ n1_ n2_ n3_; (try clear hb); (try clear hb2); (try clear hk); (try clear hi); (try clear ho0); obtain ⟨Ao64, co64, eo64⟩ := Kd.R_slice HO438.out; subst eo64) | ((with_reducible refine gate_callee (f := 53) rfl ?_); refine goesL_ (some 56) rfl rfl Try.func53 (by kernel_rfl) rfl #[.slice Ao64 t436.length co64] rfl att20_0_1 ?_; (with_reducible refine (impl_FoldBody.calls kj13 _ _ t436 t439 _ ?side1 ?side2 A38.out).mono ?_); (case side1 => repeat (first | exact (Kd.R_reads' HO438.out).2.2 | (with_reducible refine Kd.C_alloc ?_ _) | (with_reducible refine Kd.C_drewN ?_ _) | (with_reducible refine Kd.C_drew ?_))); (case side2 => exact (Kd.R_reads' HO438.out).2.1); rintro e w65 ⟨v440, rfl, ho0, hb⟩; refine ⟨_, rfl, ?_⟩; have n0_ := Aside0.mk (Kd.R_elder' att20_0_5 (Kd.R_base ho0) hb); have n1_ := Aside0.mk (Kd.R_elder' att20_0_4 (Kd.R_base ho0) hb); have n2_ := Aside0.mk (Kd.R_elder' att20_0_8 (Kd.R_base ho0) hb); have n3_ := Aside0.mk (Kd.R_lower (Kd.R_new' (Kd.R_new' (Kd.R_new' ho0 (Kd.R_lt att20_0_5)) (Kd.R_lt att20_0_4)) (Kd.R_lt att20_0_8)) (below_size att20_0_0)); have n4_ := Aside0.mk (below_step att20_0_0 hb); clear HO_4; clear HO_6; clear HO438; clear HB; have HO_4 := n0_; have HO_6 := n1_; have HO438 := n2_; have HO441 := n3_; have HB := n4_; clear n0_ n1_ n2_ n3_ n4_; (try clear hb); (try clear hb2); (try clear hk); (try clear hi); (try clear ho0); obtain ⟨Ao66, co66, eo66⟩ := Kd.R_slice HO441.out; subst eo66) | ((with_reducible refine gate_callee (f := 16) rfl ?_); refine goesL_ (some 59) rfl rfl Try.func16 (by kernel_rfl) rfl #[.slice Ao66 t439.length co66, .slice Ao22 t416.length co22] rfl att20_0_1 ?_; (with_reducible refine (laws_eqInsS.calls kj13 _ _ t439 _ _ t416 false _ ?side1 ?side2 ?side3 ?side4 A39.out).mono ?_); (case side1 => repeat (first | exact (Kd.R_reads' HO441.out).2.2 | (with_reducible refine Kd.C_alloc ?_ _) | (with_reducible refine Kd.C_drewN ?_ _) | (with_reducible refine Kd.C_drew ?_))); (case side2 => exact (Kd.R_reads' HO441.out).2.1); (case side3 => repeat (first | exact (Kd.R_reads' HO_4.out).2.2 | (with_reducible refine Kd.C_alloc ?_ _) | (with_reducible refine Kd.C_drewN ?_ _) | (with_reducible refine Kd.C_drew ?_))); (case side4 => exact (Kd.R_reads' HO_4.out).2.1); rintro e w67 ⟨rfl, hb⟩; refine ⟨_, rfl, ?_⟩; have n0_ := Aside0.mk (Kd.R_below att20_0_5 hb); have n1_ := Aside0.mk (Kd.R_below att20_0_4 hb); have n2_ := Aside0.mk (Kd.R_below att20_0_8 hb); have n3_ := Aside0.mk (Kd.R_below att20_0_11 hb); have n4_ := Aside0.mk (below_step att20_0_0 hb); clear HO_4; clear HO_6; clear HO438; clear HO441; clear HB; have HO_4 := n0_; have HO_6 := n1_; have HO438 := n2_; have HO441 := n3_; have HB := n4_; clear n0_ n1_ n2_ n3_ n4_; (try clear hb); (try clear hb2); (try clear hk); (try clear hi)))
          go_ret
          exact ⟨by first | rfl | (simp [errW_none, errW_some] <;> rfl) | (simp [*, errW_none, errW_some] <;> rfl), att20_0_0⟩
        ·rw [if_neg c36] at H
         have c36b0 : (t435 == t433) = false := beq_eq_false_iff_ne.mpr c36
         have c36b1 : (t435 != t433) = true := bne_iff_ne.mpr c36
         obtain rfl := Option.some.inj H
         go_wp2_with (first | ((with_reducible refine gate_callee (f := 17) rfl ?_); refine goesL_ (some 45) rfl rfl Try.func17 (by kernel_rfl) rfl #[.slice Ao21 t422.length co21, .int .i64 1] rfl att20_0_1 ?_; (with_reducible refine (laws_markInsS.calls kj13 (fun k_ => some k_ = (.slice Ao21 t422.length co21 : Value).ownBlock) (.slice Ao21 t422.length co21) t422 1 t433 t434 w _ ?side1 ?side2 A32.out).mono ?_); (case side1 => repeat (first | (with_reducible first | exact HB.out | apply below_alloc | apply pw_below_drewN | apply below_drew1) | exact HB.out)); (case side2 => exact Kd.R_tight rfl HO_6.out); rintro e w68 ⟨rfl, hy0, hb, hkp⟩; refine ⟨_, rfl, ?_⟩; have n0_ := Aside0.mk (Kd.R_mono (ok' := fun k_ => some k_ ≠ (.slice Ao21 t422.length co21 : Value).ownBlock) (Kd.R_keptB (HO_4.out) hkp (fun k_ hk_ hs_ => (hk_) hs_)) (fun k_ hk_ => hk_.1)); have n1_ := Aside0.mk (Kd.R_reok rfl hy0 (fun k_ e_ => HO_6.out.1 k_ e_)); have n2_ := Aside0.mk (hb); clear HO_4; clear HO_6; clear HB; have HO_4 := n0_; have HO_6 := n1_; have HB := n2_; clear n0_ n1_ n2_; (try clear hb); (try clear hkp); (try clear hy0)) | ((with_reducible refine gate_callee (f := 18) rfl ?_); refine goesL_ (some 48) rfl rfl Try.func18 (by kernel_rfl) rfl #[.slice Ao21 t434.length co21, .int .i64 1] rfl att20_0_6 ?_; (with_reducible refine (laws_heldInsS.calls kj13 _ _ t434 1 t435 _ ?side1 ?side2 A33.out).mono ?_); (case side1 => repeat (first | exact (Kd.R_reads' HO_6.out).2.2 | (with_reducible refine Kd.C_alloc ?_ _) | (with_reducible refine Kd.C_drewN ?_ _) | (with_reducible refine Kd.C_drew ?_))); (case side2 => rw [show t434.length = t422.length from (Kd.R_reads' HO_6.out).1.symm]; exact (Kd.R_reads' HO_6.out).2.1); rintro e w' ⟨rfl, ⟨nd, rfl⟩⟩; refine ⟨_, rfl, ?_⟩))
         go_ret
         exact ⟨by first | rfl | (simp [errW_none, errW_some] <;> rfl) | (simp [*, errW_none, errW_some] <;> rfl), att20_0_0⟩
   ·replace c12 := Bool.eq_false_iff.mpr c12
    subst c12
    rw [if_neg (show ¬ (false = true) by decide)] at H
    obtain rfl := Option.some.inj H
    go_enter Try.func9, Try.ntmps9
    go_wp2_with (first | ((with_reducible refine gate_callee (f := 12) rfl ?_); refine goesL_ (some 13) rfl rfl Try.func12 (by kernel_rfl) rfl #[.slice A0 l0.length c0, .int .i64 1048576] rfl att20_0_1 ?_; (with_reducible refine (laws_szInsS.calls _ _ l0 1048576 t412 _ ?side1 ?side2 A2.out).mono ?_); (case side1 => repeat (first | exact HR0.out | (with_reducible refine Kd.C_alloc ?_ _) | (with_reducible refine Kd.C_drewN ?_ _) | (with_reducible refine Kd.C_drew ?_))); (case side2 => exact HC0.out); rintro e w' ⟨rfl, ⟨nd, rfl⟩⟩; refine ⟨_, rfl, ?_⟩) | ((with_reducible refine gate_callee (f := 14) rfl ?_); refine goesL_ (some 17) rfl rfl Try.func14 (by kernel_rfl) rfl #[.slice A0 l0.length c0] rfl att20_0_1 ?_; (with_reducible refine (laws_toInsS.calls k _ _ l0 t413 _ ?side1 ?side2 A4.out).mono ?_); (case side1 => repeat (first | exact HR0.out | (with_reducible refine Kd.C_alloc ?_ _) | (with_reducible refine Kd.C_drewN ?_ _) | (with_reducible refine Kd.C_drew ?_))); (case side2 => exact HC0.out); rintro e w69 ⟨v414, rfl, ho0, hb⟩; refine ⟨_, rfl, ?_⟩; have n0_ := Aside0.mk (Kd.R_lower ho0 (below_size att20_0_0)); have n1_ := Aside0.mk (below_step att20_0_0 hb); clear HB; have HO415 := n0_; have HB := n1_; clear n0_ n1_; (try clear hb); (try clear hb2); (try clear hk); (try clear hi); (try clear ho0); obtain ⟨Ao70, co70, eo70⟩ := Kd.R_slice HO415.out; subst eo70) | ((with_reducible refine gate_callee (f := 52) rfl ?_); refine goesL_ (some 18) rfl rfl Try.func52 (by kernel_rfl) rfl #[.slice Ao70 t413.length co70] rfl att20_0_1 ?_; (with_reducible refine (spec_FoldBody.calls k _ _ t413 t416 _ ?side1 ?side2 A5.out).mono ?_); (case side1 => repeat (first | exact (Kd.R_reads' HO415.out).2.2 | (with_reducible refine Kd.C_alloc ?_ _) | (with_reducible refine Kd.C_drewN ?_ _) | (with_reducible refine Kd.C_drew ?_))); (case side2 => exact (Kd.R_reads' HO415.out).2.1); rintro e w71 ⟨v417, rfl, ho0, hb⟩; refine ⟨_, rfl, ?_⟩; have n0_ := Aside0.mk (Kd.R_elder' att20_0_2 (Kd.R_base ho0) hb); have n1_ := Aside0.mk (Kd.R_lower (Kd.R_new' ho0 (Kd.R_lt att20_0_2)) (below_size att20_0_0)); have n2_ := Aside0.mk (below_step att20_0_0 hb); clear HO415; clear HB; have HO415 := n0_; have HO418 := n1_; have HB := n2_; clear n0_ n1_ n2_; (try clear hb); (try clear hb2); (try clear hk); (try clear hi); (try clear ho0)) | ((with_reducible refine gate_callee (f := 14) rfl ?_); refine goesL_ (some 20) rfl rfl Try.func14 (by kernel_rfl) rfl #[.slice A0 l0.length c0] rfl att20_0_1 ?_; (with_reducible refine (laws_toInsS.calls k _ _ l0 t419 _ ?side1 ?side2 A6.out).mono ?_); (case side1 => repeat (first | exact (Kd.C_below HR0.out HB.out) | (with_reducible refine Kd.C_alloc ?_ _) | (with_reducible refine Kd.C_drewN ?_ _) | (with_reducible refine Kd.C_drew ?_))); (case side2 => exact HC0.out); rintro e w72 ⟨v420, rfl, ho0, hb⟩; refine ⟨_, rfl, ?_⟩; have n0_ := Aside0.mk (Kd.R_elder' att20_0_2 (Kd.R_base ho0) hb); have n1_ := Aside0.mk (Kd.R_elder' att20_0_3 (Kd.R_base ho0) hb); have n2_ := Aside0.mk (Kd.R_lower (Kd.R_new' (Kd.R_new' ho0 (Kd.R_lt att20_0_2)) (Kd.R_lt att20_0_3)) (below_size att20_0_0)); have n3_ := Aside0.mk (below_step att20_0_0 hb); clear HO415; clear HO418; clear HB; have HO415 := n0_; have HO418 := n1_; have HO421 := n2_; have HB := n3_; clear n0_ n1_ n2_ n3_; (try clear hb); (try clear hb2); (try clear hk); (try clear hi); (try clear ho0); obtain ⟨Ao73, co73, eo73⟩ := Kd.R_slice HO421.out; subst eo73) | ((with_reducible refine gate_callee (f := 53) rfl ?_); refine goesL_ (some 22) rfl rfl Try.func53 (by kernel_rfl) rfl #[.slice Ao73 t419.length co73] rfl att20_0_1 ?_; (with_reducible refine (impl_FoldBody.calls k _ _ t419 t422 _ ?side1 ?side2 A7.out).mono ?_); (case side1 => repeat (first | exact (Kd.R_reads' HO421.out).2.2 | (with_reducible refine Kd.C_alloc ?_ _) | (with_reducible refine Kd.C_drewN ?_ _) | (with_reducible refine Kd.C_drew ?_))); (case side2 => exact (Kd.R_reads' HO421.out).2.1); rintro e w74 ⟨v423, rfl, ho0, hb⟩; refine ⟨_, rfl, ?_⟩; have n0_ := Aside0.mk (Kd.R_elder' att20_0_2 (Kd.R_base ho0) hb); have n1_ := Aside0.mk (Kd.R_elder' att20_0_3 (Kd.R_base ho0) hb); have n2_ := Aside0.mk (Kd.R_elder' att20_0_7 (Kd.R_base ho0) hb); have n3_ := Aside0.mk (Kd.R_lower (Kd.R_new' (Kd.R_new' (Kd.R_new' ho0 (Kd.R_lt att20_0_2)) (Kd.R_lt att20_0_3)) (Kd.R_lt att20_0_7)) (below_size att20_0_0)); have n4_ := Aside0.mk (below_step att20_0_0 hb); clear HO415; clear HO418; clear HO421; clear HB; have HO415 := n0_; have HO418 := n1_; have HO421 := n2_; have HO424 := n3_; have HB := n4_; clear n0_ n1_ n2_ n3_ n4_; (try clear hb); (try clear hb2); (try clear hk); (try clear hi); (try clear ho0); obtain ⟨Ao75, co75, eo75⟩ := Kd.R_slice HO424.out; subst eo75; obtain ⟨Ao76, co76, eo76⟩ := Kd.R_slice HO418.out; subst eo76) | ((with_reducible refine gate_callee (f := 16) rfl ?_); refine goesL_ (some 25) rfl rfl Try.func16 (by kernel_rfl) rfl #[.slice Ao75 t422.length co75, .slice Ao76 t416.length co76] rfl att20_0_1 ?_; (with_reducible refine (laws_eqInsS.calls k _ _ t422 _ _ t416 true _ ?side1 ?side2 ?side3 ?side4 A8.out).mono ?_); (case side1 => repeat (first | exact (Kd.R_reads' HO424.out).2.2 | (with_reducible refine Kd.C_alloc ?_ _) | (with_reducible refine Kd.C_drewN ?_ _) | (with_reducible refine Kd.C_drew ?_))); (case side2 => exact (Kd.R_reads' HO424.out).2.1); (case side3 => repeat (first | exact (Kd.R_reads' HO418.out).2.2 | (with_reducible refine Kd.C_alloc ?_ _) | (with_reducible refine Kd.C_drewN ?_ _) | (with_reducible refine Kd.C_drew ?_))); (case side4 => exact (Kd.R_reads' HO418.out).2.1); rintro e w77 ⟨rfl, hb⟩; refine ⟨_, rfl, ?_⟩; have n0_ := Aside0.mk (Kd.R_below att20_0_2 hb); have n1_ := Aside0.mk (Kd.R_below att20_0_3 hb); have n2_ := Aside0.mk (Kd.R_below att20_0_7 hb); have n3_ := Aside0.mk (Kd.R_below att20_0_9 hb); have n4_ := Aside0.mk (below_step att20_0_0 hb); clear HO415; clear HO418; clear HO421; clear HO424; clear HB; have HO415 := n0_; have HO418 := n1_; have HO421 := n2_; have HO424 := n3_; have HB := n4_; clear n0_ n1_ n2_ n3_ n4_; (try clear hb); (try clear hb2); (try clear hk); (try clear hi)) | ((with_reducible refine gate_callee (f := 14) rfl ?_); refine goesL_ (some 29) rfl rfl Try.func14 (by kernel_rfl) rfl #[.slice A0 l0.length c0] rfl att20_0_1 ?_; (with_reducible refine (laws_toInsS.calls k _ _ l0 t426 _ ?side1 ?side2 A10.out).mono ?_); (case side1 => repeat (first | exact (Kd.C_below HR0.out HB.out) | (with_reducible refine Kd.C_alloc ?_ _) | (with_reducible refine Kd.C_drewN ?_ _) | (with_reducible refine Kd.C_drew ?_))); (case side2 => exact HC0.out); rintro e w78 ⟨v427, rfl, ho0, hb⟩; refine ⟨_, rfl, ?_⟩; have n0_ := Aside0.mk (Kd.R_elder' att20_0_2 (Kd.R_base ho0) hb); have n1_ := Aside0.mk (Kd.R_elder' att20_0_3 (Kd.R_base ho0) hb); have n2_ := Aside0.mk (Kd.R_elder' att20_0_7 (Kd.R_base ho0) hb); have n3_ := Aside0.mk (Kd.R_elder' att20_0_9 (Kd.R_base ho0) hb); have n4_ := Aside0.mk (Kd.R_lower (Kd.R_new' (Kd.R_new' (Kd.R_new' (Kd.R_new' ho0 (Kd.R_lt att20_0_2)) (Kd.R_lt att20_0_3)) (Kd.R_lt att20_0_7)) (Kd.R_lt att20_0_9)) (below_size att20_0_0)); have n5_ := Aside0.mk (below_step att20_0_0 hb); clear HO415; clear HO418; clear HO421; clear HO424; clear HB; have HO415 := n0_; have HO418 := n1_; have HO421 := n2_; have HO424 := n3_; have HO428 := n4_; have HB := n5_; clear n0_ n1_ n2_ n3_ n4_ n5_; (try clear hb); (try clear hb2); (try clear hk); (try clear hi); (try clear ho0); obtain ⟨Ao79, co79, eo79⟩ := Kd.R_slice HO428.out; subst eo79) | ((with_reducible refine gate_callee (f := 16) rfl ?_); refine goesL_ (some 30) rfl rfl Try.func16 (by kernel_rfl) rfl #[.slice Ao73 t419.length co73, .slice Ao79 t426.length co79] rfl att20_0_1 ?_; (with_reducible refine (laws_eqInsS.calls k _ _ t419 _ _ t426 false _ ?side1 ?side2 ?side3 ?side4 A11.out).mono ?_); (case side1 => repeat (first | exact (Kd.R_reads' HO421.out).2.2 | (with_reducible refine Kd.C_alloc ?_ _) | (with_reducible refine Kd.C_drewN ?_ _) | (with_reducible refine Kd.C_drew ?_))); (case side2 => exact (Kd.R_reads' HO421.out).2.1); (case side3 => repeat (first | exact (Kd.R_reads' HO428.out).2.2 | (with_reducible refine Kd.C_alloc ?_ _) | (with_reducible refine Kd.C_drewN ?_ _) | (with_reducible refine Kd.C_drew ?_))); (case side4 => exact (Kd.R_reads' HO428.out).2.1); rintro e w80 ⟨rfl, hb⟩; refine ⟨_, rfl, ?_⟩; have n0_ := Aside0.mk (Kd.R_below att20_0_2 hb); have n1_ := Aside0.mk (Kd.R_below att20_0_3 hb); have n2_ := Aside0.mk (Kd.R_below att20_0_7 hb); have n3_ := Aside0.mk (Kd.R_below att20_0_9 hb); have n4_ := Aside0.mk (Kd.R_below att20_0_12 hb); have n5_ := Aside0.mk (below_step att20_0_0 hb); clear HO415; clear HO418; clear HO421; clear HO424; clear HO428; clear HB; have HO415 := n0_; have HO418 := n1_; have HO421 := n2_; have HO424 := n3_; have HO428 := n4_; have HB := n5_; clear n0_ n1_ n2_ n3_ n4_ n5_; (try clear hb); (try clear hb2); (try clear hk); (try clear hi)))
    go_ret
    exact ⟨by first | rfl | (simp [errW_none, errW_some] <;> rfl) | (simp [*, errW_none, errW_some] <;> rfl), att20_0_0⟩
  ·replace c9 := Bool.eq_false_iff.mpr c9
   subst c9
   rw [if_neg (show ¬ (false = true) by decide)] at H
   obtain rfl := Option.some.inj H
   go_enter Try.func9, Try.ntmps9
   go_wp2_with (first | ((with_reducible refine gate_callee (f := 12) rfl ?_); refine goesL_ (some 13) rfl rfl Try.func12 (by kernel_rfl) rfl #[.slice A0 l0.length c0, .int .i64 1048576] rfl att20_0_1 ?_; (with_reducible refine (laws_szInsS.calls _ _ l0 1048576 t412 _ ?side1 ?side2 A2.out).mono ?_); (case side1 => repeat (first | exact HR0.out | (with_reducible refine Kd.C_alloc ?_ _) | (with_reducible refine Kd.C_drewN ?_ _) | (with_reducible refine Kd.C_drew ?_))); (case side2 => exact HC0.out); rintro e w' ⟨rfl, ⟨nd, rfl⟩⟩; refine ⟨_, rfl, ?_⟩) | ((with_reducible refine gate_callee (f := 14) rfl ?_); refine goesL_ (some 17) rfl rfl Try.func14 (by kernel_rfl) rfl #[.slice A0 l0.length c0] rfl att20_0_1 ?_; (with_reducible refine (laws_toInsS.calls k _ _ l0 t413 _ ?side1 ?side2 A4.out).mono ?_); (case side1 => repeat (first | exact HR0.out | (with_reducible refine Kd.C_alloc ?_ _) | (with_reducible refine Kd.C_drewN ?_ _) | (with_reducible refine Kd.C_drew ?_))); (case side2 => exact HC0.out); rintro e w81 ⟨v414, rfl, ho0, hb⟩; refine ⟨_, rfl, ?_⟩; have n0_ := Aside0.mk (Kd.R_lower ho0 (below_size att20_0_0)); have n1_ := Aside0.mk (below_step att20_0_0 hb); clear HB; have HO415 := n0_; have HB := n1_; clear n0_ n1_; (try clear hb); (try clear hb2); (try clear hk); (try clear hi); (try clear ho0); obtain ⟨Ao82, co82, eo82⟩ := Kd.R_slice HO415.out; subst eo82) | ((with_reducible refine gate_callee (f := 52) rfl ?_); refine goesL_ (some 18) rfl rfl Try.func52 (by kernel_rfl) rfl #[.slice Ao82 t413.length co82] rfl att20_0_1 ?_; (with_reducible refine (spec_FoldBody.calls k _ _ t413 t416 _ ?side1 ?side2 A5.out).mono ?_); (case side1 => repeat (first | exact (Kd.R_reads' HO415.out).2.2 | (with_reducible refine Kd.C_alloc ?_ _) | (with_reducible refine Kd.C_drewN ?_ _) | (with_reducible refine Kd.C_drew ?_))); (case side2 => exact (Kd.R_reads' HO415.out).2.1); rintro e w83 ⟨v417, rfl, ho0, hb⟩; refine ⟨_, rfl, ?_⟩; have n0_ := Aside0.mk (Kd.R_elder' att20_0_2 (Kd.R_base ho0) hb); have n1_ := Aside0.mk (Kd.R_lower (Kd.R_new' ho0 (Kd.R_lt att20_0_2)) (below_size att20_0_0)); have n2_ := Aside0.mk (below_step att20_0_0 hb); clear HO415; clear HB; have HO415 := n0_; have HO418 := n1_; have HB := n2_; clear n0_ n1_ n2_; (try clear hb); (try clear hb2); (try clear hk); (try clear hi); (try clear ho0)) | ((with_reducible refine gate_callee (f := 14) rfl ?_); refine goesL_ (some 20) rfl rfl Try.func14 (by kernel_rfl) rfl #[.slice A0 l0.length c0] rfl att20_0_1 ?_; (with_reducible refine (laws_toInsS.calls k _ _ l0 t419 _ ?side1 ?side2 A6.out).mono ?_); (case side1 => repeat (first | exact (Kd.C_below HR0.out HB.out) | (with_reducible refine Kd.C_alloc ?_ _) | (with_reducible refine Kd.C_drewN ?_ _) | (with_reducible refine Kd.C_drew ?_))); (case side2 => exact HC0.out); rintro e w84 ⟨v420, rfl, ho0, hb⟩; refine ⟨_, rfl, ?_⟩; have n0_ := Aside0.mk (Kd.R_elder' att20_0_2 (Kd.R_base ho0) hb); have n1_ := Aside0.mk (Kd.R_elder' att20_0_3 (Kd.R_base ho0) hb); have n2_ := Aside0.mk (Kd.R_lower (Kd.R_new' (Kd.R_new' ho0 (Kd.R_lt att20_0_2)) (Kd.R_lt att20_0_3)) (below_size att20_0_0)); have n3_ := Aside0.mk (below_step att20_0_0 hb); clear HO415; clear HO418; clear HB; have HO415 := n0_; have HO418 := n1_; have HO421 := n2_; have HB := n3_; clear n0_ n1_ n2_ n3_; (try clear hb); (try clear hb2); (try clear hk); (try clear hi); (try clear ho0); obtain ⟨Ao85, co85, eo85⟩ := Kd.R_slice HO421.out; subst eo85) | ((with_reducible refine gate_callee (f := 53) rfl ?_); refine goesL_ (some 22) rfl rfl Try.func53 (by kernel_rfl) rfl #[.slice Ao85 t419.length co85] rfl att20_0_1 ?_; (with_reducible refine (impl_FoldBody.calls k _ _ t419 t422 _ ?side1 ?side2 A7.out).mono ?_); (case side1 => repeat (first | exact (Kd.R_reads' HO421.out).2.2 | (with_reducible refine Kd.C_alloc ?_ _) | (with_reducible refine Kd.C_drewN ?_ _) | (with_reducible refine Kd.C_drew ?_))); (case side2 => exact (Kd.R_reads' HO421.out).2.1); rintro e w86 ⟨v423, rfl, ho0, hb⟩; refine ⟨_, rfl, ?_⟩; have n0_ := Aside0.mk (Kd.R_elder' att20_0_2 (Kd.R_base ho0) hb); have n1_ := Aside0.mk (Kd.R_elder' att20_0_3 (Kd.R_base ho0) hb); have n2_ := Aside0.mk (Kd.R_elder' att20_0_7 (Kd.R_base ho0) hb); have n3_ := Aside0.mk (Kd.R_lower (Kd.R_new' (Kd.R_new' (Kd.R_new' ho0 (Kd.R_lt att20_0_2)) (Kd.R_lt att20_0_3)) (Kd.R_lt att20_0_7)) (below_size att20_0_0)); have n4_ := Aside0.mk (below_step att20_0_0 hb); clear HO415; clear HO418; clear HO421; clear HB; have HO415 := n0_; have HO418 := n1_; have HO421 := n2_; have HO424 := n3_; have HB := n4_; clear n0_ n1_ n2_ n3_ n4_; (try clear hb); (try clear hb2); (try clear hk); (try clear hi); (try clear ho0); obtain ⟨Ao87, co87, eo87⟩ := Kd.R_slice HO424.out; subst eo87; obtain ⟨Ao88, co88, eo88⟩ := Kd.R_slice HO418.out; subst eo88) | ((with_reducible refine gate_callee (f := 16) rfl ?_); refine goesL_ (some 25) rfl rfl Try.func16 (by kernel_rfl) rfl #[.slice Ao87 t422.length co87, .slice Ao88 t416.length co88] rfl att20_0_1 ?_; (with_reducible refine (laws_eqInsS.calls k _ _ t422 _ _ t416 false _ ?side1 ?side2 ?side3 ?side4 A8.out).mono ?_); (case side1 => repeat (first | exact (Kd.R_reads' HO424.out).2.2 | (with_reducible refine Kd.C_alloc ?_ _) | (with_reducible refine Kd.C_drewN ?_ _) | (with_reducible refine Kd.C_drew ?_))); (case side2 => exact (Kd.R_reads' HO424.out).2.1); (case side3 => repeat (first | exact (Kd.R_reads' HO418.out).2.2 | (with_reducible refine Kd.C_alloc ?_ _) | (with_reducible refine Kd.C_drewN ?_ _) | (with_reducible refine Kd.C_drew ?_))); (case side4 => exact (Kd.R_reads' HO418.out).2.1); rintro e w89 ⟨rfl, hb⟩; refine ⟨_, rfl, ?_⟩; have n0_ := Aside0.mk (Kd.R_below att20_0_2 hb); have n1_ := Aside0.mk (Kd.R_below att20_0_3 hb); have n2_ := Aside0.mk (Kd.R_below att20_0_7 hb); have n3_ := Aside0.mk (Kd.R_below att20_0_9 hb); have n4_ := Aside0.mk (below_step att20_0_0 hb); clear HO415; clear HO418; clear HO421; clear HO424; clear HB; have HO415 := n0_; have HO418 := n1_; have HO421 := n2_; have HO424 := n3_; have HB := n4_; clear n0_ n1_ n2_ n3_ n4_; (try clear hb); (try clear hb2); (try clear hk); (try clear hi)))
   go_ret
   exact ⟨by first | rfl | (simp [errW_none, errW_some] <;> rfl) | (simp [*, errW_none, errW_some] <;> rfl), att20_0_0⟩

end Go.Proofs.Ytocimkpafakiaaa.XFnExactFoldBody
