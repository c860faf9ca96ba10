/- Each Go function that the law reaches as a Lean function, and that Go comes to just its answer; written by this session's xprint.py over the kit's printer. -/
import Derived.Test.YtocimkpafakiaaaXFnExactFoldBodyx0
import Derived.Test.YtocimkpafakiaaaXFnExactFoldBodyx2
namespace Go.Proofs.Ytocimkpafakiaaa.XFnExactFoldBody
open Go.RowKit Go.Proofs.YtocimkpafakiaaaW.PrintWords Go.Proofs.YtocimkpafakiaaaW.PrintLast Go.Proofs.YtocimkpafakiaaaW.PrintMore
attribute [local go_sem] max2_int min2_int max_two min_two max_three min_three max_four min_four   -- for this text's walks alone
set_option linter.unusedVariables false
set_option linter.unusedSimpArgs false

attribute [local go_sem high] eqA83
theorem att9_0_0 {p : Prop} (h : p := by repeat (first | (with_reducible first | exact HB.out | apply below_alloc | apply pw_below_drewN | apply below_drew1) | exact HB.out)) : p := h
theorem att9_0_1 {p : Prop} (h : p := by first | (with_reducible assumption) | assumption) : p := h
theorem att9_0_2 {p : Prop} (h : p := by (with_reducible repeat (first | apply Kd.R_alloc | apply Kd.R_drewN | apply Kd.R_drew)); exact HO_6.out) : p := h
theorem att9_0_3 {p : Prop} (h : p := by first | rfl | (simp; done) | (simp [*]; done)) : p := h
theorem att9_0_4 {p : Prop} (h : p := by (with_reducible repeat (first | apply Kd.R_alloc | apply Kd.R_drewN | apply Kd.R_drew)); exact HO203.out) : p := h
theorem att9_1_0 {p : Prop} (h : p := by have h_ : (x8_1 : Int) < ((x6_1.length : Int) : Int) := of_decide_eq_true att9_0_1; first | exact h_ | (have e_ := (Kd.R_reads' HO_6.out).1; omega) | simpa using h_) : p := h
/-! ### spec_l19Meet: function 92 -/
def spec_l19Meet.l0 : Nat → List (S83) → List (S83) → List (S83) → Bool → Int → Option ((List (S83)) × Bool)
 | 0, _, _, _, _, _ => none
 | k + 1, x0, x1, x6, x7, x8 => if x8 < (x0.length : Int) then (if 0 ≤ x8 then (if (rd_T83 x0 x8).f0 = true then (if x8 < (x1.length : Int) then (if (!(((rd_T83 x0 x8).f0) == ((rd_T83 x1 x8).f0)) || (!(((rd_T83 x0 x8).f1) == ((rd_T83 x1 x8).f1)))) = true then (if x8 < (x6.length : Int) then (spec_l19Meet.l0 k x0 x1 (x6.set (x8 : Int).toNat (⟨false, 0⟩ : S83)) true (wrap64 (x8 + 1))) else (none)) else (spec_l19Meet.l0 k x0 x1 x6 x7 (wrap64 (x8 + 1)))) else (none)) else (spec_l19Meet.l0 k x0 x1 x6 x7 (wrap64 (x8 + 1)))) else (none)) else (some (x6, x7))
def spec_l19Meet.f (k : Nat) (l0 : List (S83)) (l1 : List (S83)) : Option ((List (S83)) × Bool) := (some (([] : List (S83)) : List (S83))).bind fun y201 => (if y201.length + l0.length < 8796093022208 then (spec_l19Meet.l0 k l0 l1 (y201 ++ l0) false 0) else (none))
theorem spec_l19Meet.mono_l : ∀ k, (∀ y0 y1 y2 y3 y4, LeO (spec_l19Meet.l0 k y0 y1 y2 y3 y4) (spec_l19Meet.l0 (k + 1) y0 y1 y2 y3 y4))
 | 0 => fun _ _ _ _ _ r h => by simp [spec_l19Meet.l0] at h
 | k + 1 => by
  have ih0 := spec_l19Meet.mono_l k
  ·intro y0 y1 y2 y3 y4
   unfold spec_l19Meet.l0
   repeat' first
   | (with_reducible exact ih0 _ _ _ _ _)
   | (with_reducible exact LeO.refl _)
   | (with_reducible exact LeO.none _)
   | (with_reducible refine LeO.ite ?_ ?_)
   | (with_reducible refine LeO.bind ?_ (fun _ => ?_))
   | exact ih0 _ _ _ _ _
   | exact LeO.none _
   | refine LeO.ite ?_ ?_
   | refine LeO.bind ?_ (fun _ => ?_)
theorem spec_l19Meet.mono : ∀ a0 a1 k, LeO (spec_l19Meet.f k a0 a1) (spec_l19Meet.f (k + 1) a0 a1) := by
 intro a0 a1 k
 have ih0 := spec_l19Meet.mono_l k
 unfold spec_l19Meet.f
 repeat' first
   | (with_reducible exact ih0 _ _ _ _ _)
   | (with_reducible exact LeO.refl _)
   | (with_reducible exact LeO.none _)
   | (with_reducible refine LeO.ite ?_ ?_)
   | (with_reducible refine LeO.bind ?_ (fun _ => ?_))
   | exact ih0 _ _ _ _ _
   | exact LeO.none _
   | refine LeO.ite ?_ ?_
   | refine LeO.bind ?_ (fun _ => ?_)
set_option maxHeartbeats 80000000 in
set_option maxRecDepth 100000 in
theorem spec_l19Meet.calls (k : Nat) (A0 : Option Addr) (c0 : Nat) (l0 : List (S83)) (A1 : Option Addr) (c1 : Nat) (l1 : List (S83)) (r1 : List (S83)) (r2 : Bool) (w : World) (hr0 : Kd.C k83 w A0 l0.length l0) (hc0 : l0.length ≤ c0) (hr1 : Kd.C k83 w A1 l1.length l1) (hc1 : l1.length ≤ c1) (h : spec_l19Meet.f k l0 l1 = some (r1, r2)) :
  Calls Try.prog 92 #[.slice A0 l0.length c0, .slice A1 l1.length c1] w fun e w' => ∃ v0_ : Value, e = .returned (.tuple #[v0_, .bool r2]) ∧ Kd.R k83 83 w' w.heap.size (fun _ => True) v0_ r1 ∧ Below w.heap.size w w' := by
 have hu83 := Try.underlying83
 have HR0 := Aside0.mk hr0
 have HC0 := Aside0.mk hc0
 clear hr0 hc0
 have HR1 := Aside0.mk hr1
 have HC1 := Aside0.mk hc1
 clear hr1 hc1
 have HB := Aside0.mk (Below.refl w.heap.size w)
 have H : ((some (([] : List (S83)) : List (S83))).bind fun y201 => (if y201.length + l0.length < 8796093022208 then (spec_l19Meet.l0 k l0 l1 (y201 ++ l0) false 0) else (none))) = some (r1, r2) := h
 clear h
 obtain ⟨y201, hy201⟩ : ∃ y_ : List (S83), y_ = (([] : List (S83))) := ⟨_, rfl⟩
 replace H : (if y201.length + l0.length < 8796093022208 then (spec_l19Meet.l0 k l0 l1 (y201 ++ l0) false 0) else (none)) = some (r1, r2) := by first | (rw [hy201]; with_reducible exact H) | (have H2_ := (Option.bind_some _ _).symm.trans H; rw [hy201]; with_reducible exact H2_) | (have H2_ := (Option.bind_some _ _).symm.trans H; with_reducible exact H2_) | with_reducible exact H | (rw [hy201]; exact H) | exact H
 have Ny201 := Aside0.mk hy201
 clear hy201
 by_cases c3 : y201.length + l0.length < 8796093022208
 ·rw [if_pos c3] at H
  have LMc3 := Aside0.mk c3
  clear c3
  obtain ⟨y204, hy204⟩ : ∃ y_ : List (S83), y_ = (y201 ++ l0) := ⟨_, rfl⟩
  replace H : (spec_l19Meet.l0 k l0 l1 y204 false 0) = some (r1, r2) := by first | (rw [hy204]; with_reducible exact H) | (have H2_ := (Option.bind_some _ _).symm.trans H; rw [hy204]; with_reducible exact H2_) | (have H2_ := (Option.bind_some _ _).symm.trans H; with_reducible exact H2_) | with_reducible exact H | (rw [hy204]; exact H) | exact H
  have Ny204 := Aside0.mk hy204
  clear hy204
  have H' := Aside0.mk H
  clear H
  go_enter Try.func92, Try.ntmps92
  go_wp2_with (first | ((with_reducible refine gate_dst (N := 9) rfl ?_); refine Kd.R_lit k83 _ 83 ?hg (N := 9) ?hd (xs := ([] : List (S83))) (inner := []) (ok := fun _ => True) (okp := fun _ => True) ?hr ?hp (fun _ hk => hk) trivial (Below.refl _ _) (Nat.le_refl _) (by simp) ?_; (case hd => rfl); (case hg => rfl); (case hr => first | (go_simp; done) | (go_simp; rfl)); (case hp => exact (Reps.none _ _)); intro v202 w4 ho5 hb hg_ hnew_; clear hg_ hnew_; (first | rw [← Ny201.out] at ho5 | (simp only [Int.reduceToNat] at ho5; rw [← Ny201.out] at ho5)); have n0_ := Aside0.mk (Kd.R_lower ho5 (below_size att9_0_0)); have n1_ := Aside0.mk (below_step att9_0_0 hb); clear HB; have HO203 := n0_; have HB := n1_; clear n0_ n1_; clear hb ho5) | ((with_reducible refine gate_builtin (b := .append) (xs := #[.tmp 9, .tmp 10]) rfl ?_); at_builtin; refine Kd.R_append_rows k83 (w0 := w) w.heap.size rfl (.tmp 9) (.tmp 10) 81 83 (.agg #[(.bool false), (.int .i64 0)]) 16 rfl Try.underlying81 info83 rfl (by decide) (by omega) v202 y201 l0 _ _ _ (fun _ => True) (fun _ => False) rfl rfl ?aO ?aR (fun _ _ h => h) (fun _ h => h.elim) ?aF ?aB ?aS ?aL ?_; (case aR => repeat (first | exact (Kd.C_below HR0.out HB.out) | (with_reducible refine Kd.C_alloc ?_ _) | (with_reducible refine Kd.C_drewN ?_ _) | (with_reducible refine Kd.C_drew ?_))); (case aB => exact att9_0_0); (case aF => exact (fun _ _ => trivial)); (case aO => exact att9_0_4); (case aS => exact (below_size att9_0_0)); (case aL => have := LMc3.out; omega); intro v205 w6 ho hb hg hat; rw [← Ny204.out] at ho; have n0_ := Aside0.mk (hb); have n1_ := Aside0.mk (ho); clear HB; clear HO203; have HB := n0_; have HO206 := n1_; clear n0_ n1_; clear ho hb hg hat))
  repeat (go_quiet (fail); try go_wp2_with (first | ((with_reducible refine gate_dst (N := 9) rfl ?_); refine Kd.R_lit k83 _ 83 ?hg (N := 9) ?hd (xs := ([] : List (S83))) (inner := []) (ok := fun _ => True) (okp := fun _ => True) ?hr ?hp (fun _ hk => hk) trivial (Below.refl _ _) (Nat.le_refl _) (by simp) ?_; (case hd => rfl); (case hg => rfl); (case hr => first | (go_simp; done) | (go_simp; rfl)); (case hp => exact (Reps.none _ _)); intro v202 w4 ho5 hb hg_ hnew_; clear hg_ hnew_; (first | rw [← Ny201.out] at ho5 | (simp only [Int.reduceToNat] at ho5; rw [← Ny201.out] at ho5)); have n0_ := Aside0.mk (Kd.R_lower ho5 (below_size att9_0_0)); have n1_ := Aside0.mk (below_step att9_0_0 hb); clear HB; have HO203 := n0_; have HB := n1_; clear n0_ n1_; clear hb ho5) | ((with_reducible refine gate_builtin (b := .append) (xs := #[.tmp 9, .tmp 10]) rfl ?_); at_builtin; refine Kd.R_append_rows k83 (w0 := w) w.heap.size rfl (.tmp 9) (.tmp 10) 81 83 (.agg #[(.bool false), (.int .i64 0)]) 16 rfl Try.underlying81 info83 rfl (by decide) (by omega) v202 y201 l0 _ _ _ (fun _ => True) (fun _ => False) rfl rfl ?aO ?aR (fun _ _ h => h) (fun _ h => h.elim) ?aF ?aB ?aS ?aL ?_; (case aR => repeat (first | exact (Kd.C_below HR0.out HB.out) | (with_reducible refine Kd.C_alloc ?_ _) | (with_reducible refine Kd.C_drewN ?_ _) | (with_reducible refine Kd.C_drew ?_))); (case aB => exact att9_0_0); (case aF => exact (fun _ _ => trivial)); (case aO => exact att9_0_4); (case aS => exact (below_size att9_0_0)); (case aL => have := LMc3.out; omega); intro v205 w6 ho hb hg hat; rw [← Ny204.out] at ho; have n0_ := Aside0.mk (hb); have n1_ := Aside0.mk (ho); clear HB; clear HO203; have HB := n0_; have HO206 := n1_; clear n0_ n1_; clear ho hb hg hat)))
  go_loopg [7, 8] k (fun kq v7 v8 w' => ∃ (x6_1 : List (S83)) (x7_1 : Bool) (x8_1 : Int), v7 = .bool x7_1 ∧ v8 = .int .i64 x8_1 ∧ Aside0 (spec_l19Meet.l0 kq l0 l1 x6_1 x7_1 x8_1 = some (r1, r2)) ∧ Aside0 (kq ≤ k) ∧ Aside0 (Kd.R k83 83 w' w.heap.size (fun _ => True) v205 x6_1) ∧ Aside0 (Below w.heap.size w w'))
  case atStart => exact ⟨(y204), (false), (0), att9_0_3, att9_0_3, H', ⟨Nat.le_refl _⟩, ⟨by (with_reducible repeat (first | apply Kd.R_alloc | apply Kd.R_drewN | apply Kd.R_drew)); exact HO206.out⟩, ⟨att9_0_0⟩⟩
  case round =>
   clear H'
   try clear c1
   try clear p2
   try clear c3
   obtain ⟨x6_1, x7_1, x8_1, rfl, rfl, HA, HK1, HO_6, HB⟩ := hrel
   cases gk with
   | zero => exact absurd HA.out (by simp [spec_l19Meet.l0])
   | succ k1 =>
    have H := HA.out
    clear HA
    simp only [spec_l19Meet.l0] at H
    by_cases c7 : x8_1 < (l0.length : Int)
    ·rw [if_pos c7] at H
     have c7b0 : decide (x8_1 < (l0.length : Int)) = true := decide_eq_true c7
     clear c7
     by_cases c8 : 0 ≤ x8_1
     ·rw [if_pos c8] at H
      have c8b0 : decide (0 ≤ x8_1) = true := decide_eq_true c8
      clear c8
      obtain ⟨bq9, hbq9⟩ : ∃ b_ : Bool, b_ = ((rd_T83 l0 x8_1).f0) := ⟨_, rfl⟩
      replace H : (if bq9 = true then (if x8_1 < (l1.length : Int) then (if (!((bq9) == ((rd_T83 l1 x8_1).f0)) || (!(((rd_T83 l0 x8_1).f1) == ((rd_T83 l1 x8_1).f1)))) = true then (if x8_1 < (x6_1.length : Int) then (spec_l19Meet.l0 k1 l0 l1 (x6_1.set (x8_1 : Int).toNat (⟨false, 0⟩ : S83)) true (wrap64 (x8_1 + 1))) else (none)) else (spec_l19Meet.l0 k1 l0 l1 x6_1 x7_1 (wrap64 (x8_1 + 1)))) else (none)) else (spec_l19Meet.l0 k1 l0 l1 x6_1 x7_1 (wrap64 (x8_1 + 1)))) = some (r1, r2) := by rw [← hbq9] at H; exact H
      have Nbq9 := Aside0.mk hbq9
      clear hbq9
      by_cases c10 : bq9 = true
      ·subst c10
       rw [if_pos rfl] at H
       by_cases c11 : x8_1 < (l1.length : Int)
       ·rw [if_pos c11] at H
        have c11b0 : decide (x8_1 < (l1.length : Int)) = true := decide_eq_true c11
        clear c11
        by_cases c12 : (!((true) == ((rd_T83 l1 x8_1).f0)) || (!(((rd_T83 l0 x8_1).f1) == ((rd_T83 l1 x8_1).f1)))) = true
        ·rw [if_pos c12] at H
         have c12b0 : (!((true) == ((rd_T83 l1 x8_1).f0)) || (!(((rd_T83 l0 x8_1).f1) == ((rd_T83 l1 x8_1).f1)))) = true := c12
         have c12d0 : (!((rd_T83 l1 x8_1).f0) || !(((rd_T83 l0 x8_1).f1) == ((rd_T83 l1 x8_1).f1))) = true := (by rw [← c12b0]; cases ((rd_T83 l1 x8_1).f0) <;> rfl)
         clear c12
         by_cases c13 : x8_1 < (x6_1.length : Int)
         ·rw [if_pos c13] at H
          have c13b0 : decide (x8_1 < (x6_1.length : Int)) = true := decide_eq_true c13
          clear c13
          obtain ⟨y210, hy210⟩ : ∃ y_ : List (S83), y_ = (x6_1.set (x8_1 : Int).toNat (⟨false, 0⟩ : S83)) := ⟨_, rfl⟩
          replace H : (spec_l19Meet.l0 k1 l0 l1 y210 true (wrap64 (x8_1 + 1))) = some (r1, r2) := by first | (rw [hy210]; with_reducible exact H) | (have H2_ := (Option.bind_some _ _).symm.trans H; rw [hy210]; with_reducible exact H2_) | (have H2_ := (Option.bind_some _ _).symm.trans H; with_reducible exact H2_) | with_reducible exact H | (rw [hy210]; exact H) | exact H
          have Ny210 := Aside0.mk hy210
          clear hy210
          have H' := Aside0.mk H
          clear H
          have p207 : 0 ≤ (x8_1 : Int) := of_decide_eq_true att9_0_1
          have q207 : x8_1 < (l0.length : Int) := of_decide_eq_true att9_0_1
          obtain ⟨ad207, e207, hx207_0, hx207_1⟩ := at_T83 HR0.out x8_1 p207 q207
          (try rw [← Nbq9.out] at hx207_0)
          cases e207
          replace hx207_0 := (HB.out.cell (World.block_lt_of_cell? w _ hx207_0)).trans hx207_0
          replace hx207_1 := (HB.out.cell (World.block_lt_of_cell? w _ hx207_1)).trans hx207_1
          replace p207 := eq_true p207
          replace q207 := eq_true q207
          have p208 : 0 ≤ (x8_1 : Int) := of_decide_eq_true att9_0_1
          have q208 : x8_1 < (l0.length : Int) := of_decide_eq_true att9_0_1
          obtain ⟨ad208, e208, hx208_0, hx208_1⟩ := at_T83 HR0.out x8_1 p208 q208
          (try rw [← Nbq9.out] at hx208_0)
          obtain rfl : ad207 = ad208 := (by injection e208)
          replace hx208_0 := (HB.out.cell (World.block_lt_of_cell? w _ hx208_0)).trans hx208_0
          replace hx208_1 := (HB.out.cell (World.block_lt_of_cell? w _ hx208_1)).trans hx208_1
          replace p208 := eq_true p208
          replace q208 := eq_true q208
          have p209 : 0 ≤ (x8_1 : Int) := of_decide_eq_true att9_0_1
          have q209 : x8_1 < (l1.length : Int) := of_decide_eq_true att9_0_1
          obtain ⟨ad209, e209, hx209_0, hx209_1⟩ := at_T83 HR1.out x8_1 p209 q209
          (try rw [← Nbq9.out] at hx209_0)
          cases e209
          replace hx209_0 := (HB.out.cell (World.block_lt_of_cell? w _ hx209_0)).trans hx209_0
          replace hx209_1 := (HB.out.cell (World.block_lt_of_cell? w _ hx209_1)).trans hx209_1
          replace p209 := eq_true p209
          replace q209 := eq_true q209
          have p14 : 0 ≤ (x8_1 : Int) := of_decide_eq_true att9_0_1
          have q14 : (x8_1 : Int) < ((x6_1.length : Int) : Int) := of_decide_eq_true att9_0_1
          obtain ⟨go14, co14, eo14, gb14, gl14, cl14, HG14⟩ := Kd.R_form HO_6.out (by omega)
          (first | cases eo14 | (injection eo14 with ea_ en_ ec_; (first | subst ea_ | (injection ea_ with ea_; subst ea_)); subst ec_; clear en_))
          have GB14 := Aside0.mk gb14
          have GG14 := Aside0.mk HG14
          clear gb14 gl14 HG14
          obtain ⟨ce14, hcl14, hM14, hcc14, hfr14⟩ := Kd.R_elem HO_6.out z83 (x8_1 : Int) p14 q14
          obtain rfl := k83_openM hM14
          have hx14_0 : wr.cell? ⟨go14, (x8_1 : Int).toNat * 2, none⟩ = some (.bool ((rd_T83 x6_1 x8_1).f0)) := hcc14 0 _ rfl
          have hx14_1 : wr.cell? ⟨go14, (x8_1 : Int).toNat * 2 + 1, none⟩ = some (.int .i64 ((rd_T83 x6_1 x8_1).f1)) := hcc14 1 _ rfl
          have hf14_0 : wr.frozen? ⟨go14, (x8_1 : Int).toNat * 2, none⟩ = false := hfr14 0
          have hf14_1 : wr.frozen? ⟨go14, (x8_1 : Int).toNat * 2 + 1, none⟩ = false := hfr14 1
          clear hcl14 hcc14 hfr14 hM14
          replace p14 := eq_true p14
          replace q14 := eq_true q14
          have HX15 := Aside0.mk (show Kd.R k83 83 wr w.heap.size (fun _ => True) (.slice (some ⟨go14, 0, none⟩) x6_1.length co14) x6_1 from att9_0_2)
          obtain ⟨ce15, hcl15, hM15, hcc15, hfr15⟩ := Kd.R_elem HX15.out z83 (x8_1 : Int) (of_decide_eq_true att9_0_1) att9_1_0
          obtain rfl := k83_openM hM15
          have HP15 := Kd.R_seg HX15.out (x8_1 : Int) (of_decide_eq_true att9_0_1) att9_1_0 (seg := [.bool false, .int .i64 0]) (j := 0) hcl15 hcc15 (show 2 ≤ 2 from by decide) (x' := (⟨false, 0⟩ : S83)) (k83_mkM _ _ _ (⟨false, 0⟩ : S83) ) (fun _ hk => hk)
          have hx15_0 := hcc15 0 _ rfl
          (try simp only [show (k83).sz = 2 from rfl, Nat.mul_one, Nat.add_zero] at hx15_0)
          have hf15_0 := hfr15 0
          (try simp only [show (k83).sz = 2 from rfl, Nat.mul_one, Nat.add_zero] at hf15_0)
          have hx15_1 := hcc15 1 _ rfl
          (try simp only [show (k83).sz = 2 from rfl, Nat.mul_one, Nat.add_zero] at hx15_1)
          have hf15_1 := hfr15 1
          (try simp only [show (k83).sz = 2 from rfl, Nat.mul_one, Nat.add_zero] at hf15_1)
          clear hcl15 hcc15 hfr15 hM15
          go_wp2_with (first | ((with_reducible refine gate_store (t := 83) (p := 37) rfl ?_); (try (rw [drewN_self wr]; generalize hq_ : World.drewN wr _ = wr; have n0_ := Aside0.mk (Kd.R_at hq_ HO_6.out); have n1_ := Aside0.mk (below_at hq_ HB.out); clear hq_ HO_6 HB; have HO_6 := n0_; have HB := n1_; clear n0_ n1_; (try (have HX15 := Aside0.mk (show Kd.R k83 83 wr w.heap.size (fun _ => True) (.slice (some ⟨go14, 0, none⟩) x6_1.length co14) x6_1 from att9_0_2))); (try (obtain ⟨ce15, hcl15, hM15, hcc15, hfr15⟩ := Kd.R_elem HX15.out z83 (x8_1 : Int) (of_decide_eq_true att9_0_1) att9_1_0)); (try (obtain rfl := k83_openM hM15)); (try (have HP15 := Kd.R_seg HX15.out (x8_1 : Int) (of_decide_eq_true att9_0_1) att9_1_0 (seg := [.bool false, .int .i64 0]) (j := 0) hcl15 hcc15 (show 2 ≤ 2 from by decide) (x' := (⟨false, 0⟩ : S83)) (k83_mkM _ _ _ (⟨false, 0⟩ : S83) ) (fun _ hk => hk))); (try (have hx15_0 := hcc15 0 _ rfl)); (try (try simp only [show (k83).sz = 2 from rfl, Nat.mul_one, Nat.add_zero] at hx15_0)); (try (have hf15_0 := hfr15 0)); (try (try simp only [show (k83).sz = 2 from rfl, Nat.mul_one, Nat.add_zero] at hf15_0)); (try (have hx15_1 := hcc15 1 _ rfl)); (try (try simp only [show (k83).sz = 2 from rfl, Nat.mul_one, Nat.add_zero] at hx15_1)); (try (have hf15_1 := hfr15 1)); (try (try simp only [show (k83).sz = 2 from rfl, Nat.mul_one, Nat.add_zero] at hf15_1)); (try (clear hcl15 hcc15 hfr15 hM15)))); refine store_event (t := 83) (p := 37) (v := ?vo_w16) (w1 := ((wr.setCell ⟨go14, (x8_1 : Int).toNat * 2, none⟩ (.bool false)).setCell ⟨go14, (x8_1 : Int).toNat * 2 + 1, none⟩ (.int .i64 0))) ?hg ?ho ?hn ?hr ?_; (case ho => rfl); (case hg => rfl); (case hn => rfl); (case hr => first | (go_simp; done) | (go_simp; rfl)); intro w16 hw; have hg : wr.grownBy w16 (some go14) := (by rw [hw]; exact HP15.2); have hp_ : Kd.R k83 83 w16 w.heap.size (fun _ => True) (.slice (some ⟨go14, 0, none⟩) x6_1.length co14) y210 := (by rw [hw, Ny210.out]; exact HP15.1); clear HP15; have n0_ := Aside0.mk (hp_); have n1_ := Aside0.mk ((by rw [hw]; exact below_set (below_set (HB.out) GB14.out) GB14.out : Below w.heap.size w w16)); clear HO_6; clear HB; have HO_6 := n0_; have HB := n1_; clear n0_ n1_; clear hg hw hp_))
          repeat (go_quiet (fail); try go_wp2_with (first | ((with_reducible refine gate_store (t := 83) (p := 37) rfl ?_); (try (rw [drewN_self wr]; generalize hq_ : World.drewN wr _ = wr; have n0_ := Aside0.mk (Kd.R_at hq_ HO_6.out); have n1_ := Aside0.mk (below_at hq_ HB.out); clear hq_ HO_6 HB; have HO_6 := n0_; have HB := n1_; clear n0_ n1_; (try (have HX15 := Aside0.mk (show Kd.R k83 83 wr w.heap.size (fun _ => True) (.slice (some ⟨go14, 0, none⟩) x6_1.length co14) x6_1 from att9_0_2))); (try (obtain ⟨ce15, hcl15, hM15, hcc15, hfr15⟩ := Kd.R_elem HX15.out z83 (x8_1 : Int) (of_decide_eq_true att9_0_1) att9_1_0)); (try (obtain rfl := k83_openM hM15)); (try (have HP15 := Kd.R_seg HX15.out (x8_1 : Int) (of_decide_eq_true att9_0_1) att9_1_0 (seg := [.bool false, .int .i64 0]) (j := 0) hcl15 hcc15 (show 2 ≤ 2 from by decide) (x' := (⟨false, 0⟩ : S83)) (k83_mkM _ _ _ (⟨false, 0⟩ : S83) ) (fun _ hk => hk))); (try (have hx15_0 := hcc15 0 _ rfl)); (try (try simp only [show (k83).sz = 2 from rfl, Nat.mul_one, Nat.add_zero] at hx15_0)); (try (have hf15_0 := hfr15 0)); (try (try simp only [show (k83).sz = 2 from rfl, Nat.mul_one, Nat.add_zero] at hf15_0)); (try (have hx15_1 := hcc15 1 _ rfl)); (try (try simp only [show (k83).sz = 2 from rfl, Nat.mul_one, Nat.add_zero] at hx15_1)); (try (have hf15_1 := hfr15 1)); (try (try simp only [show (k83).sz = 2 from rfl, Nat.mul_one, Nat.add_zero] at hf15_1)); (try (clear hcl15 hcc15 hfr15 hM15)))); refine store_event (t := 83) (p := 37) (v := ?vo_w16) (w1 := ((wr.setCell ⟨go14, (x8_1 : Int).toNat * 2, none⟩ (.bool false)).setCell ⟨go14, (x8_1 : Int).toNat * 2 + 1, none⟩ (.int .i64 0))) ?hg ?ho ?hn ?hr ?_; (case ho => rfl); (case hg => rfl); (case hn => rfl); (case hr => first | (go_simp; done) | (go_simp; rfl)); intro w16 hw; have hg : wr.grownBy w16 (some go14) := (by rw [hw]; exact HP15.2); have hp_ : Kd.R k83 83 w16 w.heap.size (fun _ => True) (.slice (some ⟨go14, 0, none⟩) x6_1.length co14) y210 := (by rw [hw, Ny210.out]; exact HP15.1); clear HP15; have n0_ := Aside0.mk (hp_); have n1_ := Aside0.mk ((by rw [hw]; exact below_set (below_set (HB.out) GB14.out) GB14.out : Below w.heap.size w w16)); clear HO_6; clear HB; have HO_6 := n0_; have HB := n1_; clear n0_ n1_; clear hg hw hp_)))
          go_roundg k1
          case measure => have := HK1.out; omega
          case rel => exact ⟨(y210), (true), (wrap64 (x8_1 + 1)), att9_0_3, att9_0_3, H', ⟨by have := HK1.out; omega⟩, ⟨att9_0_2⟩, ⟨att9_0_0⟩⟩
         ·rw [if_neg c13] at H
          exact absurd H (by simp)
        ·rw [if_neg c12] at H
         have c12b0 : (!((true) == ((rd_T83 l1 x8_1).f0)) || (!(((rd_T83 l0 x8_1).f1) == ((rd_T83 l1 x8_1).f1)))) = false := by simpa using c12
         have c12d0 : (!((rd_T83 l1 x8_1).f0) || !(((rd_T83 l0 x8_1).f1) == ((rd_T83 l1 x8_1).f1))) = false := (by rw [← c12b0]; cases ((rd_T83 l1 x8_1).f0) <;> rfl)
         clear c12
         have H' := Aside0.mk H
         clear H
         have p207 : 0 ≤ (x8_1 : Int) := of_decide_eq_true att9_0_1
         have q207 : x8_1 < (l0.length : Int) := of_decide_eq_true att9_0_1
         obtain ⟨ad207, e207, hx207_0, hx207_1⟩ := at_T83 HR0.out x8_1 p207 q207
         (try rw [← Nbq9.out] at hx207_0)
         cases e207
         replace hx207_0 := (HB.out.cell (World.block_lt_of_cell? w _ hx207_0)).trans hx207_0
         replace hx207_1 := (HB.out.cell (World.block_lt_of_cell? w _ hx207_1)).trans hx207_1
         replace p207 := eq_true p207
         replace q207 := eq_true q207
         have p208 : 0 ≤ (x8_1 : Int) := of_decide_eq_true att9_0_1
         have q208 : x8_1 < (l0.length : Int) := of_decide_eq_true att9_0_1
         obtain ⟨ad208, e208, hx208_0, hx208_1⟩ := at_T83 HR0.out x8_1 p208 q208
         (try rw [← Nbq9.out] at hx208_0)
         obtain rfl : ad207 = ad208 := (by injection e208)
         replace hx208_0 := (HB.out.cell (World.block_lt_of_cell? w _ hx208_0)).trans hx208_0
         replace hx208_1 := (HB.out.cell (World.block_lt_of_cell? w _ hx208_1)).trans hx208_1
         replace p208 := eq_true p208
         replace q208 := eq_true q208
         have p209 : 0 ≤ (x8_1 : Int) := of_decide_eq_true att9_0_1
         have q209 : x8_1 < (l1.length : Int) := of_decide_eq_true att9_0_1
         obtain ⟨ad209, e209, hx209_0, hx209_1⟩ := at_T83 HR1.out x8_1 p209 q209
         (try rw [← Nbq9.out] at hx209_0)
         cases e209
         replace hx209_0 := (HB.out.cell (World.block_lt_of_cell? w _ hx209_0)).trans hx209_0
         replace hx209_1 := (HB.out.cell (World.block_lt_of_cell? w _ hx209_1)).trans hx209_1
         replace p209 := eq_true p209
         replace q209 := eq_true q209
         go_wp2
         repeat (go_quiet (fail); try go_wp2)
         go_roundg k1
         case measure => have := HK1.out; omega
         case rel => exact ⟨(x6_1), (x7_1), (wrap64 (x8_1 + 1)), att9_0_3, att9_0_3, H', ⟨by have := HK1.out; omega⟩, ⟨att9_0_2⟩, ⟨att9_0_0⟩⟩
       ·rw [if_neg c11] at H
        exact absurd H (by simp)
      ·replace c10 := Bool.eq_false_iff.mpr c10
       subst c10
       rw [if_neg (show ¬ (false = true) by decide)] at H
       have H' := Aside0.mk H
       clear H
       have p207 : 0 ≤ (x8_1 : Int) := of_decide_eq_true att9_0_1
       have q207 : x8_1 < (l0.length : Int) := of_decide_eq_true att9_0_1
       obtain ⟨ad207, e207, hx207_0, hx207_1⟩ := at_T83 HR0.out x8_1 p207 q207
       (try rw [← Nbq9.out] at hx207_0)
       cases e207
       replace hx207_0 := (HB.out.cell (World.block_lt_of_cell? w _ hx207_0)).trans hx207_0
       replace hx207_1 := (HB.out.cell (World.block_lt_of_cell? w _ hx207_1)).trans hx207_1
       replace p207 := eq_true p207
       replace q207 := eq_true q207
       go_wp2
       repeat (go_quiet (fail); try go_wp2)
       go_roundg k1
       case measure => have := HK1.out; omega
       case rel => exact ⟨(x6_1), (x7_1), (wrap64 (x8_1 + 1)), att9_0_3, att9_0_3, H', ⟨by have := HK1.out; omega⟩, ⟨att9_0_2⟩, ⟨att9_0_0⟩⟩
     ·rw [if_neg c8] at H
      exact absurd H (by simp)
    ·rw [if_neg c7] at H
     have c7b0 : decide (x8_1 < (l0.length : Int)) = false := decide_eq_false c7
     clear c7
     simp only [Option.some.injEq, Prod.mk.injEq] at H
     obtain ⟨rfl, rfl⟩ := H
     go_wp2
     repeat (go_quiet (fail); try go_wp2)
     go_ret2
     exact ⟨_, by first | rfl | (simp [errW_none, errW_some] <;> rfl) | (simp [*, errW_none, errW_some] <;> rfl), by (with_reducible repeat (first | apply Kd.R_alloc | apply Kd.R_drewN | apply Kd.R_drew)); exact HO_6.out, att9_0_0⟩
 ·rw [if_neg c3] at H
  exact absurd H (by simp)

end Go.Proofs.Ytocimkpafakiaaa.XFnExactFoldBody
