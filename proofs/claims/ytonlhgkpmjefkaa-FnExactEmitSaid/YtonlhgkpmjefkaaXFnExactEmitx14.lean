/- Each Go function that the law reaches as a Lean function, and that Go comes to just its answer; written by this session's xprint.py over the kit's printer. -/
import Derived.Test.YtonlhgkpmjefkaaXFnExactEmitx0
namespace Go.Proofs.Ytonlhgkpmjefkaa.XFnExactEmit
open Go.RowKit Go.Proofs.YtonlhgkpmjefkaaW.PrintWords Go.Proofs.YtonlhgkpmjefkaaW.PrintLast Go.Proofs.YtonlhgkpmjefkaaW.PrintMore
attribute [local go_sem] max2_int min2_int max_two min_two max_three min_three max_four min_four   -- for this text's walks alone
set_option linter.unusedVariables false
set_option linter.unusedSimpArgs false

theorem att15_0_1 {p : Prop} (h : p := by repeat (first | (with_reducible first | exact HK.out | apply Kept.alloc | apply Kept.drewN | apply Kept.drew) | exact HK.out)) : p := h
theorem att15_0_2 {p : Prop} (h : p := by exact toR_ (HO_0.out)) : p := h
theorem att15_1_0 {p : Prop} (h : p := by have h_ : (x5_1 : Int) < ((x0_1.length : Int) : Int) := of_decide_eq_true atgA_; first | exact h_ | (have e_ := (Kd.R_reads' HO_0.out).1; omega) | simpa using h_) : p := h
/-! ### laws_markStepS: function 69 -/
def laws_markStepS.l0 : Nat → List (S46) → Int → Int → Option (Int × (List (S46)))
 | 0, _, _, _ => none
 | k + 1, x0, x1, x5 => if x5 < (x0.length : Int) then (if 0 ≤ x5 then ((some (x0.set (x5 : Int).toNat (⟨x1, (rd_T46 x0 x5).f1, (rd_T46 x0 x5).f2, (rd_T46 x0 x5).f3, (rd_T46 x0 x5).f4⟩ : S46) : List (S46))).bind fun y671 => ((some (y671.set (x5 : Int).toNat (⟨(rd_T46 y671 x5).f0, wrap64 (x1 + 1), (rd_T46 y671 x5).f2, (rd_T46 y671 x5).f3, (rd_T46 y671 x5).f4⟩ : S46) : List (S46))).bind fun y672 => ((some (y672.set (x5 : Int).toNat (⟨(rd_T46 y672 x5).f0, (rd_T46 y672 x5).f1, wrap64 ((wrap64 (x1 + 1)) + 1), (rd_T46 y672 x5).f3, (rd_T46 y672 x5).f4⟩ : S46) : List (S46))).bind fun y673 => ((some (y673.set (x5 : Int).toNat (⟨(rd_T46 y673 x5).f0, (rd_T46 y673 x5).f1, (rd_T46 y673 x5).f2, wrap64 ((wrap64 ((wrap64 (x1 + 1)) + 1)) + 1), (rd_T46 y673 x5).f4⟩ : S46) : List (S46))).bind fun y674 => (laws_markStepS.l0 k (y674.set (x5 : Int).toNat (⟨(rd_T46 y674 x5).f0, (rd_T46 y674 x5).f1, (rd_T46 y674 x5).f2, (rd_T46 y674 x5).f3, wrap64 ((wrap64 ((wrap64 ((wrap64 (x1 + 1)) + 1)) + 1)) + 1)⟩ : S46)) (wrap64 ((wrap64 ((wrap64 ((wrap64 ((wrap64 (x1 + 1)) + 1)) + 1)) + 1)) + 1)) (wrap64 (x5 + 1))))))) else (none)) else (some (x1, x0))
def laws_markStepS.f (k : Nat) (l0 : List (S46)) (a1 : Int) : Option (Int × (List (S46))) := laws_markStepS.l0 k l0 a1 0
theorem laws_markStepS.mono_l : ∀ k, (∀ y0 y1 y2, LeO (laws_markStepS.l0 k y0 y1 y2) (laws_markStepS.l0 (k + 1) y0 y1 y2))
 | 0 => fun _ _ _ r h => by simp [laws_markStepS.l0] at h
 | k + 1 => by
  have ih0 := laws_markStepS.mono_l k
  ·intro y0 y1 y2
   unfold laws_markStepS.l0
   repeat' (with_reducible first | exact ih0 .. | exact LeO.refl _ | exact LeO.none _ | refine LeO.ite ?_ ?_ | refine LeO.bind ?_ (fun _ => ?_))
theorem laws_markStepS.mono : ∀ a0 a1 k, LeO (laws_markStepS.f k a0 a1) (laws_markStepS.f (k + 1) a0 a1) := by
 intro a0 a1 k
 have ih0 := laws_markStepS.mono_l k
 unfold laws_markStepS.f
 repeat' (with_reducible first | exact ih0 .. | exact LeO.refl _ | exact LeO.none _ | refine LeO.ite ?_ ?_ | refine LeO.bind ?_ (fun _ => ?_))
set_option maxHeartbeats 80000000 in
set_option maxRecDepth 100000 in
theorem laws_markStepS.calls (k : Nat) (P0_ : Nat → Prop) (u9000_ : Value) (l0 : List (S46)) (a1 : Int) (r1 : Int) (r2 : List (S46)) (w0 w : World) (hB : Below w0.heap.size w0 w) (ho0 : Kd.R k46 46 w w0.heap.size P0_ u9000_ l0) (h : laws_markStepS.f k l0 a1 = some (r1, r2)) :
  Calls Try.prog 69 #[u9000_, .int .i64 a1] w fun e w' => e = .returned (.int .i64 r1) ∧ Kd.R k46 46 w' w0.heap.size (fun k_ => (P0_ k_ ∨ w.heap.size ≤ k_)) u9000_ r2 ∧ Below w0.heap.size w0 w' ∧ Kept w w' (fun k_ => P0_ k_) := by
 have HO0 := Aside0.mk (show Kd.R k46 46 w w0.heap.size (fun k_ => (P0_ k_ ∨ w.heap.size ≤ k_)) u9000_ l0 from Kd.R_mono ho0 (fun k_ hk => (.inl hk)))
 have HK := Aside0.mk (Kept.refl w (fun k_ => P0_ k_))
 have HW0 := Aside0.mk hB.size
 have HB := Aside0.mk hB
 clear hB
 have H : (laws_markStepS.l0 k l0 a1 0) = some (r1, r2) := h
 clear h
 have H' := Aside0.mk H
 clear H
 go_enter Try.func69, Try.ntmps69
 go_wp2
 go_loopg [1, 5] k (fun kq v1 v5 w' => ∃ (x0_1 : List (S46)) (x1_1 : Int) (x5_1 : Int), v1 = .int .i64 x1_1 ∧ v5 = .int .i64 x5_1 ∧ Aside0 (laws_markStepS.l0 kq x0_1 x1_1 x5_1 = some (r1, r2)) ∧ Aside0 (kq ≤ k) ∧ Aside0 (Kd.R k46 46 w' w0.heap.size (fun k_ => (P0_ k_ ∨ w.heap.size ≤ k_)) u9000_ x0_1) ∧ Aside0 (Kept w w' (fun k_ => P0_ k_)) ∧ Aside0 (Below w0.heap.size w0 w'))
 case atStart => exact ⟨(l0), (a1), (0), atgR_, atgR_, H', ⟨Nat.le_refl _⟩, ⟨by exact toR_ (HO0.out)⟩, ⟨att15_0_1⟩, ⟨atgB_⟩⟩
 case round =>
  clear H'
  try clear p2
  obtain ⟨x0_1, x1_1, x5_1, rfl, rfl, HA, HK1, HO_0, HK, HB⟩ := hrel
  cases gk with
  | zero => exact absurd HA.out (by simp [laws_markStepS.l0])
  | succ k1 =>
   have H := HA.out
   clear HA
   simp only [laws_markStepS.l0] at H
   by_cases c3 : x5_1 < (x0_1.length : Int)
   ·rw [if_pos c3] at H
    have c3b0 := decide_eq_true c3
    clear c3
    by_cases c4 : 0 ≤ x5_1
    ·rw [if_pos c4] at H
     have c4b0 := decide_eq_true c4
     clear c4
     obtain ⟨y671, hy671⟩ : ∃ y_ : List (S46), y_ = (x0_1.set (x5_1 : Int).toNat (⟨x1_1, (rd_T46 x0_1 x5_1).f1, (rd_T46 x0_1 x5_1).f2, (rd_T46 x0_1 x5_1).f3, (rd_T46 x0_1 x5_1).f4⟩ : S46)) := ⟨_, rfl⟩
     replace H := yy_ H hy671
     have Ny671 := Aside0.mk hy671
     clear hy671
     obtain ⟨y672, hy672⟩ : ∃ y_ : List (S46), y_ = (y671.set (x5_1 : Int).toNat (⟨(rd_T46 y671 x5_1).f0, wrap64 (x1_1 + 1), (rd_T46 y671 x5_1).f2, (rd_T46 y671 x5_1).f3, (rd_T46 y671 x5_1).f4⟩ : S46)) := ⟨_, rfl⟩
     replace H := yy_ H hy672
     have Ny672 := Aside0.mk hy672
     clear hy672
     obtain ⟨y673, hy673⟩ : ∃ y_ : List (S46), y_ = (y672.set (x5_1 : Int).toNat (⟨(rd_T46 y672 x5_1).f0, (rd_T46 y672 x5_1).f1, wrap64 ((wrap64 (x1_1 + 1)) + 1), (rd_T46 y672 x5_1).f3, (rd_T46 y672 x5_1).f4⟩ : S46)) := ⟨_, rfl⟩
     replace H := yy_ H hy673
     have Ny673 := Aside0.mk hy673
     clear hy673
     obtain ⟨y674, hy674⟩ : ∃ y_ : List (S46), y_ = (y673.set (x5_1 : Int).toNat (⟨(rd_T46 y673 x5_1).f0, (rd_T46 y673 x5_1).f1, (rd_T46 y673 x5_1).f2, wrap64 ((wrap64 ((wrap64 (x1_1 + 1)) + 1)) + 1), (rd_T46 y673 x5_1).f4⟩ : S46)) := ⟨_, rfl⟩
     replace H := yy_ H hy674
     have Ny674 := Aside0.mk hy674
     clear hy674
     obtain ⟨y675, hy675⟩ : ∃ y_ : List (S46), y_ = (y674.set (x5_1 : Int).toNat (⟨(rd_T46 y674 x5_1).f0, (rd_T46 y674 x5_1).f1, (rd_T46 y674 x5_1).f2, (rd_T46 y674 x5_1).f3, wrap64 ((wrap64 ((wrap64 ((wrap64 (x1_1 + 1)) + 1)) + 1)) + 1)⟩ : S46)) := ⟨_, rfl⟩
     replace H : (laws_markStepS.l0 k1 y675 (wrap64 ((wrap64 ((wrap64 ((wrap64 ((wrap64 (x1_1 + 1)) + 1)) + 1)) + 1)) + 1)) (wrap64 (x5_1 + 1))) = some (r1, r2) := by rw [hy675]; exact H
     have Ny675 := Aside0.mk hy675
     clear hy675
     have H' := Aside0.mk H
     clear H
     obtain ⟨Ao10, co10, eo10⟩ := Kd.R_slice HO_0.out
     subst eo10
     have p5 : 0 ≤ (x5_1 : Int) := of_decide_eq_true atgA_
     have q5 : (x5_1 : Int) < ((x0_1.length : Int) : Int) := of_decide_eq_true atgA_
     obtain ⟨go5, co5, eo5, gb5, gl5, cl5, HG5⟩ := Kd.R_form HO_0.out (by omega)
     (first | cases eo5 | (injection eo5 with ea_ en_ ec_; (first | subst ea_ | (injection ea_ with ea_; subst ea_)); subst ec_; clear en_))
     have GB5 := Aside0.mk gb5
     have GG5 := Aside0.mk HG5
     clear gb5 gl5 HG5
     have HMgo5 := Aside0.mk (show (P0_ go5 ∨ w.heap.size ≤ go5) from (HO_0.out.1 _ rfl))
     obtain ⟨ce5, hcl5, hM5, hcc5, hfr5⟩ := Kd.R_elem HO_0.out z46 (x5_1 : Int) p5 q5
     obtain rfl := k46_openM hM5
     have hx5_0 : wr.cell? ⟨go5, (x5_1 : Int).toNat * 5, none⟩ = some (.int .i64 ((rd_T46 x0_1 x5_1).f0)) := hcc5 0 _ rfl
     have hx5_1 : wr.cell? ⟨go5, (x5_1 : Int).toNat * 5 + 1, none⟩ = some (.int .i64 ((rd_T46 x0_1 x5_1).f1)) := hcc5 1 _ rfl
     have hx5_2 : wr.cell? ⟨go5, (x5_1 : Int).toNat * 5 + 2, none⟩ = some (.int .i64 ((rd_T46 x0_1 x5_1).f2)) := hcc5 2 _ rfl
     have hx5_3 : wr.cell? ⟨go5, (x5_1 : Int).toNat * 5 + 3, none⟩ = some (.int .i64 ((rd_T46 x0_1 x5_1).f3)) := hcc5 3 _ rfl
     have hx5_4 : wr.cell? ⟨go5, (x5_1 : Int).toNat * 5 + 4, none⟩ = some (.int .i64 ((rd_T46 x0_1 x5_1).f4)) := hcc5 4 _ rfl
     have hf5_0 : wr.frozen? ⟨go5, (x5_1 : Int).toNat * 5, none⟩ = false := hfr5 0
     have hf5_1 : wr.frozen? ⟨go5, (x5_1 : Int).toNat * 5 + 1, none⟩ = false := hfr5 1
     have hf5_2 : wr.frozen? ⟨go5, (x5_1 : Int).toNat * 5 + 2, none⟩ = false := hfr5 2
     have hf5_3 : wr.frozen? ⟨go5, (x5_1 : Int).toNat * 5 + 3, none⟩ = false := hfr5 3
     have hf5_4 : wr.frozen? ⟨go5, (x5_1 : Int).toNat * 5 + 4, none⟩ = false := hfr5 4
     clear hcl5 hcc5 hfr5 hM5
     replace p5 := eq_true p5
     replace q5 := eq_true q5
     have HX11 := Aside0.mk (show Kd.R k46 46 wr w0.heap.size (fun k_ => (P0_ k_ ∨ w.heap.size ≤ k_)) (.slice (some ⟨go5, 0, none⟩) x0_1.length co10) x0_1 from att15_0_2)
     obtain ⟨ce11, hcl11, hM11, hcc11, hfr11⟩ := Kd.R_elem HX11.out z46 (x5_1 : Int) (of_decide_eq_true atgA_) att15_1_0
     obtain rfl := k46_openM hM11
     have HP11 := Kd.R_seg HX11.out (x5_1 : Int) (of_decide_eq_true atgA_) att15_1_0 (seg := [.int .i64 x1_1]) (j := 0) hcl11 hcc11 (show 1 ≤ 5 from by decide) (x' := (⟨x1_1, (rd_T46 x0_1 x5_1).f1, (rd_T46 x0_1 x5_1).f2, (rd_T46 x0_1 x5_1).f3, (rd_T46 x0_1 x5_1).f4⟩ : S46)) (k46_mkM _ _ _ (⟨x1_1, (rd_T46 x0_1 x5_1).f1, (rd_T46 x0_1 x5_1).f2, (rd_T46 x0_1 x5_1).f3, (rd_T46 x0_1 x5_1).f4⟩ : S46) ) (fun _ hk => hk)
     have hx11_0 := hcc11 0 _ rfl
     (try simp only [show (k46).sz = 5 from rfl, Nat.mul_one, Nat.add_zero] at hx11_0)
     have hf11_0 := hfr11 0
     (try simp only [show (k46).sz = 5 from rfl, Nat.mul_one, Nat.add_zero] at hf11_0)
     clear hcl11 hcc11 hfr11 hM11
     go_wp2_with (first | ((with_reducible refine gate_store (t := 3) (p := 16) rfl ?_); refine store_event (t := 3) (p := 16) (v := ?vo_w12) (w1 := (wr.setCell ⟨go5, (x5_1 : Int).toNat * 5, none⟩ (.int .i64 x1_1))) ?hg ?ho ?hn ?hr ?_; (case ho => rfl); (case hg => rfl); (case hn => rfl); (case hr => first | (go_simp; done) | (go_simp; rfl)); intro w12 hw; have hg : wr.grownBy w12 (some go5) := (by rw [hw]; exact HP11.2); have hp_ : Kd.R k46 46 w12 w0.heap.size (fun k_ => (P0_ k_ ∨ w.heap.size ≤ k_)) (.slice (some ⟨go5, 0, none⟩) x0_1.length co10) y671 := (by rw [hw, Ny671.out]; exact HP11.1); clear HP11; refine swap3_ (hp_) ((by rw [hw]; exact below_set (HB.out) GB5.out : Below w0.heap.size w0 w12)) (Kept.of_grown (S := (fun k_ => P0_ k_)) hg att15_0_1 (fun k_ e_ => (HO_0.out.1 k_ e_))) ?_; clear HO_0 HB HK; intro HO_0 HB HK; clear hg hw hp_; have p6 : 0 ≤ (x5_1 : Int) := of_decide_eq_true atgA_; have q6 : (x5_1 : Int) < ((x0_1.length : Int) : Int) := of_decide_eq_true atgA_; obtain ⟨ce6, hcl6, hM6, hcc6, hfr6⟩ := Kd.R_elem HO_0.out z46 (x5_1 : Int) p6 q6; obtain rfl := k46_openM hM6; have hx6_0 : w12.cell? ⟨go5, (x5_1 : Int).toNat * 5, none⟩ = some (.int .i64 ((rd_T46 y671 x5_1).f0)) := hcc6 0 _ rfl; have hx6_1 : w12.cell? ⟨go5, (x5_1 : Int).toNat * 5 + 1, none⟩ = some (.int .i64 ((rd_T46 y671 x5_1).f1)) := hcc6 1 _ rfl; have hx6_2 : w12.cell? ⟨go5, (x5_1 : Int).toNat * 5 + 2, none⟩ = some (.int .i64 ((rd_T46 y671 x5_1).f2)) := hcc6 2 _ rfl; have hx6_3 : w12.cell? ⟨go5, (x5_1 : Int).toNat * 5 + 3, none⟩ = some (.int .i64 ((rd_T46 y671 x5_1).f3)) := hcc6 3 _ rfl; have hx6_4 : w12.cell? ⟨go5, (x5_1 : Int).toNat * 5 + 4, none⟩ = some (.int .i64 ((rd_T46 y671 x5_1).f4)) := hcc6 4 _ rfl; have hf6_0 : w12.frozen? ⟨go5, (x5_1 : Int).toNat * 5, none⟩ = false := hfr6 0; have hf6_1 : w12.frozen? ⟨go5, (x5_1 : Int).toNat * 5 + 1, none⟩ = false := hfr6 1; have hf6_2 : w12.frozen? ⟨go5, (x5_1 : Int).toNat * 5 + 2, none⟩ = false := hfr6 2; have hf6_3 : w12.frozen? ⟨go5, (x5_1 : Int).toNat * 5 + 3, none⟩ = false := hfr6 3; have hf6_4 : w12.frozen? ⟨go5, (x5_1 : Int).toNat * 5 + 4, none⟩ = false := hfr6 4; clear hcl6 hcc6 hfr6 hM6; replace p6 := eq_true p6; replace q6 := eq_true q6; have HX13 := Aside0.mk (show Kd.R k46 46 w12 w0.heap.size (fun k_ => (P0_ k_ ∨ w.heap.size ≤ k_)) (.slice (some ⟨go5, 0, none⟩) x0_1.length co10) y671 from att15_0_2); obtain ⟨ce13, hcl13, hM13, hcc13, hfr13⟩ := Kd.R_elem HX13.out z46 (x5_1 : Int) (of_decide_eq_true atgA_) att15_1_0; obtain rfl := k46_openM hM13; have HP13 := Kd.R_seg HX13.out (x5_1 : Int) (of_decide_eq_true atgA_) att15_1_0 (seg := [.int .i64 (wrap64 (x1_1 + 1))]) (j := 1) hcl13 hcc13 (show 2 ≤ 5 from by decide) (x' := (⟨(rd_T46 y671 x5_1).f0, wrap64 (x1_1 + 1), (rd_T46 y671 x5_1).f2, (rd_T46 y671 x5_1).f3, (rd_T46 y671 x5_1).f4⟩ : S46)) (k46_mkM _ _ _ (⟨(rd_T46 y671 x5_1).f0, wrap64 (x1_1 + 1), (rd_T46 y671 x5_1).f2, (rd_T46 y671 x5_1).f3, (rd_T46 y671 x5_1).f4⟩ : S46) ) (fun _ hk => hk); have hx13_1 := hcc13 1 _ rfl; (try simp only [show (k46).sz = 5 from rfl, Nat.mul_one, Nat.add_zero] at hx13_1); have hf13_1 := hfr13 1; (try simp only [show (k46).sz = 5 from rfl, Nat.mul_one, Nat.add_zero] at hf13_1); clear hcl13 hcc13 hfr13 hM13) | ((with_reducible refine gate_store (t := 3) (p := 23) rfl ?_); refine store_event (t := 3) (p := 23) (v := ?vo_w14) (w1 := (w12.setCell ⟨go5, (x5_1 : Int).toNat * 5 + 1, none⟩ (.int .i64 (wrap64 (x1_1 + 1))))) ?hg ?ho ?hn ?hr ?_; (case ho => rfl); (case hg => rfl); (case hn => rfl); (case hr => first | (go_simp; done) | (go_simp; rfl)); intro w14 hw; have hg : w12.grownBy w14 (some go5) := (by rw [hw]; exact HP13.2); have hp_ : Kd.R k46 46 w14 w0.heap.size (fun k_ => (P0_ k_ ∨ w.heap.size ≤ k_)) (.slice (some ⟨go5, 0, none⟩) x0_1.length co10) y672 := (by rw [hw, Ny672.out]; exact HP13.1); clear HP13; refine swap3_ (hp_) ((by rw [hw]; exact below_set (HB.out) GB5.out : Below w0.heap.size w0 w14)) (Kept.of_grown (S := (fun k_ => P0_ k_)) hg att15_0_1 (fun k_ e_ => (HO_0.out.1 k_ e_))) ?_; clear HO_0 HB HK; intro HO_0 HB HK; clear hg hw hp_; have p7 : 0 ≤ (x5_1 : Int) := of_decide_eq_true atgA_; have q7 : (x5_1 : Int) < ((x0_1.length : Int) : Int) := of_decide_eq_true atgA_; obtain ⟨ce7, hcl7, hM7, hcc7, hfr7⟩ := Kd.R_elem HO_0.out z46 (x5_1 : Int) p7 q7; obtain rfl := k46_openM hM7; have hx7_0 : w14.cell? ⟨go5, (x5_1 : Int).toNat * 5, none⟩ = some (.int .i64 ((rd_T46 y672 x5_1).f0)) := hcc7 0 _ rfl; have hx7_1 : w14.cell? ⟨go5, (x5_1 : Int).toNat * 5 + 1, none⟩ = some (.int .i64 ((rd_T46 y672 x5_1).f1)) := hcc7 1 _ rfl; have hx7_2 : w14.cell? ⟨go5, (x5_1 : Int).toNat * 5 + 2, none⟩ = some (.int .i64 ((rd_T46 y672 x5_1).f2)) := hcc7 2 _ rfl; have hx7_3 : w14.cell? ⟨go5, (x5_1 : Int).toNat * 5 + 3, none⟩ = some (.int .i64 ((rd_T46 y672 x5_1).f3)) := hcc7 3 _ rfl; have hx7_4 : w14.cell? ⟨go5, (x5_1 : Int).toNat * 5 + 4, none⟩ = some (.int .i64 ((rd_T46 y672 x5_1).f4)) := hcc7 4 _ rfl; have hf7_0 : w14.frozen? ⟨go5, (x5_1 : Int).toNat * 5, none⟩ = false := hfr7 0; have hf7_1 : w14.frozen? ⟨go5, (x5_1 : Int).toNat * 5 + 1, none⟩ = false := hfr7 1; have hf7_2 : w14.frozen? ⟨go5, (x5_1 : Int).toNat * 5 + 2, none⟩ = false := hfr7 2; have hf7_3 : w14.frozen? ⟨go5, (x5_1 : Int).toNat * 5 + 3, none⟩ = false := hfr7 3; have hf7_4 : w14.frozen? ⟨go5, (x5_1 : Int).toNat * 5 + 4, none⟩ = false := hfr7 4; clear hcl7 hcc7 hfr7 hM7; replace p7 := eq_true p7; replace q7 := eq_true q7; have HX15 := Aside0.mk (show Kd.R k46 46 w14 w0.heap.size (fun k_ => (P0_ k_ ∨ w.heap.size ≤ k_)) (.slice (some ⟨go5, 0, none⟩) x0_1.length co10) y672 from att15_0_2); obtain ⟨ce15, hcl15, hM15, hcc15, hfr15⟩ := Kd.R_elem HX15.out z46 (x5_1 : Int) (of_decide_eq_true atgA_) att15_1_0; obtain rfl := k46_openM hM15; have HP15 := Kd.R_seg HX15.out (x5_1 : Int) (of_decide_eq_true atgA_) att15_1_0 (seg := [.int .i64 (wrap64 ((wrap64 (x1_1 + 1)) + 1))]) (j := 2) hcl15 hcc15 (show 3 ≤ 5 from by decide) (x' := (⟨(rd_T46 y672 x5_1).f0, (rd_T46 y672 x5_1).f1, wrap64 ((wrap64 (x1_1 + 1)) + 1), (rd_T46 y672 x5_1).f3, (rd_T46 y672 x5_1).f4⟩ : S46)) (k46_mkM _ _ _ (⟨(rd_T46 y672 x5_1).f0, (rd_T46 y672 x5_1).f1, wrap64 ((wrap64 (x1_1 + 1)) + 1), (rd_T46 y672 x5_1).f3, (rd_T46 y672 x5_1).f4⟩ : S46) ) (fun _ hk => hk); have hx15_2 := hcc15 2 _ rfl; (try simp only [show (k46).sz = 5 from rfl, Nat.mul_one, Nat.add_zero] at hx15_2); have hf15_2 := hfr15 2; (try simp only [show (k46).sz = 5 from rfl, Nat.mul_one, Nat.add_zero] at hf15_2); clear hcl15 hcc15 hfr15 hM15) | ((with_reducible refine gate_store (t := 3) (p := 30) rfl ?_); refine store_event (t := 3) (p := 30) (v := ?vo_w16) (w1 := (w14.setCell ⟨go5, (x5_1 : Int).toNat * 5 + 2, none⟩ (.int .i64 (wrap64 ((wrap64 (x1_1 + 1)) + 1))))) ?hg ?ho ?hn ?hr ?_; (case ho => rfl); (case hg => rfl); (case hn => rfl); (case hr => first | (go_simp; done) | (go_simp; rfl)); intro w16 hw; have hg : w14.grownBy w16 (some go5) := (by rw [hw]; exact HP15.2); have hp_ : Kd.R k46 46 w16 w0.heap.size (fun k_ => (P0_ k_ ∨ w.heap.size ≤ k_)) (.slice (some ⟨go5, 0, none⟩) x0_1.length co10) y673 := (by rw [hw, Ny673.out]; exact HP15.1); clear HP15; refine swap3_ (hp_) ((by rw [hw]; exact below_set (HB.out) GB5.out : Below w0.heap.size w0 w16)) (Kept.of_grown (S := (fun k_ => P0_ k_)) hg att15_0_1 (fun k_ e_ => (HO_0.out.1 k_ e_))) ?_; clear HO_0 HB HK; intro HO_0 HB HK; clear hg hw hp_; have p8 : 0 ≤ (x5_1 : Int) := of_decide_eq_true atgA_; have q8 : (x5_1 : Int) < ((x0_1.length : Int) : Int) := of_decide_eq_true atgA_; obtain ⟨ce8, hcl8, hM8, hcc8, hfr8⟩ := Kd.R_elem HO_0.out z46 (x5_1 : Int) p8 q8; obtain rfl := k46_openM hM8; have hx8_0 : w16.cell? ⟨go5, (x5_1 : Int).toNat * 5, none⟩ = some (.int .i64 ((rd_T46 y673 x5_1).f0)) := hcc8 0 _ rfl; have hx8_1 : w16.cell? ⟨go5, (x5_1 : Int).toNat * 5 + 1, none⟩ = some (.int .i64 ((rd_T46 y673 x5_1).f1)) := hcc8 1 _ rfl; have hx8_2 : w16.cell? ⟨go5, (x5_1 : Int).toNat * 5 + 2, none⟩ = some (.int .i64 ((rd_T46 y673 x5_1).f2)) := hcc8 2 _ rfl; have hx8_3 : w16.cell? ⟨go5, (x5_1 : Int).toNat * 5 + 3, none⟩ = some (.int .i64 ((rd_T46 y673 x5_1).f3)) := hcc8 3 _ rfl; have hx8_4 : w16.cell? ⟨go5, (x5_1 : Int).toNat * 5 + 4, none⟩ = some (.int .i64 ((rd_T46 y673 x5_1).f4)) := hcc8 4 _ rfl; have hf8_0 : w16.frozen? ⟨go5, (x5_1 : Int).toNat * 5, none⟩ = false := hfr8 0; have hf8_1 : w16.frozen? ⟨go5, (x5_1 : Int).toNat * 5 + 1, none⟩ = false := hfr8 1; have hf8_2 : w16.frozen? ⟨go5, (x5_1 : Int).toNat * 5 + 2, none⟩ = false := hfr8 2; have hf8_3 : w16.frozen? ⟨go5, (x5_1 : Int).toNat * 5 + 3, none⟩ = false := hfr8 3; have hf8_4 : w16.frozen? ⟨go5, (x5_1 : Int).toNat * 5 + 4, none⟩ = false := hfr8 4; clear hcl8 hcc8 hfr8 hM8; replace p8 := eq_true p8; replace q8 := eq_true q8; have HX17 := Aside0.mk (show Kd.R k46 46 w16 w0.heap.size (fun k_ => (P0_ k_ ∨ w.heap.size ≤ k_)) (.slice (some ⟨go5, 0, none⟩) x0_1.length co10) y673 from att15_0_2); obtain ⟨ce17, hcl17, hM17, hcc17, hfr17⟩ := Kd.R_elem HX17.out z46 (x5_1 : Int) (of_decide_eq_true atgA_) att15_1_0; obtain rfl := k46_openM hM17; have HP17 := Kd.R_seg HX17.out (x5_1 : Int) (of_decide_eq_true atgA_) att15_1_0 (seg := [.int .i64 (wrap64 ((wrap64 ((wrap64 (x1_1 + 1)) + 1)) + 1))]) (j := 3) hcl17 hcc17 (show 4 ≤ 5 from by decide) (x' := (⟨(rd_T46 y673 x5_1).f0, (rd_T46 y673 x5_1).f1, (rd_T46 y673 x5_1).f2, wrap64 ((wrap64 ((wrap64 (x1_1 + 1)) + 1)) + 1), (rd_T46 y673 x5_1).f4⟩ : S46)) (k46_mkM _ _ _ (⟨(rd_T46 y673 x5_1).f0, (rd_T46 y673 x5_1).f1, (rd_T46 y673 x5_1).f2, wrap64 ((wrap64 ((wrap64 (x1_1 + 1)) + 1)) + 1), (rd_T46 y673 x5_1).f4⟩ : S46) ) (fun _ hk => hk); have hx17_3 := hcc17 3 _ rfl; (try simp only [show (k46).sz = 5 from rfl, Nat.mul_one, Nat.add_zero] at hx17_3); have hf17_3 := hfr17 3; (try simp only [show (k46).sz = 5 from rfl, Nat.mul_one, Nat.add_zero] at hf17_3); clear hcl17 hcc17 hfr17 hM17) | ((with_reducible refine gate_store (t := 3) (p := 37) rfl ?_); refine store_event (t := 3) (p := 37) (v := ?vo_w18) (w1 := (w16.setCell ⟨go5, (x5_1 : Int).toNat * 5 + 3, none⟩ (.int .i64 (wrap64 ((wrap64 ((wrap64 (x1_1 + 1)) + 1)) + 1))))) ?hg ?ho ?hn ?hr ?_; (case ho => rfl); (case hg => rfl); (case hn => rfl); (case hr => first | (go_simp; done) | (go_simp; rfl)); intro w18 hw; have hg : w16.grownBy w18 (some go5) := (by rw [hw]; exact HP17.2); have hp_ : Kd.R k46 46 w18 w0.heap.size (fun k_ => (P0_ k_ ∨ w.heap.size ≤ k_)) (.slice (some ⟨go5, 0, none⟩) x0_1.length co10) y674 := (by rw [hw, Ny674.out]; exact HP17.1); clear HP17; refine swap3_ (hp_) ((by rw [hw]; exact below_set (HB.out) GB5.out : Below w0.heap.size w0 w18)) (Kept.of_grown (S := (fun k_ => P0_ k_)) hg att15_0_1 (fun k_ e_ => (HO_0.out.1 k_ e_))) ?_; clear HO_0 HB HK; intro HO_0 HB HK; clear hg hw hp_; have p9 : 0 ≤ (x5_1 : Int) := of_decide_eq_true atgA_; have q9 : (x5_1 : Int) < ((x0_1.length : Int) : Int) := of_decide_eq_true atgA_; obtain ⟨ce9, hcl9, hM9, hcc9, hfr9⟩ := Kd.R_elem HO_0.out z46 (x5_1 : Int) p9 q9; obtain rfl := k46_openM hM9; have hx9_0 : w18.cell? ⟨go5, (x5_1 : Int).toNat * 5, none⟩ = some (.int .i64 ((rd_T46 y674 x5_1).f0)) := hcc9 0 _ rfl; have hx9_1 : w18.cell? ⟨go5, (x5_1 : Int).toNat * 5 + 1, none⟩ = some (.int .i64 ((rd_T46 y674 x5_1).f1)) := hcc9 1 _ rfl; have hx9_2 : w18.cell? ⟨go5, (x5_1 : Int).toNat * 5 + 2, none⟩ = some (.int .i64 ((rd_T46 y674 x5_1).f2)) := hcc9 2 _ rfl; have hx9_3 : w18.cell? ⟨go5, (x5_1 : Int).toNat * 5 + 3, none⟩ = some (.int .i64 ((rd_T46 y674 x5_1).f3)) := hcc9 3 _ rfl; have hx9_4 : w18.cell? ⟨go5, (x5_1 : Int).toNat * 5 + 4, none⟩ = some (.int .i64 ((rd_T46 y674 x5_1).f4)) := hcc9 4 _ rfl; have hf9_0 : w18.frozen? ⟨go5, (x5_1 : Int).toNat * 5, none⟩ = false := hfr9 0; have hf9_1 : w18.frozen? ⟨go5, (x5_1 : Int).toNat * 5 + 1, none⟩ = false := hfr9 1; have hf9_2 : w18.frozen? ⟨go5, (x5_1 : Int).toNat * 5 + 2, none⟩ = false := hfr9 2; have hf9_3 : w18.frozen? ⟨go5, (x5_1 : Int).toNat * 5 + 3, none⟩ = false := hfr9 3; have hf9_4 : w18.frozen? ⟨go5, (x5_1 : Int).toNat * 5 + 4, none⟩ = false := hfr9 4; clear hcl9 hcc9 hfr9 hM9; replace p9 := eq_true p9; replace q9 := eq_true q9; have HX19 := Aside0.mk (show Kd.R k46 46 w18 w0.heap.size (fun k_ => (P0_ k_ ∨ w.heap.size ≤ k_)) (.slice (some ⟨go5, 0, none⟩) x0_1.length co10) y674 from att15_0_2); obtain ⟨ce19, hcl19, hM19, hcc19, hfr19⟩ := Kd.R_elem HX19.out z46 (x5_1 : Int) (of_decide_eq_true atgA_) att15_1_0; obtain rfl := k46_openM hM19; have HP19 := Kd.R_seg HX19.out (x5_1 : Int) (of_decide_eq_true atgA_) att15_1_0 (seg := [.int .i64 (wrap64 ((wrap64 ((wrap64 ((wrap64 (x1_1 + 1)) + 1)) + 1)) + 1))]) (j := 4) hcl19 hcc19 (show 5 ≤ 5 from by decide) (x' := (⟨(rd_T46 y674 x5_1).f0, (rd_T46 y674 x5_1).f1, (rd_T46 y674 x5_1).f2, (rd_T46 y674 x5_1).f3, wrap64 ((wrap64 ((wrap64 ((wrap64 (x1_1 + 1)) + 1)) + 1)) + 1)⟩ : S46)) (k46_mkM _ _ _ (⟨(rd_T46 y674 x5_1).f0, (rd_T46 y674 x5_1).f1, (rd_T46 y674 x5_1).f2, (rd_T46 y674 x5_1).f3, wrap64 ((wrap64 ((wrap64 ((wrap64 (x1_1 + 1)) + 1)) + 1)) + 1)⟩ : S46) ) (fun _ hk => hk); have hx19_4 := hcc19 4 _ rfl; (try simp only [show (k46).sz = 5 from rfl, Nat.mul_one, Nat.add_zero] at hx19_4); have hf19_4 := hfr19 4; (try simp only [show (k46).sz = 5 from rfl, Nat.mul_one, Nat.add_zero] at hf19_4); clear hcl19 hcc19 hfr19 hM19) | ((with_reducible refine gate_store (t := 3) (p := 44) rfl ?_); refine store_event (t := 3) (p := 44) (v := ?vo_w20) (w1 := (w18.setCell ⟨go5, (x5_1 : Int).toNat * 5 + 4, none⟩ (.int .i64 (wrap64 ((wrap64 ((wrap64 ((wrap64 (x1_1 + 1)) + 1)) + 1)) + 1))))) ?hg ?ho ?hn ?hr ?_; (case ho => rfl); (case hg => rfl); (case hn => rfl); (case hr => first | (go_simp; done) | (go_simp; rfl)); intro w20 hw; have hg : w18.grownBy w20 (some go5) := (by rw [hw]; exact HP19.2); have hp_ : Kd.R k46 46 w20 w0.heap.size (fun k_ => (P0_ k_ ∨ w.heap.size ≤ k_)) (.slice (some ⟨go5, 0, none⟩) x0_1.length co10) y675 := (by rw [hw, Ny675.out]; exact HP19.1); clear HP19; refine swap3_ (hp_) ((by rw [hw]; exact below_set (HB.out) GB5.out : Below w0.heap.size w0 w20)) (Kept.of_grown (S := (fun k_ => P0_ k_)) hg att15_0_1 (fun k_ e_ => (HO_0.out.1 k_ e_))) ?_; clear HO_0 HB HK; intro HO_0 HB HK; clear hg hw hp_))
     go_roundg k1
     case measure => have := HK1.out; omega
     case rel => exact ⟨(y675), (wrap64 ((wrap64 ((wrap64 ((wrap64 ((wrap64 (x1_1 + 1)) + 1)) + 1)) + 1)) + 1)), (wrap64 (x5_1 + 1)), atgR_, atgR_, H', ⟨by have := HK1.out; omega⟩, ⟨att15_0_2⟩, ⟨att15_0_1⟩, ⟨atgB_⟩⟩
    ·rw [if_neg c4] at H
     exact absurd H (by simp)
   ·rw [if_neg c3] at H
    have c3b0 := decide_eq_false c3
    clear c3
    simp only [Option.some.injEq, Prod.mk.injEq] at H
    obtain ⟨rfl, rfl⟩ := H
    obtain ⟨Ao21, co21, eo21⟩ := Kd.R_slice HO_0.out
    subst eo21
    go_wp2
    go_ret
    exact ⟨retT_, by exact toR_ (HO_0.out), by repeat (first | (with_reducible first | exact HB.out | apply below_alloc | apply pw_below_drewN | apply below_drew1) | exact HB.out), att15_0_1⟩

/-! ### laws_heldStepS: function 70 -/
def laws_heldStepS.l0 : Nat → List (S46) → Int → Int → Option (Int)
 | 0, _, _, _ => none
 | k + 1, x0, x1, x5 => if x5 < (x0.length : Int) then (if 0 ≤ x5 then (if ((rd_T46 x0 x5).f0) = x1 then (if ((rd_T46 x0 x5).f1) = (wrap64 (x1 + 1)) then (if ((rd_T46 x0 x5).f2) = (wrap64 ((wrap64 (x1 + 1)) + 1)) then (if ((rd_T46 x0 x5).f3) = (wrap64 ((wrap64 ((wrap64 (x1 + 1)) + 1)) + 1)) then (if ((rd_T46 x0 x5).f4) = (wrap64 ((wrap64 ((wrap64 ((wrap64 (x1 + 1)) + 1)) + 1)) + 1)) then (laws_heldStepS.l0 k x0 (wrap64 ((wrap64 ((wrap64 ((wrap64 ((wrap64 (x1 + 1)) + 1)) + 1)) + 1)) + 1)) (wrap64 (x5 + 1))) else (some (-1))) else (some (-1))) else (some (-1))) else (some (-1))) else (some (-1))) else (none)) else (some x1)
def laws_heldStepS.f (k : Nat) (l0 : List (S46)) (a1 : Int) : Option (Int) := laws_heldStepS.l0 k l0 a1 0
theorem laws_heldStepS.mono_l : ∀ k, (∀ y0 y1 y2, LeO (laws_heldStepS.l0 k y0 y1 y2) (laws_heldStepS.l0 (k + 1) y0 y1 y2))
 | 0 => fun _ _ _ r h => by simp [laws_heldStepS.l0] at h
 | k + 1 => by
  have ih0 := laws_heldStepS.mono_l k
  ·intro y0 y1 y2
   unfold laws_heldStepS.l0
   repeat' (with_reducible first | exact ih0 .. | exact LeO.refl _ | exact LeO.none _ | refine LeO.ite ?_ ?_ | refine LeO.bind ?_ (fun _ => ?_))
theorem laws_heldStepS.mono : ∀ a0 a1 k, LeO (laws_heldStepS.f k a0 a1) (laws_heldStepS.f (k + 1) a0 a1) := by
 intro a0 a1 k
 have ih0 := laws_heldStepS.mono_l k
 unfold laws_heldStepS.f
 repeat' (with_reducible first | exact ih0 .. | exact LeO.refl _ | exact LeO.none _ | refine LeO.ite ?_ ?_ | refine LeO.bind ?_ (fun _ => ?_))
set_option maxHeartbeats 80000000 in
set_option maxRecDepth 100000 in
theorem laws_heldStepS.calls (k : Nat) (A0 : Option Addr) (c0 : Nat) (l0 : List (S46)) (a1 : Int) (r : Int) (w : World) (hr0 : Kd.C k46 w A0 l0.length l0) (hc0 : l0.length ≤ c0) (h : laws_heldStepS.f k l0 a1 = some r) :
  Calls Try.prog 70 #[.slice A0 l0.length c0, .int .i64 a1] w fun e w' => e = .returned (.int .i64 r) ∧ Drawn0 w w' := by
 have HR0 := Aside0.mk hr0
 have HC0 := Aside0.mk hc0
 clear hr0 hc0
 have H : (laws_heldStepS.l0 k l0 a1 0) = some r := h
 clear h
 have H' := Aside0.mk H
 clear H
 go_enter Try.func70, Try.ntmps70
 go_wp2
 go_loopg [1, 5] k (fun kq v1 v5 w' => ∃ (x1_1 : Int) (x5_1 : Int), v1 = .int .i64 x1_1 ∧ v5 = .int .i64 x5_1 ∧ Aside0 (laws_heldStepS.l0 kq l0 x1_1 x5_1 = some r) ∧ Aside0 (kq ≤ k) ∧ Drawn0 w w')
 case atStart => exact ⟨(a1), (0), atgR_, atgR_, H', ⟨Nat.le_refl _⟩, atgD_⟩
 case round =>
  clear H'
  try clear p2
  obtain ⟨x1_1, x5_1, rfl, rfl, HA, HK1, ⟨m1, rfl⟩⟩ := hrel
  cases gk with
  | zero => exact absurd HA.out (by simp [laws_heldStepS.l0])
  | succ k1 =>
   have H := HA.out
   clear HA
   simp only [laws_heldStepS.l0] at H
   by_cases c3 : x5_1 < (l0.length : Int)
   ·rw [if_pos c3] at H
    have c3b0 := decide_eq_true c3
    clear c3
    by_cases c4 : 0 ≤ x5_1
    ·rw [if_pos c4] at H
     have c4b0 := decide_eq_true c4
     clear c4
     by_cases c5 : ((rd_T46 l0 x5_1).f0) = x1_1
     ·rw [if_pos c5] at H
      have c5b0 := beq_iff_eq.mpr c5
      have c5b1 := bne_eq_false_iff_eq.mpr c5
      clear c5
      by_cases c6 : ((rd_T46 l0 x5_1).f1) = (wrap64 (x1_1 + 1))
      ·rw [if_pos c6] at H
       have c6b0 := beq_iff_eq.mpr c6
       have c6b1 := bne_eq_false_iff_eq.mpr c6
       clear c6
       by_cases c7 : ((rd_T46 l0 x5_1).f2) = (wrap64 ((wrap64 (x1_1 + 1)) + 1))
       ·rw [if_pos c7] at H
        have c7b0 := beq_iff_eq.mpr c7
        have c7b1 := bne_eq_false_iff_eq.mpr c7
        clear c7
        by_cases c8 : ((rd_T46 l0 x5_1).f3) = (wrap64 ((wrap64 ((wrap64 (x1_1 + 1)) + 1)) + 1))
        ·rw [if_pos c8] at H
         have c8b0 := beq_iff_eq.mpr c8
         have c8b1 := bne_eq_false_iff_eq.mpr c8
         clear c8
         by_cases c9 : ((rd_T46 l0 x5_1).f4) = (wrap64 ((wrap64 ((wrap64 ((wrap64 (x1_1 + 1)) + 1)) + 1)) + 1))
         ·rw [if_pos c9] at H
          have c9b0 := beq_iff_eq.mpr c9
          have c9b1 := bne_eq_false_iff_eq.mpr c9
          clear c9
          have H' := Aside0.mk H
          clear H
          have p676 : 0 ≤ (x5_1 : Int) := of_decide_eq_true atgA_
          have q676 : x5_1 < (l0.length : Int) := of_decide_eq_true atgA_
          obtain ⟨ad676, e676, hx676_0, hx676_1, hx676_2, hx676_3, hx676_4⟩ := at_T46 HR0.out x5_1 p676 q676
          cases e676
          replace p676 := eq_true p676
          replace q676 := eq_true q676
          have p677 : 0 ≤ (x5_1 : Int) := of_decide_eq_true atgA_
          have q677 : x5_1 < (l0.length : Int) := of_decide_eq_true atgA_
          obtain ⟨ad677, e677, hx677_0, hx677_1, hx677_2, hx677_3, hx677_4⟩ := at_T46 HR0.out x5_1 p677 q677
          obtain rfl : ad676 = ad677 := (by injection e677)
          replace p677 := eq_true p677
          replace q677 := eq_true q677
          have p678 : 0 ≤ (x5_1 : Int) := of_decide_eq_true atgA_
          have q678 : x5_1 < (l0.length : Int) := of_decide_eq_true atgA_
          obtain ⟨ad678, e678, hx678_0, hx678_1, hx678_2, hx678_3, hx678_4⟩ := at_T46 HR0.out x5_1 p678 q678
          obtain rfl : ad676 = ad678 := (by injection e678)
          replace p678 := eq_true p678
          replace q678 := eq_true q678
          have p679 : 0 ≤ (x5_1 : Int) := of_decide_eq_true atgA_
          have q679 : x5_1 < (l0.length : Int) := of_decide_eq_true atgA_
          obtain ⟨ad679, e679, hx679_0, hx679_1, hx679_2, hx679_3, hx679_4⟩ := at_T46 HR0.out x5_1 p679 q679
          obtain rfl : ad676 = ad679 := (by injection e679)
          replace p679 := eq_true p679
          replace q679 := eq_true q679
          have p680 : 0 ≤ (x5_1 : Int) := of_decide_eq_true atgA_
          have q680 : x5_1 < (l0.length : Int) := of_decide_eq_true atgA_
          obtain ⟨ad680, e680, hx680_0, hx680_1, hx680_2, hx680_3, hx680_4⟩ := at_T46 HR0.out x5_1 p680 q680
          obtain rfl : ad676 = ad680 := (by injection e680)
          replace p680 := eq_true p680
          replace q680 := eq_true q680
          go_wp2
          go_roundg k1
          case measure => have := HK1.out; omega
          case rel => exact ⟨(wrap64 ((wrap64 ((wrap64 ((wrap64 ((wrap64 (x1_1 + 1)) + 1)) + 1)) + 1)) + 1)), (wrap64 (x5_1 + 1)), atgR_, atgR_, H', ⟨by have := HK1.out; omega⟩, atgD_⟩
         ·rw [if_neg c9] at H
          have c9b0 := beq_eq_false_iff_ne.mpr c9
          have c9b1 := bne_iff_ne.mpr c9
          obtain rfl := Option.some.inj H
          have p676 : 0 ≤ (x5_1 : Int) := of_decide_eq_true atgA_
          have q676 : x5_1 < (l0.length : Int) := of_decide_eq_true atgA_
          obtain ⟨ad676, e676, hx676_0, hx676_1, hx676_2, hx676_3, hx676_4⟩ := at_T46 HR0.out x5_1 p676 q676
          cases e676
          replace p676 := eq_true p676
          replace q676 := eq_true q676
          have p677 : 0 ≤ (x5_1 : Int) := of_decide_eq_true atgA_
          have q677 : x5_1 < (l0.length : Int) := of_decide_eq_true atgA_
          obtain ⟨ad677, e677, hx677_0, hx677_1, hx677_2, hx677_3, hx677_4⟩ := at_T46 HR0.out x5_1 p677 q677
          obtain rfl : ad676 = ad677 := (by injection e677)
          replace p677 := eq_true p677
          replace q677 := eq_true q677
          have p678 : 0 ≤ (x5_1 : Int) := of_decide_eq_true atgA_
          have q678 : x5_1 < (l0.length : Int) := of_decide_eq_true atgA_
          obtain ⟨ad678, e678, hx678_0, hx678_1, hx678_2, hx678_3, hx678_4⟩ := at_T46 HR0.out x5_1 p678 q678
          obtain rfl : ad676 = ad678 := (by injection e678)
          replace p678 := eq_true p678
          replace q678 := eq_true q678
          have p679 : 0 ≤ (x5_1 : Int) := of_decide_eq_true atgA_
          have q679 : x5_1 < (l0.length : Int) := of_decide_eq_true atgA_
          obtain ⟨ad679, e679, hx679_0, hx679_1, hx679_2, hx679_3, hx679_4⟩ := at_T46 HR0.out x5_1 p679 q679
          obtain rfl : ad676 = ad679 := (by injection e679)
          replace p679 := eq_true p679
          replace q679 := eq_true q679
          have p680 : 0 ≤ (x5_1 : Int) := of_decide_eq_true atgA_
          have q680 : x5_1 < (l0.length : Int) := of_decide_eq_true atgA_
          obtain ⟨ad680, e680, hx680_0, hx680_1, hx680_2, hx680_3, hx680_4⟩ := at_T46 HR0.out x5_1 p680 q680
          obtain rfl : ad676 = ad680 := (by injection e680)
          replace p680 := eq_true p680
          replace q680 := eq_true q680
          go_wp2
          go_ret
          exact ⟨by first | rfl | (simp; done) | (simp [*]; done), atgD_⟩
        ·rw [if_neg c8] at H
         have c8b0 := beq_eq_false_iff_ne.mpr c8
         have c8b1 := bne_iff_ne.mpr c8
         obtain rfl := Option.some.inj H
         have p676 : 0 ≤ (x5_1 : Int) := of_decide_eq_true atgA_
         have q676 : x5_1 < (l0.length : Int) := of_decide_eq_true atgA_
         obtain ⟨ad676, e676, hx676_0, hx676_1, hx676_2, hx676_3, hx676_4⟩ := at_T46 HR0.out x5_1 p676 q676
         cases e676
         replace p676 := eq_true p676
         replace q676 := eq_true q676
         have p677 : 0 ≤ (x5_1 : Int) := of_decide_eq_true atgA_
         have q677 : x5_1 < (l0.length : Int) := of_decide_eq_true atgA_
         obtain ⟨ad677, e677, hx677_0, hx677_1, hx677_2, hx677_3, hx677_4⟩ := at_T46 HR0.out x5_1 p677 q677
         obtain rfl : ad676 = ad677 := (by injection e677)
         replace p677 := eq_true p677
         replace q677 := eq_true q677
         have p678 : 0 ≤ (x5_1 : Int) := of_decide_eq_true atgA_
         have q678 : x5_1 < (l0.length : Int) := of_decide_eq_true atgA_
         obtain ⟨ad678, e678, hx678_0, hx678_1, hx678_2, hx678_3, hx678_4⟩ := at_T46 HR0.out x5_1 p678 q678
         obtain rfl : ad676 = ad678 := (by injection e678)
         replace p678 := eq_true p678
         replace q678 := eq_true q678
         have p679 : 0 ≤ (x5_1 : Int) := of_decide_eq_true atgA_
         have q679 : x5_1 < (l0.length : Int) := of_decide_eq_true atgA_
         obtain ⟨ad679, e679, hx679_0, hx679_1, hx679_2, hx679_3, hx679_4⟩ := at_T46 HR0.out x5_1 p679 q679
         obtain rfl : ad676 = ad679 := (by injection e679)
         replace p679 := eq_true p679
         replace q679 := eq_true q679
         go_wp2
         go_ret
         exact ⟨by first | rfl | (simp; done) | (simp [*]; done), atgD_⟩
       ·rw [if_neg c7] at H
        have c7b0 := beq_eq_false_iff_ne.mpr c7
        have c7b1 := bne_iff_ne.mpr c7
        obtain rfl := Option.some.inj H
        have p676 : 0 ≤ (x5_1 : Int) := of_decide_eq_true atgA_
        have q676 : x5_1 < (l0.length : Int) := of_decide_eq_true atgA_
        obtain ⟨ad676, e676, hx676_0, hx676_1, hx676_2, hx676_3, hx676_4⟩ := at_T46 HR0.out x5_1 p676 q676
        cases e676
        replace p676 := eq_true p676
        replace q676 := eq_true q676
        have p677 : 0 ≤ (x5_1 : Int) := of_decide_eq_true atgA_
        have q677 : x5_1 < (l0.length : Int) := of_decide_eq_true atgA_
        obtain ⟨ad677, e677, hx677_0, hx677_1, hx677_2, hx677_3, hx677_4⟩ := at_T46 HR0.out x5_1 p677 q677
        obtain rfl : ad676 = ad677 := (by injection e677)
        replace p677 := eq_true p677
        replace q677 := eq_true q677
        have p678 : 0 ≤ (x5_1 : Int) := of_decide_eq_true atgA_
        have q678 : x5_1 < (l0.length : Int) := of_decide_eq_true atgA_
        obtain ⟨ad678, e678, hx678_0, hx678_1, hx678_2, hx678_3, hx678_4⟩ := at_T46 HR0.out x5_1 p678 q678
        obtain rfl : ad676 = ad678 := (by injection e678)
        replace p678 := eq_true p678
        replace q678 := eq_true q678
        go_wp2
        go_ret
        exact ⟨by first | rfl | (simp; done) | (simp [*]; done), atgD_⟩
      ·rw [if_neg c6] at H
       have c6b0 := beq_eq_false_iff_ne.mpr c6
       have c6b1 := bne_iff_ne.mpr c6
       obtain rfl := Option.some.inj H
       have p676 : 0 ≤ (x5_1 : Int) := of_decide_eq_true atgA_
       have q676 : x5_1 < (l0.length : Int) := of_decide_eq_true atgA_
       obtain ⟨ad676, e676, hx676_0, hx676_1, hx676_2, hx676_3, hx676_4⟩ := at_T46 HR0.out x5_1 p676 q676
       cases e676
       replace p676 := eq_true p676
       replace q676 := eq_true q676
       have p677 : 0 ≤ (x5_1 : Int) := of_decide_eq_true atgA_
       have q677 : x5_1 < (l0.length : Int) := of_decide_eq_true atgA_
       obtain ⟨ad677, e677, hx677_0, hx677_1, hx677_2, hx677_3, hx677_4⟩ := at_T46 HR0.out x5_1 p677 q677
       obtain rfl : ad676 = ad677 := (by injection e677)
       replace p677 := eq_true p677
       replace q677 := eq_true q677
       go_wp2
       go_ret
       exact ⟨by first | rfl | (simp; done) | (simp [*]; done), atgD_⟩
     ·rw [if_neg c5] at H
      have c5b0 := beq_eq_false_iff_ne.mpr c5
      have c5b1 := bne_iff_ne.mpr c5
      obtain rfl := Option.some.inj H
      have p676 : 0 ≤ (x5_1 : Int) := of_decide_eq_true atgA_
      have q676 : x5_1 < (l0.length : Int) := of_decide_eq_true atgA_
      obtain ⟨ad676, e676, hx676_0, hx676_1, hx676_2, hx676_3, hx676_4⟩ := at_T46 HR0.out x5_1 p676 q676
      cases e676
      replace p676 := eq_true p676
      replace q676 := eq_true q676
      go_wp2
      go_ret
      exact ⟨by first | rfl | (simp; done) | (simp [*]; done), atgD_⟩
    ·rw [if_neg c4] at H
     exact absurd H (by simp)
   ·rw [if_neg c3] at H
    have c3b0 := decide_eq_false c3
    clear c3
    obtain rfl := Option.some.inj H
    go_wp2
    go_ret
    exact ⟨by first | rfl | (simp; done) | (simp [*]; done), atgD_⟩

end Go.Proofs.Ytonlhgkpmjefkaa.XFnExactEmit
