/- Each Go function that the law reaches as a Lean function, and that Go comes to just its answer; written by this session's xprint.py over the kit's printer. -/
import Derived.Test.YtocimkpafakiaaaXFnExactTrimProgx0
import Derived.Test.YtocimkpafakiaaaXFnExactTrimProgx7
import Derived.Test.YtocimkpafakiaaaXFnExactTrimProgx8
namespace Go.Proofs.Ytocimkpafakiaaa.XFnExactTrimProg
open Go.RowKit Go.Proofs.YtocimkpafakiaaaW.PrintWords Go.Proofs.YtocimkpafakiaaaW.PrintLast Go.Proofs.YtocimkpafakiaaaW.PrintMore
attribute [local go_sem] max2_int min2_int max_two min_two max_three min_three max_four min_four   -- for this text's walks alone
set_option linter.unusedVariables false
set_option linter.unusedSimpArgs false

theorem att10_0_2 {p : Prop} (h : p := by repeat (first | (with_reducible first | exact HK.out | apply Kept.alloc | apply Kept.drewN | apply Kept.drew) | exact HK.out)) : p := h
theorem att10_0_4 {p : Prop} (h : p := by rintro w' ⟨s0, s1, s2⟩; go_simp; with_reducible rfl) : p := h
theorem att10_0_5 {p : Prop} (h : p := by exact toS_ (HO_1.out)) : p := h
theorem att10_0_6 {p : Prop} (h : p := by exact toR_ (HO_8.out)) : p := h
theorem att10_0_7 {p : Prop} (h : p := by repeat (first | (with_reducible exact HR263_0.out) | (with_reducible refine Kd.C_alloc ?_ _) | (with_reducible refine Kd.C_drewN ?_ _) | (with_reducible refine Kd.C_drew ?_) | exact HR263_0.out)) : p := h
theorem att10_0_8 {p : Prop} (h : p := by have := HK1.out; have := HK2.out; omega) : p := h
theorem att10_0_10 {p : Prop} (h : p := by repeat (first | (with_reducible exact HR291_0.out) | (with_reducible refine Kd.C_alloc ?_ _) | (with_reducible refine Kd.C_drewN ?_ _) | (with_reducible refine Kd.C_drew ?_) | exact HR291_0.out)) : p := h
theorem att10_0_11 {p : Prop} (h : p := by repeat (first | (with_reducible exact HR282_0.out) | (with_reducible refine Kd.C_alloc ?_ _) | (with_reducible refine Kd.C_drewN ?_ _) | (with_reducible refine Kd.C_drew ?_) | exact HR282_0.out)) : p := h
theorem att10_0_12 {p : Prop} (h : p := by repeat (first | (with_reducible exact HR279_0.out) | (with_reducible refine Kd.C_alloc ?_ _) | (with_reducible refine Kd.C_drewN ?_ _) | (with_reducible refine Kd.C_drew ?_) | exact HR279_0.out)) : p := h
theorem att10_0_13 {p : Prop} (h : p := by repeat (first | (with_reducible exact HR271_0.out) | (with_reducible refine Kd.C_alloc ?_ _) | (with_reducible refine Kd.C_drewN ?_ _) | (with_reducible refine Kd.C_drew ?_) | exact HR271_0.out)) : p := h
theorem att10_0_14 {p : Prop} (h : p := by exact toR_ (Kd.R_mono HO_8.out (fun _ hk => hk.1))) : p := h
theorem att10_0_15 {p : Prop} (h : p := by exact toS_ (HO1.out)) : p := h
theorem att10_1_0 {p : Prop} (h : p := by have h_ : (a2 : Int) < ((x1_1.length : Int) : Int) := of_decide_eq_true atgA_; first | exact h_ | (have e_ := (Kd.S_reads' HO_1.out).1; omega) | simpa only [List.length_set, List.length_set] using h_) : p := h
theorem att10_1_1 {p : Prop} (h : p := by first | exact HK.out.1 | exact (show Kept w _ (fun k_ => P1_ k_) from by repeat (first | (with_reducible first | exact HK.out | apply Kept.alloc | apply Kept.drewN | apply Kept.drew) | exact HK.out)).1) : p := h
theorem att10_1_2 {p : Prop} (h : p := by first | exact q291 | exact of_decide_eq_true atgA_ | (have e_ := (Kd.S_reads' HO_1.out).1; omega)) : p := h
theorem att10_1_3 {p : Prop} (h : p := by first | exact q290 | exact of_decide_eq_true atgA_ | (have e_ := (Kd.S_reads' HO_1.out).1; omega)) : p := h
theorem att10_1_4 {p : Prop} (h : p := by first | exact q282 | exact of_decide_eq_true atgA_ | (have e_ := (Kd.S_reads' HO_1.out).1; omega)) : p := h
theorem att10_1_5 {p : Prop} (h : p := by first | exact q281 | exact of_decide_eq_true atgA_ | (have e_ := (Kd.S_reads' HO_1.out).1; omega)) : p := h
theorem att10_1_6 {p : Prop} (h : p := by first | exact q279 | exact of_decide_eq_true atgA_ | (have e_ := (Kd.S_reads' HO_1.out).1; omega)) : p := h
theorem att10_1_7 {p : Prop} (h : p := by first | exact q271 | exact of_decide_eq_true atgA_ | (have e_ := (Kd.S_reads' HO_1.out).1; omega)) : p := h
theorem att10_1_8 {p : Prop} (h : p := by first | exact q270 | exact of_decide_eq_true atgA_ | (have e_ := (Kd.S_reads' HO_1.out).1; omega)) : p := h
theorem att10_1_9 {p : Prop} (h : p := by first | exact q263 | exact of_decide_eq_true atgA_ | (have e_ := (Kd.S_reads' HO_1.out).1; omega)) : p := h
/-! ### spec_l18Round: function 81 -/
mutual
def spec_l18Round.l0 : Nat → List (S63) → List (List Bool) → Int → Bool → List Int → Int → Option (Bool × (List (List Bool)))
 | 0, _, _, _, _, _, _ => none
 | k + 1, x0, x1, x2, x7, x8, x9 => if x9 < 4 then (if 0 ≤ x2 then (if x2 < (x0.length : Int) then ((spec_Reads.f k ((rd_T63 x0 x2).f0) ((rd_T63 x0 x2).f1) ((rd_T63 x0 x2).f2) ((rd_T63 x0 x2).f3) ((rd_T63 x0 x2).f4)).bind fun t258 => ((spec_l18In.f k t258 x9).bind fun t261 => (spec_l18Round.l1 k x0 x1 x2 x7 x8 x9 t261 0))) else (none)) else (none)) else (some (x7, x1))
def spec_l18Round.l1 : Nat → List (S63) → List (List Bool) → Int → Bool → List Int → Int → Bool → Int → Option (Bool × (List (List Bool)))
 | 0, _, _, _, _, _, _, _, _ => none
 | k + 1, x0, x1, x2, x7, x8, x9, x10, x11 => if x11 < (x8.length : Int) then (if x10 = true then (spec_l18Round.l1 k x0 x1 x2 x7 x8 x9 true (wrap64 (x11 + 1))) else (if 0 ≤ x11 then (if 0 ≤ (rd x8 x11) then (if (rd x8 x11) < (x1.length : Int) then (if 0 ≤ x9 then (if x9 < ((rd_L6 x1 (rd x8 x11)).length : Int) then (if rdOf false (rd_L6 x1 (rd x8 x11)) x9 = true then (if 0 ≤ x2 then (if x2 < (x0.length : Int) then ((spec_Sets.f k ((rd_T63 x0 x2).f0) ((rd_T63 x0 x2).f1) ((rd_T63 x0 x2).f2) ((rd_T63 x0 x2).f3) ((rd_T63 x0 x2).f4)).bind fun t266 => ((spec_l18In.f k t266 x9).bind fun t269 => (spec_l18Round.l1 k x0 x1 x2 x7 x8 x9 (!t269) (wrap64 (x11 + 1))))) else (none)) else (none)) else (spec_l18Round.l1 k x0 x1 x2 x7 x8 x9 false (wrap64 (x11 + 1)))) else (none)) else (none)) else (none)) else (none)) else (none))) else (if x7 = true then (if 0 ≤ x2 then (if x2 < (x1.length : Int) then (if 0 ≤ x9 then (if x9 < ((rd_L6 x1 x2).length : Int) then (if rdOf false (rd_L6 x1 x2) x9 = true then (spec_l18Round.l0 k x0 (x1.set (x2 : Int).toNat ((rd_L6 x1 x2).set (x9 : Int).toNat true)) x2 true x8 (wrap64 (x9 + 1))) else (spec_l18Round.l0 k x0 (x1.set (x2 : Int).toNat ((rd_L6 x1 x2).set (x9 : Int).toNat x10)) x2 true x8 (wrap64 (x9 + 1)))) else (none)) else (none)) else (none)) else (none)) else (if x10 = true then (if 0 ≤ x2 then (if x2 < (x1.length : Int) then (if 0 ≤ x9 then (if x9 < ((rd_L6 x1 x2).length : Int) then (if rdOf false (rd_L6 x1 x2) x9 = true then (spec_l18Round.l0 k x0 (x1.set (x2 : Int).toNat ((rd_L6 x1 x2).set (x9 : Int).toNat true)) x2 (!(rdOf false (rd_L6 x1 x2) x9)) x8 (wrap64 (x9 + 1))) else (spec_l18Round.l0 k x0 (x1.set (x2 : Int).toNat ((rd_L6 x1 x2).set (x9 : Int).toNat x10)) x2 (!(rdOf false (rd_L6 x1 x2) x9)) x8 (wrap64 (x9 + 1)))) else (none)) else (none)) else (none)) else (none)) else (if 0 ≤ x2 then (if x2 < (x1.length : Int) then (if 0 ≤ x9 then (if x9 < ((rd_L6 x1 x2).length : Int) then (if rdOf false (rd_L6 x1 x2) x9 = true then (spec_l18Round.l0 k x0 (x1.set (x2 : Int).toNat ((rd_L6 x1 x2).set (x9 : Int).toNat true)) x2 false x8 (wrap64 (x9 + 1))) else (spec_l18Round.l0 k x0 (x1.set (x2 : Int).toNat ((rd_L6 x1 x2).set (x9 : Int).toNat x10)) x2 false x8 (wrap64 (x9 + 1)))) else (none)) else (none)) else (none)) else (none))))
end
def spec_l18Round.f (k : Nat) (l0 : List (S63)) (l1 : List (List Bool)) (a2 : Int) : Option (Bool × (List (List Bool))) := (spec_NextOf.f k l0 a2).bind fun t254 => (spec_l18Round.l0 k l0 l1 a2 false t254 0)
theorem spec_l18Round.mono_l : ∀ k, (∀ y0 y1 y2 y3 y4 y5, LeO (spec_l18Round.l0 k y0 y1 y2 y3 y4 y5) (spec_l18Round.l0 (k + 1) y0 y1 y2 y3 y4 y5)) ∧ (∀ y0 y1 y2 y3 y4 y5 y6 y7, LeO (spec_l18Round.l1 k y0 y1 y2 y3 y4 y5 y6 y7) (spec_l18Round.l1 (k + 1) y0 y1 y2 y3 y4 y5 y6 y7))
 | 0 => ⟨fun _ _ _ _ _ _ r h => by simp [spec_l18Round.l0] at h, fun _ _ _ _ _ _ _ _ r h => by simp [spec_l18Round.l1] at h⟩
 | k + 1 => by
  obtain ⟨ih0, ih1⟩ := spec_l18Round.mono_l k
  refine ⟨?_, ?_⟩
  all_goals intros
  all_goals first | unfold spec_l18Round.l0 | unfold spec_l18Round.l1
  all_goals repeat' (with_reducible first | exact ih0 .. | exact ih1 .. | exact spec_NextOf.mono .. | exact spec_Reads.mono .. | exact spec_Sets.mono .. | exact spec_l18In.mono .. | exact LeO.refl _ | exact LeO.none _ | refine LeO.ite ?_ ?_ | refine LeO.bind ?_ (fun _ => ?_))
theorem spec_l18Round.mono : ∀ a0 a1 a2 k, LeO (spec_l18Round.f k a0 a1 a2) (spec_l18Round.f (k + 1) a0 a1 a2) := by
 intro a0 a1 a2 k
 obtain ⟨ih0, ih1⟩ := spec_l18Round.mono_l k
 unfold spec_l18Round.f
 repeat' (with_reducible first | exact ih0 .. | exact ih1 .. | exact spec_NextOf.mono .. | exact spec_Reads.mono .. | exact spec_Sets.mono .. | exact spec_l18In.mono .. | exact LeO.refl _ | exact LeO.none _ | refine LeO.ite ?_ ?_ | refine LeO.bind ?_ (fun _ => ?_))
def spec_l18Round.T12 : Bool × List (List Nat × List Nat) := (true, [([], []), ([], []), ([0, 1], [0, 1]), ([2], [2]), ([], []), ([], []), ([], []), ([5, 6], [5, 6]), ([7], [7]), ([], []), ([8, 9], [8, 9]), ([10], [10]), ([11], [11]), ([12], [12]), ([12, 13], [12, 13]), ([3, 4, 0, 1, 2, 3, 4, 5, 6, 7, 8, 9, 10, 11, 12, 13, 14], [3, 4]), ([15, 14, 12, 0, 1, 2, 3, 4, 5, 6, 7, 8, 9, 10, 11, 12, 13, 14], [14, 15])])
def spec_l18Round.B12 : List Nat := [0, 0, 3, 7, 0, 0, 0, 96, 224, 0, 992, 2016, 4064, 8160, 16352, 32767, 65535]
theorem spec_l18Round.tab12 : rtab .any (opsOf Try.f81 12) = spec_l18Round.T12 := by kernel_rfl
theorem spec_l18Round.bits12 : waitsOk spec_l18Round.T12.2 spec_l18Round.B12 = true := by kernel_rfl
set_option maxHeartbeats 80000000 in
set_option maxRecDepth 100000 in
theorem spec_l18Round.calls (k : Nat) (A0 : Option Addr) (c0 : Nat) (l0 : List (S63)) (P1_ : Nat → Prop) (u9000_ : Value) (l1 : List (List Bool)) (a2 : Int) (r1 : Bool) (r2 : List (List Bool)) (w0 w : World) (hB : Below w0.heap.size w0 w) (hr0 : ∀ W_, Kept w W_ (fun k_ => P1_ k_) → Kd.C k63 W_ A0 l0.length l0) (hc0 : l0.length ≤ c0) (ho1 : Kd.S (Kd.slice 4 Kd.bool) 66 w w0.heap.size P1_ u9000_ l1) (h : spec_l18Round.f k l0 l1 a2 = some (r1, r2)) :
  Calls Try.prog 81 #[.slice A0 l0.length c0, u9000_, .int .i64 a2] w fun e w' => e = .returned (.bool r1) ∧ Kd.S (Kd.slice 4 Kd.bool) 66 w' w0.heap.size (fun k_ => (P1_ k_ ∨ w.heap.size ≤ k_)) u9000_ r2 ∧ Below w0.heap.size w0 w' ∧ Kept w w' (fun k_ => P1_ k_) := by
 have hu63 := Try.underlying63
 have HR0 := Aside0.mk hr0
 have HC0 := Aside0.mk hc0
 clear hr0 hc0
 have HO1 := Aside0.mk (show Kd.S (Kd.slice 4 Kd.bool) 66 w w0.heap.size (fun k_ => (P1_ k_ ∨ w.heap.size ≤ k_)) u9000_ l1 from Kd.S_mono ho1 (fun k_ hk => (.inl hk)))
 have HK := Aside0.mk (Kept.refl w (fun k_ => P1_ k_))
 have HW0 := Aside0.mk hB.size
 have HB := Aside0.mk hB
 clear hB
 have H : ((spec_NextOf.f k l0 a2).bind fun t254 => (spec_l18Round.l0 k l0 l1 a2 false t254 0)) = some (r1, r2) := h
 clear h
 replace H := Option.bind_eq_some_iff.mp H
 obtain ⟨t254, A40, H⟩ := H
 (try dsimp only at H)
 have A4 := Aside0.mk A40
 clear A40
 have H' := Aside0.mk H
 clear H
 go_enter Try.func81, Try.ntmps81
 go_wp2_with (first | ((with_reducible refine gate_callee (f := 29) rfl ?_); refine goesL_ (some 14) rfl rfl Try.func29 (by kernel_rfl) rfl #[.slice A0 l0.length c0, .int .i64 a2] rfl atgM_ ?_; (with_reducible refine (spec_NextOf.calls k _ _ l0 a2 t254 _ ?side1 ?side2 A4.out).mono ?_); (case side1 => exact Kd.C_kept_now HR0.out att10_0_2); (case side2 => exact HC0.out); rintro e w5 ⟨v255, rfl, ho0, hb⟩; refine ⟨_, rfl, ?_⟩; refine swap4_ (Kd.S_below att10_0_15 hb) (Kd.R_lower (Kd.R_newM (M := fun k_ => (P1_ k_ ∨ w.heap.size ≤ k_)) ho0 att10_1_1 (fun k_ h_ => .inr h_)) (below_size atgB_)) (Kept.below (S := (fun k_ => P1_ k_)) att10_0_2 hb) (below_step atgB_ hb) ?_; clear HO1 HK HB; intro HO1 HO256 HK HB; (try clear hb); (try clear hb2); (try clear hk); (try clear hi); (try clear ho0)))
 go_loopg [7, 9] k (fun kq v7 v9 w' => ∃ (x1_1 : List (List Bool)) (x7_1 : Bool) (x9_1 : Int), v7 = .bool x7_1 ∧ v9 = .int .i64 x9_1 ∧ Aside0 (spec_l18Round.l0 kq l0 x1_1 a2 x7_1 t254 x9_1 = some (r1, r2)) ∧ Aside0 (kq ≤ k) ∧ Aside0 (Kd.S (Kd.slice 4 Kd.bool) 66 w' w0.heap.size (fun k_ => (P1_ k_ ∨ w.heap.size ≤ k_)) u9000_ x1_1) ∧ Aside0 (Kd.R (Kd.int .i64) 3 w' w0.heap.size (fun k_ => (P1_ k_ ∨ w.heap.size ≤ k_)) v255 t254) ∧ Aside0 (Kept w w' (fun k_ => P1_ k_)) ∧ Aside0 (Below w0.heap.size w0 w'))
 case atStart => exact ⟨(l1), (false), (0), atgR_, atgR_, H', ⟨Nat.le_refl _⟩, ⟨att10_0_15⟩, ⟨by exact toR_ (Kd.R_mono HO256.out (fun _ hk => hk.1))⟩, ⟨att10_0_2⟩, ⟨atgB_⟩⟩
 case round =>
  clear H'
  try clear c2
  try clear p2
  obtain ⟨x1_1, x7_1, x9_1, rfl, rfl, HA, HK1, HO_1, HO_8, HK, HB⟩ := hrel
  cases gk with
  | zero => exact absurd HA.out (by simp [spec_l18Round.l0])
  | succ k1 =>
   have H := HA.out
   clear HA
   simp only [spec_l18Round.l0] at H
   by_cases c6 : x9_1 < 4
   ·rw [if_pos c6] at H
    have c6b0 := decide_eq_true c6
    clear c6
    by_cases c7 : 0 ≤ a2
    ·rw [if_pos c7] at H
     have c7b0 := decide_eq_true c7
     clear c7
     by_cases c8 : a2 < (l0.length : Int)
     ·rw [if_pos c8] at H
      have c8b0 := decide_eq_true c8
      clear c8
      replace H := Option.bind_eq_some_iff.mp H
      obtain ⟨t258, A90, H⟩ := H
      (try dsimp only at H)
      have A9 := Aside0.mk A90
      clear A90
      replace H := Option.bind_eq_some_iff.mp H
      obtain ⟨t261, A100, H⟩ := H
      (try dsimp only at H)
      have A10 := Aside0.mk A100
      clear A100
      have H' := Aside0.mk H
      clear H
      have p257 : 0 ≤ (a2 : Int) := of_decide_eq_true atgA_
      have q257 : a2 < (l0.length : Int) := of_decide_eq_true atgA_
      obtain ⟨ad257, e257, hx257_0, hx257_1, hx257_2, hx257_3, hx257_4⟩ := at_T63 (Kd.C_kept_now HR0.out HK.out) a2 p257 q257
      cases e257
      replace p257 := eq_true p257
      replace q257 := eq_true q257
      go_wp2_with (first | ((with_reducible refine gate_callee (f := 117) rfl ?_); refine goesL_ (some 23) rfl rfl Try.func117 (by kernel_rfl) rfl #[.agg #[.int .i64 ((rd_T63 l0 a2).f0), .int .i64 ((rd_T63 l0 a2).f1), .int .i64 ((rd_T63 l0 a2).f2), .int .i64 ((rd_T63 l0 a2).f3), .int .i64 ((rd_T63 l0 a2).f4)]] rfl atgM_ ?_; (with_reducible refine (spec_Reads.calls k1 ((rd_T63 l0 a2).f0) ((rd_T63 l0 a2).f1) ((rd_T63 l0 a2).f2) ((rd_T63 l0 a2).f3) ((rd_T63 l0 a2).f4) t258 _ A9.out).mono ?_); rintro e w11 ⟨v259, rfl, ho0, hb⟩; refine ⟨_, rfl, ?_⟩; refine swap5_ (Kd.S_below att10_0_5 hb) (Kd.R_elder' att10_0_6 (Kd.R_base ho0) hb) (Kd.R_lower (Kd.R_new' (Kd.R_newM (M := fun k_ => (P1_ k_ ∨ w.heap.size ≤ k_)) ho0 att10_1_1 (fun k_ h_ => .inr h_)) (Kd.R_lt att10_0_6)) (below_size atgB_)) (Kept.below (S := (fun k_ => P1_ k_)) att10_0_2 hb) (below_step atgB_ hb) ?_; clear HO_1 HO_8 HK HB; intro HO_1 HO_8 HO260 HK HB; (try clear hb); (try clear hb2); (try clear hk); (try clear hi); (try clear ho0); obtain ⟨Ao12, co12, eo12⟩ := Kd.R_slice HO260.out; subst eo12) | ((with_reducible refine gate_callee (f := 90) rfl ?_); refine goesL_ (some 25) rfl rfl Try.func90 (by kernel_rfl) rfl #[.slice Ao12 t258.length co12, .int .i64 x9_1] rfl atgM_ ?_; (with_reducible refine (spec_l18In.calls k1 _ _ t258 x9_1 t261 _ ?side1 ?side2 A10.out).mono ?_); (case side1 => repeat (first | exact (Kd.R_reads' HO260.out).2.2 | (with_reducible refine Kd.C_alloc ?_ _) | (with_reducible refine Kd.C_drewN ?_ _) | (with_reducible refine Kd.C_drew ?_))); (case side2 => exact (Kd.R_reads' HO260.out).2.1); rintro e w' ⟨rfl, ⟨nd, rfl⟩⟩; refine ⟨_, rfl, ?_⟩))
      go_loopg [10, 11] k1 (fun kq v10 v11 w' => ∃ (x10_2 : Bool) (x11_2 : Int), v10 = .bool x10_2 ∧ v11 = .int .i64 x11_2 ∧ Aside0 (spec_l18Round.l1 kq l0 x1_1 a2 x7_1 t254 x9_1 x10_2 x11_2 = some (r1, r2)) ∧ Aside0 (kq ≤ k1) ∧ Aside0 (Kd.S (Kd.slice 4 Kd.bool) 66 w' w0.heap.size (fun k_ => (P1_ k_ ∨ w.heap.size ≤ k_)) u9000_ x1_1) ∧ Aside0 (Kd.R (Kd.int .i64) 3 w' w0.heap.size (fun k_ => (P1_ k_ ∨ w.heap.size ≤ k_)) v255 t254) ∧ Aside0 (Kept w w' (fun k_ => P1_ k_)) ∧ Aside0 (Below w0.heap.size w0 w'))
      case atStart => exact ⟨(t261), (0), atgR_, atgR_, H', ⟨Nat.le_refl _⟩, ⟨att10_0_5⟩, ⟨att10_0_14⟩, ⟨att10_0_2⟩, ⟨atgB_⟩⟩
      case round =>
       clear H'
       try clear c1
       try clear c2
       try clear p2
       try clear q2
       try clear hx2
       try clear c6
       try clear c6b0
       try clear c7
       try clear c7b0
       try clear c8
       try clear c8b0
       try clear c9
       try clear c11
       try clear hx257_0
       try clear hx257_1
       try clear hx257_2
       try clear hx257_3
       try clear hx257_4
       try clear p2
       try clear p257
       try clear q257
       obtain ⟨x10_2, x11_2, rfl, rfl, HA, HK2, HO_1, HO_8, HK, HB⟩ := hrel
       cases gk with
       | zero => exact absurd HA.out (by simp [spec_l18Round.l1])
       | succ k2 =>
        have H := HA.out
        clear HA
        simp only [spec_l18Round.l1] at H
        by_cases c13 : x11_2 < (t254.length : Int)
        ·rw [if_pos c13] at H
         have c13b0 := decide_eq_true c13
         clear c13
         by_cases c14 : x10_2 = true
         ·subst c14
          rw [if_pos rfl] at H
          have H' := Aside0.mk H
          clear H
          obtain ⟨Ao15, co15, eo15⟩ := Kd.R_slice HO_8.out
          subst eo15
          go_wp2
          go_roundg k2
          case measure => have := HK1.out; have := HK2.out; omega
          case rel => exact ⟨(true), (wrap64 (x11_2 + 1)), atgR_, atgR_, H', ⟨att10_0_8⟩, ⟨att10_0_5⟩, ⟨att10_0_6⟩, ⟨att10_0_2⟩, ⟨atgB_⟩⟩
         ·replace c14 := Bool.eq_false_iff.mpr c14
          subst c14
          rw [if_neg (show ¬ (false = true) by decide)] at H
          by_cases c16 : 0 ≤ x11_2
          ·rw [if_pos c16] at H
           have c16b0 := decide_eq_true c16
           clear c16
           by_cases c17 : 0 ≤ (rd t254 x11_2)
           ·rw [if_pos c17] at H
            have c17b0 := decide_eq_true c17
            clear c17
            by_cases c18 : (rd t254 x11_2) < (x1_1.length : Int)
            ·rw [if_pos c18] at H
             have c18b0 := decide_eq_true c18
             clear c18
             by_cases c19 : 0 ≤ x9_1
             ·rw [if_pos c19] at H
              have c19b0 := decide_eq_true c19
              clear c19
              by_cases c20 : x9_1 < ((rd_L6 x1_1 (rd t254 x11_2)).length : Int)
              ·rw [if_pos c20] at H
               have c20b0 := decide_eq_true c20
               clear c20
               obtain ⟨bq21, hbq21⟩ : ∃ b_ : Bool, b_ = (rdOf false (rd_L6 x1_1 (rd t254 x11_2)) x9_1) := ⟨_, rfl⟩
               replace H : (if bq21 = true then (if 0 ≤ a2 then (if a2 < (l0.length : Int) then ((spec_Sets.f k2 ((rd_T63 l0 a2).f0) ((rd_T63 l0 a2).f1) ((rd_T63 l0 a2).f2) ((rd_T63 l0 a2).f3) ((rd_T63 l0 a2).f4)).bind fun t266 => ((spec_l18In.f k2 t266 x9_1).bind fun t269 => (spec_l18Round.l1 k2 l0 x1_1 a2 x7_1 t254 x9_1 (!t269) (wrap64 (x11_2 + 1))))) else (none)) else (none)) else (spec_l18Round.l1 k2 l0 x1_1 a2 x7_1 t254 x9_1 false (wrap64 (x11_2 + 1)))) = some (r1, r2) := by rw [← hbq21] at H; exact H
               have Nbq21 := Aside0.mk hbq21
               clear hbq21
               by_cases c22 : bq21 = true
               ·subst c22
                rw [if_pos rfl] at H
                by_cases c23 : 0 ≤ a2
                ·rw [if_pos c23] at H
                 have c23b0 := decide_eq_true c23
                 clear c23
                 by_cases c24 : a2 < (l0.length : Int)
                 ·rw [if_pos c24] at H
                  have c24b0 := decide_eq_true c24
                  clear c24
                  replace H := Option.bind_eq_some_iff.mp H
                  obtain ⟨t266, A250, H⟩ := H
                  (try dsimp only at H)
                  have A25 := Aside0.mk A250
                  clear A250
                  replace H := Option.bind_eq_some_iff.mp H
                  obtain ⟨t269, A260, H⟩ := H
                  (try dsimp only at H)
                  have A26 := Aside0.mk A260
                  clear A260
                  have H' := Aside0.mk H
                  clear H
                  obtain ⟨Ao27, co27, eo27⟩ := Kd.R_slice HO_8.out
                  subst eo27
                  have p262 : 0 ≤ (x11_2 : Int) := of_decide_eq_true atgA_
                  have q262 : x11_2 < (t254.length : Int) := of_decide_eq_true atgA_
                  obtain ⟨ad262, e262, hx262_0⟩ := Kd.at_int (Kd.R_reads' HO_8.out).2.2 x11_2 p262 q262
                  cases e262
                  replace p262 := eq_true p262
                  replace q262 := eq_true q262
                  obtain ⟨Ao28, co28, eo28⟩ := Kd.S_slice HO_1.out
                  subst eo28
                  have p263 : 0 ≤ ((rd t254 x11_2) : Int) := of_decide_eq_true atgA_
                  have q263 : (rd t254 x11_2) < (x1_1.length : Int) := of_decide_eq_true atgA_
                  obtain ⟨ad263, A263_0, c263_0, e263, hx263_0, HC263_0, HR263_0, HL263_0⟩ := rowS_ HO_1.out (rd_L6 x1_1 (rd t254 x11_2)) (rd t254 x11_2) rfl p263 att10_1_9
                  cases e263
                  have HX263_0 := Aside0.mk hx263_0
                  replace p263 := eq_true p263
                  replace q263 := eq_true q263
                  have p264 : 0 ≤ (x9_1 : Int) := of_decide_eq_true atgA_
                  have q264 : x9_1 < ((rd_L6 x1_1 (rd t254 x11_2)).length : Int) := of_decide_eq_true atgA_
                  obtain ⟨ad264, e264, hx264_0⟩ := Kd.at_bool att10_0_7 x9_1 p264 q264
                  (try rw [← Nbq21.out] at hx264_0)
                  cases e264
                  replace p264 := eq_true p264
                  replace q264 := eq_true q264
                  have p265 : 0 ≤ (a2 : Int) := of_decide_eq_true atgA_
                  have q265 : a2 < (l0.length : Int) := of_decide_eq_true atgA_
                  obtain ⟨ad265, e265, hx265_0, hx265_1, hx265_2, hx265_3, hx265_4⟩ := at_T63 (Kd.C_kept_now HR0.out HK.out) a2 p265 q265
                  obtain rfl : ad257 = ad265 := (by injection e265)
                  replace p265 := eq_true p265
                  replace q265 := eq_true q265
                  go_wp2_with (first | (go_at_call 118; (with_reducible refine (spec_Sets.calls k2 ((rd_T63 l0 a2).f0) ((rd_T63 l0 a2).f1) ((rd_T63 l0 a2).f2) ((rd_T63 l0 a2).f3) ((rd_T63 l0 a2).f4) t266 _ A25.out).mono ?_); rintro e w29 ⟨v267, rfl, ho0, hb⟩; refine swap8_ (Kd.S_below att10_0_5 hb) (Kd.R_elder' att10_0_6 (Kd.R_base ho0) hb) (Kd.R_below (by exact toR_ (HL263_0.out)) hb) (Kd.R_lower (Kd.R_new' (Kd.R_newM (M := fun k_ => (P1_ k_ ∨ w.heap.size ≤ k_)) ho0 att10_1_1 (fun k_ h_ => .inr h_)) (Kd.R_lt att10_0_6)) (below_size atgB_)) (Kd.C_below att10_0_7 hb) (pw_cell_below hb HX263_0.out) (Kept.below (S := (fun k_ => P1_ k_)) att10_0_2 hb) (below_step atgB_ hb) ?_; clear HO_1 HO_8 HL263_0 HR263_0 HX263_0 HK HB; intro HO_1 HO_8 HL263_0 HO268 HR263_0 HX263_0 HK HB; (try clear hb); (try clear hb2); (try clear hk); (try clear hi); (try clear ho0); obtain ⟨Ao30, co30, eo30⟩ := Kd.R_slice HO268.out; subst eo30) | (go_at_call 90; (with_reducible refine (spec_l18In.calls k2 _ _ t266 x9_1 t269 _ ?side1 ?side2 A26.out).mono ?_); (case side1 => repeat (first | exact (Kd.R_reads' HO268.out).2.2 | (with_reducible refine Kd.C_alloc ?_ _) | (with_reducible refine Kd.C_drewN ?_ _) | (with_reducible refine Kd.C_drew ?_))); (case side2 => exact (Kd.R_reads' HO268.out).2.1); rintro e w' ⟨rfl, ⟨nd, rfl⟩⟩))
                  go_roundg k2
                  case measure => have := HK1.out; have := HK2.out; omega
                  case rel => exact ⟨(!t269), (wrap64 (x11_2 + 1)), atgR_, atgR_, H', ⟨att10_0_8⟩, ⟨att10_0_5⟩, ⟨att10_0_14⟩, ⟨att10_0_2⟩, ⟨atgB_⟩⟩
                 ·rw [if_neg c24] at H
                  exact absurd H (by simp)
                ·rw [if_neg c23] at H
                 exact absurd H (by simp)
               ·replace c22 := Bool.eq_false_iff.mpr c22
                subst c22
                rw [if_neg (show ¬ (false = true) by decide)] at H
                have H' := Aside0.mk H
                clear H
                obtain ⟨Ao31, co31, eo31⟩ := Kd.R_slice HO_8.out
                subst eo31
                have p262 : 0 ≤ (x11_2 : Int) := of_decide_eq_true atgA_
                have q262 : x11_2 < (t254.length : Int) := of_decide_eq_true atgA_
                obtain ⟨ad262, e262, hx262_0⟩ := Kd.at_int (Kd.R_reads' HO_8.out).2.2 x11_2 p262 q262
                cases e262
                replace p262 := eq_true p262
                replace q262 := eq_true q262
                obtain ⟨Ao32, co32, eo32⟩ := Kd.S_slice HO_1.out
                subst eo32
                have p263 : 0 ≤ ((rd t254 x11_2) : Int) := of_decide_eq_true atgA_
                have q263 : (rd t254 x11_2) < (x1_1.length : Int) := of_decide_eq_true atgA_
                obtain ⟨ad263, A263_0, c263_0, e263, hx263_0, HC263_0, HR263_0, HL263_0⟩ := rowS_ HO_1.out (rd_L6 x1_1 (rd t254 x11_2)) (rd t254 x11_2) rfl p263 att10_1_9
                cases e263
                have HX263_0 := Aside0.mk hx263_0
                replace p263 := eq_true p263
                replace q263 := eq_true q263
                have p264 : 0 ≤ (x9_1 : Int) := of_decide_eq_true atgA_
                have q264 : x9_1 < ((rd_L6 x1_1 (rd t254 x11_2)).length : Int) := of_decide_eq_true atgA_
                obtain ⟨ad264, e264, hx264_0⟩ := Kd.at_bool att10_0_7 x9_1 p264 q264
                (try rw [← Nbq21.out] at hx264_0)
                cases e264
                replace p264 := eq_true p264
                replace q264 := eq_true q264
                go_wp2
                go_roundg k2
                case measure => have := HK1.out; have := HK2.out; omega
                case rel => exact ⟨(false), (wrap64 (x11_2 + 1)), atgR_, atgR_, H', ⟨att10_0_8⟩, ⟨att10_0_5⟩, ⟨att10_0_6⟩, ⟨att10_0_2⟩, ⟨atgB_⟩⟩
              ·rw [if_neg c20] at H
               exact absurd H (by simp)
             ·rw [if_neg c19] at H
              exact absurd H (by simp)
            ·rw [if_neg c18] at H
             exact absurd H (by simp)
           ·rw [if_neg c17] at H
            exact absurd H (by simp)
          ·rw [if_neg c16] at H
           exact absurd H (by simp)
        ·rw [if_neg c13] at H
         have c13b0 := decide_eq_false c13
         clear c13
         by_cases c33 : x7_1 = true
         ·subst c33
          rw [if_pos rfl] at H
          by_cases c34 : 0 ≤ a2
          ·rw [if_pos c34] at H
           have c34b0 := decide_eq_true c34
           clear c34
           by_cases c35 : a2 < (x1_1.length : Int)
           ·rw [if_pos c35] at H
            have c35b0 := decide_eq_true c35
            clear c35
            by_cases c36 : 0 ≤ x9_1
            ·rw [if_pos c36] at H
             have c36b0 := decide_eq_true c36
             clear c36
             by_cases c37 : x9_1 < ((rd_L6 x1_1 a2).length : Int)
             ·rw [if_pos c37] at H
              have c37b0 := decide_eq_true c37
              clear c37
              obtain ⟨bq38, hbq38⟩ : ∃ b_ : Bool, b_ = (rdOf false (rd_L6 x1_1 a2) x9_1) := ⟨_, rfl⟩
              replace H : (if bq38 = true then (spec_l18Round.l0 k2 l0 (x1_1.set (a2 : Int).toNat ((rd_L6 x1_1 a2).set (x9_1 : Int).toNat true)) a2 true t254 (wrap64 (x9_1 + 1))) else (spec_l18Round.l0 k2 l0 (x1_1.set (a2 : Int).toNat ((rd_L6 x1_1 a2).set (x9_1 : Int).toNat x10_2)) a2 true t254 (wrap64 (x9_1 + 1)))) = some (r1, r2) := by rw [← hbq38] at H; exact H
              have Nbq38 := Aside0.mk hbq38
              clear hbq38
              by_cases c39 : bq38 = true
              ·subst c39
               rw [if_pos rfl] at H
               obtain ⟨y273, hy273⟩ : ∃ y_ : List Bool, y_ = ((rd_L6 x1_1 a2).set (x9_1 : Int).toNat true) := ⟨_, rfl⟩
               replace H : (spec_l18Round.l0 k2 l0 (x1_1.set (a2 : Int).toNat y273) a2 true t254 (wrap64 (x9_1 + 1))) = some (r1, r2) := by rw [hy273]; exact H
               have Ny273 := Aside0.mk hy273
               clear hy273
               obtain ⟨y275, hy275⟩ : ∃ y_ : List (List Bool), y_ = (x1_1.set (a2 : Int).toNat y273) := ⟨_, rfl⟩
               replace H : (spec_l18Round.l0 k2 l0 y275 a2 true t254 (wrap64 (x9_1 + 1))) = some (r1, r2) := by rw [hy275]; exact H
               have Ny275 := Aside0.mk hy275
               clear hy275
               have H' := Aside0.mk H
               clear H
               obtain ⟨Ao41, co41, eo41⟩ := Kd.R_slice HO_8.out
               subst eo41
               try go_wp2
               have n0_ := Aside0.mk (Kd.S_drew HO_1.out)
               have n1_ := Aside0.mk (Kd.R_drew HO_8.out)
               have n2_ := Aside0.mk (Kept.drew HK.out)
               have n3_ := Aside0.mk (below_drew1 HB.out)
               clear HO_1
               clear HO_8
               clear HK
               clear HB
               have HO_1 := n0_
               have HO_8 := n1_
               have HK := n2_
               have HB := n3_
               clear n0_ n1_ n2_ n3_
               obtain ⟨Ao43, co43, eo43⟩ := Kd.S_slice HO_1.out
               (first | subst eo43 | (injection eo43 with f1_ f2_ f3_; have f4_ := f1_.symm; have f5_ := f3_.symm; clear f1_ f2_ f3_; subst f4_; subst f5_))
               have p270 : 0 ≤ (a2 : Int) := of_decide_eq_true atgA_
               have q270 : a2 < (x1_1.length : Int) := of_decide_eq_true atgA_
               obtain ⟨ad270, A270_0, c270_0, e270, hx270_0, HC270_0, HR270_0, HL270_0⟩ := rowS_ HO_1.out (rd_L6 x1_1 a2) a2 rfl p270 att10_1_8
               cases e270
               have HX270_0 := Aside0.mk hx270_0
               replace p270 := eq_true p270
               replace q270 := eq_true q270
               have p271 : 0 ≤ (a2 : Int) := of_decide_eq_true atgA_
               have q271 : a2 < (x1_1.length : Int) := of_decide_eq_true atgA_
               obtain ⟨ad271, A271_0, c271_0, e271, hx271_0, HC271_0, HR271_0, HL271_0⟩ := rowS_ HO_1.out (rd_L6 x1_1 a2) a2 rfl p271 att10_1_7
               obtain rfl : ad270 = ad271 := (by injection e271)
               have HX271_0 := Aside0.mk hx271_0
               replace p271 := eq_true p271
               replace q271 := eq_true q271
               have ea_ := Option.some.inj (hx270_0.symm.trans hx271_0)
               injection ea_ with ea_ en_ ec_
               subst ea_
               subst ec_
               clear en_
               have p272 : 0 ≤ (x9_1 : Int) := of_decide_eq_true atgA_
               have q272 : x9_1 < ((rd_L6 x1_1 a2).length : Int) := of_decide_eq_true atgA_
               obtain ⟨ad272, e272, hx272_0⟩ := Kd.at_bool att10_0_13 x9_1 p272 q272
               (try rw [← Nbq38.out] at hx272_0)
               cases e272
               replace p272 := eq_true p272
               replace q272 := eq_true q272
               have p40 : 0 ≤ (x9_1 : Int) := of_decide_eq_true atgA_
               have q40 : (x9_1 : Int) < (((rd_L6 x1_1 a2).length : Int) : Int) := of_decide_eq_true atgA_
               obtain ⟨go40, co40, eo40, gb40, gl40, cl40, HG40⟩ := Kd.R_form HL270_0.out (by omega)
               (first | cases eo40 | (injection eo40 with ea_ en_ ec_; (first | subst ea_ | (injection ea_ with ea_; subst ea_)); subst ec_; clear en_))
               have GB40 := Aside0.mk gb40
               have GG40 := Aside0.mk HG40
               clear gb40 gl40 HG40
               have HMgo40 := Aside0.mk (show (P1_ go40 ∨ w.heap.size ≤ go40) from (HL270_0.out.1 _ rfl).1)
               (first | simp only [add_plain] at hx272_0 | skip)
               obtain ⟨hx40_0, hf40_0⟩ := Kd.R_celln false HL270_0.out (x9_1 : Int) p40 q40
               replace p40 := eq_true p40
               replace q40 := eq_true q40
               have hq44 : (a2 : Int) < (x1_1.length : Int) := att10_1_0
               obtain ⟨oki44, ce44, hcl44, hM44, hcc44, hok44, hbk44⟩ := Kd.S_borrow HO_1.out [] (a2 : Int) (of_decide_eq_true atgA_) hq44
               obtain ⟨ve44_0, rfl, ge44_0⟩ := hM44
               have hv44 := hcc44 0 _ rfl
               rw [Nat.add_zero, show ((Kd.slice 4 Kd.bool)).sz = 1 from rfl, Nat.mul_one] at hv44
               replace hv44 := Option.some.inj (hv44.symm.trans HX270_0.out)
               subst hv44
               clear hcc44 hcl44
               replace ge44_0 := (show Kd.R Kd.bool 4 _ _ _ _ (rd_L6 x1_1 a2) from ge44_0)
               have HP44 := Kd.R_putg ge44_0 (x9_1 : Int) true
               rw [← Ny273.out] at HP44
               have HS44 := hbk44 HP44.2 (fun k_ e_ => by injection e_ with e_; subst e_; exact ge44_0.1 _ rfl) (x' := y273) (Kd.M_row HP44.1)
               rw [← Ny275.out] at HS44
               have HQ44 := Aside0.mk HS44
               clear HP44 HS44 hbk44 hok44
               refine start_ (n := 17) (S := fun w' => w'.cell? (ad270.add (a2).toNat) = some (.slice (some ⟨go40, 0, none⟩) (rd_L6 x1_1 a2).length c270_0) ∧ w'.cell? (ad270.add (a2).toNat) = some (.slice (some ⟨go40, 0, none⟩) (rd_L6 x1_1 a2).length c270_0) ∧ w'.cell? ⟨go40, (x9_1).toNat, none⟩ = some (.bool true)) (ds := [16]) (tf_ 0 17) (by kernel_rfl) rfl rfl ⟨hx270_0, hx271_0, hx272_0⟩ (fun hHeld => ?_); refine with_tabW spec_l18Round.tab12 spec_l18Round.bits12 (fun HT_ HW_ => ?_)
               generalize wr.drew = w42 at HO_1 HO_8 HK HB GG40 HL270_0 HL271_0 HQ44 HR270_0 HR271_0 HX270_0 HX271_0 hf40_0 hx270_0 hx271_0 hx272_0 hx40_0 hHeld ⊢
               refine pureQ_ (i := 0) (N := some 69) (tf_ 1 16) (h := ?_)
               refine pureQ_ (i := 1) (N := some 70) (tf_ 2 15) (h := ?_)
               refine pureQ_ (i := 2) (N := some 71) (tf_ 3 14) (h := ?_)
               refine pureQ_ (i := 4) (N := some 73) #[true, true, true, false, true, false, false, false, false, false, false, false, false, false, false, false, false] (h := ?_)
               refine pureQ_ (i := 5) (N := some 74) #[true, true, true, false, true, true, false, false, false, false, false, false, false, false, false, false, false] (h := ?_)
               refine pureQ_ (i := 6) (N := some 75) #[true, true, true, false, true, true, true, false, false, false, false, false, false, false, false, false, false] (h := ?_)
               refine pureQ_ (i := 7) (N := some 76) #[true, true, true, false, true, true, true, true, false, false, false, false, false, false, false, false, false] (h := ?_)
               refine pureQ_ (i := 9) (N := some 78) #[true, true, true, false, true, true, true, true, false, true, false, false, false, false, false, false, false] (h := ?_)
               refine takeQ_ (i := 3) (N := some 72) #[true, true, true, true, true, true, true, true, false, true, false, false, false, false, false, false, false] hHeld (hy := Or.inl ⟨by rfl, att10_0_4⟩) (h := ?_)
               refine takeQ_ (i := 8) (N := some 77) (tf_ 10 7) hHeld (hy := Or.inl ⟨by rfl, att10_0_4⟩) (h := ?_)
               refine pureQ_ (i := 10) (N := some 79) (tf_ 11 6) (h := ?_)
               refine takeQ_ (i := 11) (N := some 80) (tf_ 12 5) hHeld (hy := Or.inl ⟨by rfl, att10_0_4⟩) (h := ?_)
               refine pureQ_ (i := 12) (N := some 81) (tf_ 13 4) (h := ?_)
               refine offQ_ (i := 13) (N := some 82) (tf_ 14 3) (h := ?_)
               refine pureQ_ (i := 14) (N := some 83) (tf_ 15 2) (h := ?_)
               refine pureQ_ (i := 15) (N := some 84) (tf_ 16 1) (h := ?_)
               refine last_ (i := 16) (N := none) (tf_ 17 0) rfl rfl (one_of HT_.out (by kernel_rfl)) (by decide) (fun K hK => ?_)
               refine skip_ (w1 := ?_) (by rfl) rfl ?_ ?_
               rotate_left
               ·go_simp
                rfl
               refine hK.out _ _ ?_
               clear hK K
               refine done_ (done_of HT_.out (by kernel_rfl)) ?_
               try go_wp2
               go_roundg k2
               case measure => have := HK1.out; have := HK2.out; omega
               case rel => exact ⟨(y275), (true), (wrap64 (x9_1 + 1)), atgR_, atgR_, H', ⟨att10_0_8⟩, ⟨by exact toS_ (HQ44.out)⟩, ⟨by exact toR_ (Kd.R_mono (Kd.R_far (p := ⟨go40, (x9_1 : Int).toNat, none⟩) (Kd.R_types HO_8.out GG40.out (by decide)) (fun _ hk => hk.2) (.bool true)) (fun _ hk => hk.1))⟩, ⟨by repeat (first | (with_reducible first | exact HK.out | apply Kept.alloc | apply Kept.drewN | apply Kept.drew | refine Kept.setCell ?_ HMgo40.out _) | exact HK.out)⟩, ⟨by repeat (first | (with_reducible first | exact HB.out | apply below_alloc | apply pw_below_drewN | apply below_drew1 | refine below_set ?_ GB40.out) | exact HB.out)⟩⟩
              ·replace c39 := Bool.eq_false_iff.mpr c39
               subst c39
               rw [if_neg (show ¬ (false = true) by decide)] at H
               obtain ⟨y276, hy276⟩ : ∃ y_ : List Bool, y_ = ((rd_L6 x1_1 a2).set (x9_1 : Int).toNat x10_2) := ⟨_, rfl⟩
               replace H : (spec_l18Round.l0 k2 l0 (x1_1.set (a2 : Int).toNat y276) a2 true t254 (wrap64 (x9_1 + 1))) = some (r1, r2) := by rw [hy276]; exact H
               have Ny276 := Aside0.mk hy276
               clear hy276
               obtain ⟨y278, hy278⟩ : ∃ y_ : List (List Bool), y_ = (x1_1.set (a2 : Int).toNat y276) := ⟨_, rfl⟩
               replace H : (spec_l18Round.l0 k2 l0 y278 a2 true t254 (wrap64 (x9_1 + 1))) = some (r1, r2) := by rw [hy278]; exact H
               have Ny278 := Aside0.mk hy278
               clear hy278
               have H' := Aside0.mk H
               clear H
               obtain ⟨Ao47, co47, eo47⟩ := Kd.R_slice HO_8.out
               subst eo47
               try go_wp2
               have n0_ := Aside0.mk (Kd.S_drew HO_1.out)
               have n1_ := Aside0.mk (Kd.R_drew HO_8.out)
               have n2_ := Aside0.mk (Kept.drew HK.out)
               have n3_ := Aside0.mk (below_drew1 HB.out)
               clear HO_1
               clear HO_8
               clear HK
               clear HB
               have HO_1 := n0_
               have HO_8 := n1_
               have HK := n2_
               have HB := n3_
               clear n0_ n1_ n2_ n3_
               obtain ⟨Ao49, co49, eo49⟩ := Kd.S_slice HO_1.out
               (first | subst eo49 | (injection eo49 with f1_ f2_ f3_; have f4_ := f1_.symm; have f5_ := f3_.symm; clear f1_ f2_ f3_; subst f4_; subst f5_))
               have p270 : 0 ≤ (a2 : Int) := of_decide_eq_true atgA_
               have q270 : a2 < (x1_1.length : Int) := of_decide_eq_true atgA_
               obtain ⟨ad270, A270_0, c270_0, e270, hx270_0, HC270_0, HR270_0, HL270_0⟩ := rowS_ HO_1.out (rd_L6 x1_1 a2) a2 rfl p270 att10_1_8
               cases e270
               have HX270_0 := Aside0.mk hx270_0
               replace p270 := eq_true p270
               replace q270 := eq_true q270
               have p271 : 0 ≤ (a2 : Int) := of_decide_eq_true atgA_
               have q271 : a2 < (x1_1.length : Int) := of_decide_eq_true atgA_
               obtain ⟨ad271, A271_0, c271_0, e271, hx271_0, HC271_0, HR271_0, HL271_0⟩ := rowS_ HO_1.out (rd_L6 x1_1 a2) a2 rfl p271 att10_1_7
               obtain rfl : ad270 = ad271 := (by injection e271)
               have HX271_0 := Aside0.mk hx271_0
               replace p271 := eq_true p271
               replace q271 := eq_true q271
               have ea_ := Option.some.inj (hx270_0.symm.trans hx271_0)
               injection ea_ with ea_ en_ ec_
               subst ea_
               subst ec_
               clear en_
               have p272 : 0 ≤ (x9_1 : Int) := of_decide_eq_true atgA_
               have q272 : x9_1 < ((rd_L6 x1_1 a2).length : Int) := of_decide_eq_true atgA_
               obtain ⟨ad272, e272, hx272_0⟩ := Kd.at_bool att10_0_13 x9_1 p272 q272
               (try rw [← Nbq38.out] at hx272_0)
               cases e272
               replace p272 := eq_true p272
               replace q272 := eq_true q272
               have p46 : 0 ≤ (x9_1 : Int) := of_decide_eq_true atgA_
               have q46 : (x9_1 : Int) < (((rd_L6 x1_1 a2).length : Int) : Int) := of_decide_eq_true atgA_
               obtain ⟨go46, co46, eo46, gb46, gl46, cl46, HG46⟩ := Kd.R_form HL270_0.out (by omega)
               (first | cases eo46 | (injection eo46 with ea_ en_ ec_; (first | subst ea_ | (injection ea_ with ea_; subst ea_)); subst ec_; clear en_))
               have GB46 := Aside0.mk gb46
               have GG46 := Aside0.mk HG46
               clear gb46 gl46 HG46
               have HMgo46 := Aside0.mk (show (P1_ go46 ∨ w.heap.size ≤ go46) from (HL270_0.out.1 _ rfl).1)
               (first | simp only [add_plain] at hx272_0 | skip)
               obtain ⟨hx46_0, hf46_0⟩ := Kd.R_celln false HL270_0.out (x9_1 : Int) p46 q46
               replace p46 := eq_true p46
               replace q46 := eq_true q46
               have hq50 : (a2 : Int) < (x1_1.length : Int) := att10_1_0
               obtain ⟨oki50, ce50, hcl50, hM50, hcc50, hok50, hbk50⟩ := Kd.S_borrow HO_1.out [] (a2 : Int) (of_decide_eq_true atgA_) hq50
               obtain ⟨ve50_0, rfl, ge50_0⟩ := hM50
               have hv50 := hcc50 0 _ rfl
               rw [Nat.add_zero, show ((Kd.slice 4 Kd.bool)).sz = 1 from rfl, Nat.mul_one] at hv50
               replace hv50 := Option.some.inj (hv50.symm.trans HX270_0.out)
               subst hv50
               clear hcc50 hcl50
               replace ge50_0 := (show Kd.R Kd.bool 4 _ _ _ _ (rd_L6 x1_1 a2) from ge50_0)
               have HP50 := Kd.R_putg ge50_0 (x9_1 : Int) x10_2
               rw [← Ny276.out] at HP50
               have HS50 := hbk50 HP50.2 (fun k_ e_ => by injection e_ with e_; subst e_; exact ge50_0.1 _ rfl) (x' := y276) (Kd.M_row HP50.1)
               rw [← Ny278.out] at HS50
               have HQ50 := Aside0.mk HS50
               clear HP50 HS50 hbk50 hok50
               refine start_ (n := 17) (S := fun w' => w'.cell? (ad270.add (a2).toNat) = some (.slice (some ⟨go46, 0, none⟩) (rd_L6 x1_1 a2).length c270_0) ∧ w'.cell? (ad270.add (a2).toNat) = some (.slice (some ⟨go46, 0, none⟩) (rd_L6 x1_1 a2).length c270_0) ∧ w'.cell? ⟨go46, (x9_1).toNat, none⟩ = some (.bool false)) (ds := [16]) (tf_ 0 17) (by kernel_rfl) rfl rfl ⟨hx270_0, hx271_0, hx272_0⟩ (fun hHeld => ?_); refine with_tabW spec_l18Round.tab12 spec_l18Round.bits12 (fun HT_ HW_ => ?_)
               generalize wr.drew = w48 at HO_1 HO_8 HK HB GG46 HL270_0 HL271_0 HQ50 HR270_0 HR271_0 HX270_0 HX271_0 hf46_0 hx270_0 hx271_0 hx272_0 hx46_0 hHeld ⊢
               refine pureQ_ (i := 0) (N := some 69) (tf_ 1 16) (h := ?_)
               refine pureQ_ (i := 1) (N := some 70) (tf_ 2 15) (h := ?_)
               refine pureQ_ (i := 2) (N := some 71) (tf_ 3 14) (h := ?_)
               refine pureQ_ (i := 4) (N := some 73) #[true, true, true, false, true, false, false, false, false, false, false, false, false, false, false, false, false] (h := ?_)
               refine pureQ_ (i := 5) (N := some 74) #[true, true, true, false, true, true, false, false, false, false, false, false, false, false, false, false, false] (h := ?_)
               refine pureQ_ (i := 6) (N := some 75) #[true, true, true, false, true, true, true, false, false, false, false, false, false, false, false, false, false] (h := ?_)
               refine pureQ_ (i := 7) (N := some 76) #[true, true, true, false, true, true, true, true, false, false, false, false, false, false, false, false, false] (h := ?_)
               refine pureQ_ (i := 9) (N := some 78) #[true, true, true, false, true, true, true, true, false, true, false, false, false, false, false, false, false] (h := ?_)
               refine takeQ_ (i := 3) (N := some 72) #[true, true, true, true, true, true, true, true, false, true, false, false, false, false, false, false, false] hHeld (hy := Or.inl ⟨by rfl, att10_0_4⟩) (h := ?_)
               refine takeQ_ (i := 8) (N := some 77) (tf_ 10 7) hHeld (hy := Or.inl ⟨by rfl, att10_0_4⟩) (h := ?_)
               refine pureQ_ (i := 10) (N := some 79) (tf_ 11 6) (h := ?_)
               refine takeQ_ (i := 11) (N := some 80) (tf_ 12 5) hHeld (hy := Or.inl ⟨by rfl, att10_0_4⟩) (h := ?_)
               refine pureQ_ (i := 12) (N := some 81) (tf_ 13 4) (h := ?_)
               refine pureQ_ (i := 13) (N := some 82) (tf_ 14 3) (h := ?_)
               refine pureQ_ (i := 14) (N := some 83) (tf_ 15 2) (h := ?_)
               refine pureQ_ (i := 15) (N := some 84) (tf_ 16 1) (h := ?_)
               refine last_ (i := 16) (N := none) (tf_ 17 0) rfl rfl (one_of HT_.out (by kernel_rfl)) (by decide) (fun K hK => ?_)
               refine skip_ (w1 := ?_) (by rfl) rfl ?_ ?_
               rotate_left
               ·go_simp
                rfl
               refine hK.out _ _ ?_
               clear hK K
               refine done_ (done_of HT_.out (by kernel_rfl)) ?_
               try go_wp2
               go_roundg k2
               case measure => have := HK1.out; have := HK2.out; omega
               case rel => exact ⟨(y278), (true), (wrap64 (x9_1 + 1)), atgR_, atgR_, H', ⟨att10_0_8⟩, ⟨by exact toS_ (HQ50.out)⟩, ⟨by exact toR_ (Kd.R_mono (Kd.R_far (p := ⟨go46, (x9_1 : Int).toNat, none⟩) (Kd.R_types HO_8.out GG46.out (by decide)) (fun _ hk => hk.2) (.bool x10_2)) (fun _ hk => hk.1))⟩, ⟨by repeat (first | (with_reducible first | exact HK.out | apply Kept.alloc | apply Kept.drewN | apply Kept.drew | refine Kept.setCell ?_ HMgo46.out _) | exact HK.out)⟩, ⟨by repeat (first | (with_reducible first | exact HB.out | apply below_alloc | apply pw_below_drewN | apply below_drew1 | refine below_set ?_ GB46.out) | exact HB.out)⟩⟩
             ·rw [if_neg c37] at H
              exact absurd H (by simp)
            ·rw [if_neg c36] at H
             exact absurd H (by simp)
           ·rw [if_neg c35] at H
            exact absurd H (by simp)
          ·rw [if_neg c34] at H
           exact absurd H (by simp)
         ·replace c33 := Bool.eq_false_iff.mpr c33
          subst c33
          rw [if_neg (show ¬ (false = true) by decide)] at H
          by_cases c52 : x10_2 = true
          ·subst c52
           rw [if_pos rfl] at H
           by_cases c53 : 0 ≤ a2
           ·rw [if_pos c53] at H
            have c53b0 := decide_eq_true c53
            clear c53
            by_cases c54 : a2 < (x1_1.length : Int)
            ·rw [if_pos c54] at H
             have c54b0 := decide_eq_true c54
             clear c54
             by_cases c55 : 0 ≤ x9_1
             ·rw [if_pos c55] at H
              have c55b0 := decide_eq_true c55
              clear c55
              by_cases c56 : x9_1 < ((rd_L6 x1_1 a2).length : Int)
              ·rw [if_pos c56] at H
               have c56b0 := decide_eq_true c56
               clear c56
               obtain ⟨bq57, hbq57⟩ : ∃ b_ : Bool, b_ = (rdOf false (rd_L6 x1_1 a2) x9_1) := ⟨_, rfl⟩
               replace H : (if bq57 = true then (spec_l18Round.l0 k2 l0 (x1_1.set (a2 : Int).toNat ((rd_L6 x1_1 a2).set (x9_1 : Int).toNat true)) a2 (!(bq57)) t254 (wrap64 (x9_1 + 1))) else (spec_l18Round.l0 k2 l0 (x1_1.set (a2 : Int).toNat ((rd_L6 x1_1 a2).set (x9_1 : Int).toNat true)) a2 (!(bq57)) t254 (wrap64 (x9_1 + 1)))) = some (r1, r2) := by rw [← hbq57] at H; exact H
               have Nbq57 := Aside0.mk hbq57
               clear hbq57
               by_cases c58 : bq57 = true
               ·subst c58
                rw [if_pos rfl] at H
                obtain ⟨y284, hy284⟩ : ∃ y_ : List Bool, y_ = ((rd_L6 x1_1 a2).set (x9_1 : Int).toNat true) := ⟨_, rfl⟩
                replace H : (spec_l18Round.l0 k2 l0 (x1_1.set (a2 : Int).toNat y284) a2 (!(true)) t254 (wrap64 (x9_1 + 1))) = some (r1, r2) := by rw [hy284]; exact H
                have Ny284 := Aside0.mk hy284
                clear hy284
                obtain ⟨y286, hy286⟩ : ∃ y_ : List (List Bool), y_ = (x1_1.set (a2 : Int).toNat y284) := ⟨_, rfl⟩
                replace H : (spec_l18Round.l0 k2 l0 y286 a2 (!(true)) t254 (wrap64 (x9_1 + 1))) = some (r1, r2) := by rw [hy286]; exact H
                have Ny286 := Aside0.mk hy286
                clear hy286
                have H' := Aside0.mk H
                clear H
                obtain ⟨Ao60, co60, eo60⟩ := Kd.R_slice HO_8.out
                subst eo60
                obtain ⟨Ao61, co61, eo61⟩ := Kd.S_slice HO_1.out
                subst eo61
                have p279 : 0 ≤ (a2 : Int) := of_decide_eq_true atgA_
                have q279 : a2 < (x1_1.length : Int) := of_decide_eq_true atgA_
                obtain ⟨ad279, A279_0, c279_0, e279, hx279_0, HC279_0, HR279_0, HL279_0⟩ := rowS_ HO_1.out (rd_L6 x1_1 a2) a2 rfl p279 att10_1_6
                cases e279
                have HX279_0 := Aside0.mk hx279_0
                replace p279 := eq_true p279
                replace q279 := eq_true q279
                have p280 : 0 ≤ (x9_1 : Int) := of_decide_eq_true atgA_
                have q280 : x9_1 < ((rd_L6 x1_1 a2).length : Int) := of_decide_eq_true atgA_
                obtain ⟨ad280, e280, hx280_0⟩ := Kd.at_bool att10_0_12 x9_1 p280 q280
                (try rw [← Nbq57.out] at hx280_0)
                cases e280
                replace p280 := eq_true p280
                replace q280 := eq_true q280
                try go_wp2
                have n0_ := Aside0.mk (Kd.S_drew HO_1.out)
                have n1_ := Aside0.mk (Kd.R_drew HO_8.out)
                have n2_ := Aside0.mk (Kd.R_drew HL279_0.out)
                have n3_ := Aside0.mk (Kd.C_drew HR279_0.out)
                have n4_ := Aside0.mk (Kept.drew HK.out)
                have n5_ := Aside0.mk (below_drew1 HB.out)
                clear HO_1
                clear HO_8
                clear HL279_0
                clear HR279_0
                clear HK
                clear HB
                have HO_1 := n0_
                have HO_8 := n1_
                have HL279_0 := n2_
                have HR279_0 := n3_
                have HK := n4_
                have HB := n5_
                clear n0_ n1_ n2_ n3_ n4_ n5_
                have p281 : 0 ≤ (a2 : Int) := of_decide_eq_true atgA_
                have q281 : a2 < (x1_1.length : Int) := of_decide_eq_true atgA_
                obtain ⟨ad281, A281_0, c281_0, e281, hx281_0, HC281_0, HR281_0, HL281_0⟩ := rowS_ HO_1.out (rd_L6 x1_1 a2) a2 rfl p281 att10_1_5
                obtain rfl : ad279 = ad281 := (by injection e281)
                have HX281_0 := Aside0.mk hx281_0
                replace p281 := eq_true p281
                replace q281 := eq_true q281
                have p282 : 0 ≤ (a2 : Int) := of_decide_eq_true atgA_
                have q282 : a2 < (x1_1.length : Int) := of_decide_eq_true atgA_
                obtain ⟨ad282, A282_0, c282_0, e282, hx282_0, HC282_0, HR282_0, HL282_0⟩ := rowS_ HO_1.out (rd_L6 x1_1 a2) a2 rfl p282 att10_1_4
                obtain rfl : ad279 = ad282 := (by injection e282)
                have HX282_0 := Aside0.mk hx282_0
                replace p282 := eq_true p282
                replace q282 := eq_true q282
                have ea_ := Option.some.inj (hx281_0.symm.trans hx282_0)
                injection ea_ with ea_ en_ ec_
                subst ea_
                subst ec_
                clear en_
                have p283 : 0 ≤ (x9_1 : Int) := of_decide_eq_true atgA_
                have q283 : x9_1 < ((rd_L6 x1_1 a2).length : Int) := of_decide_eq_true atgA_
                obtain ⟨ad283, e283, hx283_0⟩ := Kd.at_bool att10_0_11 x9_1 p283 q283
                (try rw [← Nbq57.out] at hx283_0)
                cases e283
                replace p283 := eq_true p283
                replace q283 := eq_true q283
                have p59 : 0 ≤ (x9_1 : Int) := of_decide_eq_true atgA_
                have q59 : (x9_1 : Int) < (((rd_L6 x1_1 a2).length : Int) : Int) := of_decide_eq_true atgA_
                obtain ⟨go59, co59, eo59, gb59, gl59, cl59, HG59⟩ := Kd.R_form HL281_0.out (by omega)
                (first | cases eo59 | (injection eo59 with ea_ en_ ec_; (first | subst ea_ | (injection ea_ with ea_; subst ea_)); subst ec_; clear en_))
                have GB59 := Aside0.mk gb59
                have GG59 := Aside0.mk HG59
                clear gb59 gl59 HG59
                have HMgo59 := Aside0.mk (show (P1_ go59 ∨ w.heap.size ≤ go59) from (HL281_0.out.1 _ rfl).1)
                (first | simp only [add_plain] at hx283_0 | skip)
                obtain ⟨hx59_0, hf59_0⟩ := Kd.R_celln false HL281_0.out (x9_1 : Int) p59 q59
                replace p59 := eq_true p59
                replace q59 := eq_true q59
                have hq63 : (a2 : Int) < (x1_1.length : Int) := att10_1_0
                obtain ⟨oki63, ce63, hcl63, hM63, hcc63, hok63, hbk63⟩ := Kd.S_borrow HO_1.out [] (a2 : Int) (of_decide_eq_true atgA_) hq63
                obtain ⟨ve63_0, rfl, ge63_0⟩ := hM63
                have hv63 := hcc63 0 _ rfl
                rw [Nat.add_zero, show ((Kd.slice 4 Kd.bool)).sz = 1 from rfl, Nat.mul_one] at hv63
                replace hv63 := Option.some.inj (hv63.symm.trans HX281_0.out)
                subst hv63
                clear hcc63 hcl63
                replace ge63_0 := (show Kd.R Kd.bool 4 _ _ _ _ (rd_L6 x1_1 a2) from ge63_0)
                have HP63 := Kd.R_putg ge63_0 (x9_1 : Int) true
                rw [← Ny284.out] at HP63
                have HS63 := hbk63 HP63.2 (fun k_ e_ => by injection e_ with e_; subst e_; exact ge63_0.1 _ rfl) (x' := y284) (Kd.M_row HP63.1)
                rw [← Ny286.out] at HS63
                have HQ63 := Aside0.mk HS63
                clear HP63 HS63 hbk63 hok63
                refine start_ (n := 17) (S := fun w' => w'.cell? (ad279.add (a2).toNat) = some (.slice (some ⟨go59, 0, none⟩) (rd_L6 x1_1 a2).length c281_0) ∧ w'.cell? (ad279.add (a2).toNat) = some (.slice (some ⟨go59, 0, none⟩) (rd_L6 x1_1 a2).length c281_0) ∧ w'.cell? ⟨go59, (x9_1).toNat, none⟩ = some (.bool true)) (ds := [16]) (tf_ 0 17) (by kernel_rfl) rfl rfl ⟨hx281_0, hx282_0, hx283_0⟩ (fun hHeld => ?_); refine with_tabW spec_l18Round.tab12 spec_l18Round.bits12 (fun HT_ HW_ => ?_)
                generalize wr.drew = w62 at HO_1 HO_8 HL279_0 HR279_0 HK HB GG59 HL281_0 HL282_0 HQ63 HR281_0 HR282_0 HX281_0 HX282_0 hf59_0 hx281_0 hx282_0 hx283_0 hx59_0 hHeld ⊢
                refine pureQ_ (i := 0) (N := some 69) (tf_ 1 16) (h := ?_)
                refine pureQ_ (i := 1) (N := some 70) (tf_ 2 15) (h := ?_)
                refine pureQ_ (i := 2) (N := some 71) (tf_ 3 14) (h := ?_)
                refine pureQ_ (i := 4) (N := some 73) #[true, true, true, false, true, false, false, false, false, false, false, false, false, false, false, false, false] (h := ?_)
                refine pureQ_ (i := 5) (N := some 74) #[true, true, true, false, true, true, false, false, false, false, false, false, false, false, false, false, false] (h := ?_)
                refine pureQ_ (i := 6) (N := some 75) #[true, true, true, false, true, true, true, false, false, false, false, false, false, false, false, false, false] (h := ?_)
                refine pureQ_ (i := 7) (N := some 76) #[true, true, true, false, true, true, true, true, false, false, false, false, false, false, false, false, false] (h := ?_)
                refine pureQ_ (i := 9) (N := some 78) #[true, true, true, false, true, true, true, true, false, true, false, false, false, false, false, false, false] (h := ?_)
                refine takeQ_ (i := 3) (N := some 72) #[true, true, true, true, true, true, true, true, false, true, false, false, false, false, false, false, false] hHeld (hy := Or.inl ⟨by rfl, att10_0_4⟩) (h := ?_)
                refine takeQ_ (i := 8) (N := some 77) (tf_ 10 7) hHeld (hy := Or.inl ⟨by rfl, att10_0_4⟩) (h := ?_)
                refine pureQ_ (i := 10) (N := some 79) (tf_ 11 6) (h := ?_)
                refine takeQ_ (i := 11) (N := some 80) (tf_ 12 5) hHeld (hy := Or.inl ⟨by rfl, att10_0_4⟩) (h := ?_)
                refine pureQ_ (i := 12) (N := some 81) (tf_ 13 4) (h := ?_)
                refine offQ_ (i := 13) (N := some 82) (tf_ 14 3) (h := ?_)
                refine pureQ_ (i := 14) (N := some 83) (tf_ 15 2) (h := ?_)
                refine pureQ_ (i := 15) (N := some 84) (tf_ 16 1) (h := ?_)
                refine last_ (i := 16) (N := none) (tf_ 17 0) rfl rfl (one_of HT_.out (by kernel_rfl)) (by decide) (fun K hK => ?_)
                refine skip_ (w1 := ?_) (by rfl) rfl ?_ ?_
                rotate_left
                ·go_simp
                 rfl
                refine hK.out _ _ ?_
                clear hK K
                refine done_ (done_of HT_.out (by kernel_rfl)) ?_
                try go_wp2
                go_roundg k2
                case measure => have := HK1.out; have := HK2.out; omega
                case rel => exact ⟨(y286), (!(true)), (wrap64 (x9_1 + 1)), atgR_, atgR_, H', ⟨att10_0_8⟩, ⟨by exact toS_ (HQ63.out)⟩, ⟨by exact toR_ (Kd.R_mono (Kd.R_far (p := ⟨go59, (x9_1 : Int).toNat, none⟩) (Kd.R_types HO_8.out GG59.out (by decide)) (fun _ hk => hk.2) (.bool true)) (fun _ hk => hk.1))⟩, ⟨by repeat (first | (with_reducible first | exact HK.out | apply Kept.alloc | apply Kept.drewN | apply Kept.drew | refine Kept.setCell ?_ HMgo59.out _) | exact HK.out)⟩, ⟨by repeat (first | (with_reducible first | exact HB.out | apply below_alloc | apply pw_below_drewN | apply below_drew1 | refine below_set ?_ GB59.out) | exact HB.out)⟩⟩
               ·replace c58 := Bool.eq_false_iff.mpr c58
                subst c58
                rw [if_neg (show ¬ (false = true) by decide)] at H
                obtain ⟨y287, hy287⟩ : ∃ y_ : List Bool, y_ = ((rd_L6 x1_1 a2).set (x9_1 : Int).toNat true) := ⟨_, rfl⟩
                replace H : (spec_l18Round.l0 k2 l0 (x1_1.set (a2 : Int).toNat y287) a2 (!(false)) t254 (wrap64 (x9_1 + 1))) = some (r1, r2) := by rw [hy287]; exact H
                have Ny287 := Aside0.mk hy287
                clear hy287
                obtain ⟨y289, hy289⟩ : ∃ y_ : List (List Bool), y_ = (x1_1.set (a2 : Int).toNat y287) := ⟨_, rfl⟩
                replace H : (spec_l18Round.l0 k2 l0 y289 a2 (!(false)) t254 (wrap64 (x9_1 + 1))) = some (r1, r2) := by rw [hy289]; exact H
                have Ny289 := Aside0.mk hy289
                clear hy289
                have H' := Aside0.mk H
                clear H
                obtain ⟨Ao66, co66, eo66⟩ := Kd.R_slice HO_8.out
                subst eo66
                obtain ⟨Ao67, co67, eo67⟩ := Kd.S_slice HO_1.out
                subst eo67
                have p279 : 0 ≤ (a2 : Int) := of_decide_eq_true atgA_
                have q279 : a2 < (x1_1.length : Int) := of_decide_eq_true atgA_
                obtain ⟨ad279, A279_0, c279_0, e279, hx279_0, HC279_0, HR279_0, HL279_0⟩ := rowS_ HO_1.out (rd_L6 x1_1 a2) a2 rfl p279 att10_1_6
                cases e279
                have HX279_0 := Aside0.mk hx279_0
                replace p279 := eq_true p279
                replace q279 := eq_true q279
                have p280 : 0 ≤ (x9_1 : Int) := of_decide_eq_true atgA_
                have q280 : x9_1 < ((rd_L6 x1_1 a2).length : Int) := of_decide_eq_true atgA_
                obtain ⟨ad280, e280, hx280_0⟩ := Kd.at_bool att10_0_12 x9_1 p280 q280
                (try rw [← Nbq57.out] at hx280_0)
                cases e280
                replace p280 := eq_true p280
                replace q280 := eq_true q280
                try go_wp2
                have n0_ := Aside0.mk (Kd.S_drew HO_1.out)
                have n1_ := Aside0.mk (Kd.R_drew HO_8.out)
                have n2_ := Aside0.mk (Kd.R_drew HL279_0.out)
                have n3_ := Aside0.mk (Kd.C_drew HR279_0.out)
                have n4_ := Aside0.mk (Kept.drew HK.out)
                have n5_ := Aside0.mk (below_drew1 HB.out)
                clear HO_1
                clear HO_8
                clear HL279_0
                clear HR279_0
                clear HK
                clear HB
                have HO_1 := n0_
                have HO_8 := n1_
                have HL279_0 := n2_
                have HR279_0 := n3_
                have HK := n4_
                have HB := n5_
                clear n0_ n1_ n2_ n3_ n4_ n5_
                have p281 : 0 ≤ (a2 : Int) := of_decide_eq_true atgA_
                have q281 : a2 < (x1_1.length : Int) := of_decide_eq_true atgA_
                obtain ⟨ad281, A281_0, c281_0, e281, hx281_0, HC281_0, HR281_0, HL281_0⟩ := rowS_ HO_1.out (rd_L6 x1_1 a2) a2 rfl p281 att10_1_5
                obtain rfl : ad279 = ad281 := (by injection e281)
                have HX281_0 := Aside0.mk hx281_0
                replace p281 := eq_true p281
                replace q281 := eq_true q281
                have p282 : 0 ≤ (a2 : Int) := of_decide_eq_true atgA_
                have q282 : a2 < (x1_1.length : Int) := of_decide_eq_true atgA_
                obtain ⟨ad282, A282_0, c282_0, e282, hx282_0, HC282_0, HR282_0, HL282_0⟩ := rowS_ HO_1.out (rd_L6 x1_1 a2) a2 rfl p282 att10_1_4
                obtain rfl : ad279 = ad282 := (by injection e282)
                have HX282_0 := Aside0.mk hx282_0
                replace p282 := eq_true p282
                replace q282 := eq_true q282
                have ea_ := Option.some.inj (hx281_0.symm.trans hx282_0)
                injection ea_ with ea_ en_ ec_
                subst ea_
                subst ec_
                clear en_
                have p283 : 0 ≤ (x9_1 : Int) := of_decide_eq_true atgA_
                have q283 : x9_1 < ((rd_L6 x1_1 a2).length : Int) := of_decide_eq_true atgA_
                obtain ⟨ad283, e283, hx283_0⟩ := Kd.at_bool att10_0_11 x9_1 p283 q283
                (try rw [← Nbq57.out] at hx283_0)
                cases e283
                replace p283 := eq_true p283
                replace q283 := eq_true q283
                have p65 : 0 ≤ (x9_1 : Int) := of_decide_eq_true atgA_
                have q65 : (x9_1 : Int) < (((rd_L6 x1_1 a2).length : Int) : Int) := of_decide_eq_true atgA_
                obtain ⟨go65, co65, eo65, gb65, gl65, cl65, HG65⟩ := Kd.R_form HL281_0.out (by omega)
                (first | cases eo65 | (injection eo65 with ea_ en_ ec_; (first | subst ea_ | (injection ea_ with ea_; subst ea_)); subst ec_; clear en_))
                have GB65 := Aside0.mk gb65
                have GG65 := Aside0.mk HG65
                clear gb65 gl65 HG65
                have HMgo65 := Aside0.mk (show (P1_ go65 ∨ w.heap.size ≤ go65) from (HL281_0.out.1 _ rfl).1)
                (first | simp only [add_plain] at hx283_0 | skip)
                obtain ⟨hx65_0, hf65_0⟩ := Kd.R_celln false HL281_0.out (x9_1 : Int) p65 q65
                replace p65 := eq_true p65
                replace q65 := eq_true q65
                have hq69 : (a2 : Int) < (x1_1.length : Int) := att10_1_0
                obtain ⟨oki69, ce69, hcl69, hM69, hcc69, hok69, hbk69⟩ := Kd.S_borrow HO_1.out [] (a2 : Int) (of_decide_eq_true atgA_) hq69
                obtain ⟨ve69_0, rfl, ge69_0⟩ := hM69
                have hv69 := hcc69 0 _ rfl
                rw [Nat.add_zero, show ((Kd.slice 4 Kd.bool)).sz = 1 from rfl, Nat.mul_one] at hv69
                replace hv69 := Option.some.inj (hv69.symm.trans HX281_0.out)
                subst hv69
                clear hcc69 hcl69
                replace ge69_0 := (show Kd.R Kd.bool 4 _ _ _ _ (rd_L6 x1_1 a2) from ge69_0)
                have HP69 := Kd.R_putg ge69_0 (x9_1 : Int) true
                rw [← Ny287.out] at HP69
                have HS69 := hbk69 HP69.2 (fun k_ e_ => by injection e_ with e_; subst e_; exact ge69_0.1 _ rfl) (x' := y287) (Kd.M_row HP69.1)
                rw [← Ny289.out] at HS69
                have HQ69 := Aside0.mk HS69
                clear HP69 HS69 hbk69 hok69
                refine start_ (n := 17) (S := fun w' => w'.cell? (ad279.add (a2).toNat) = some (.slice (some ⟨go65, 0, none⟩) (rd_L6 x1_1 a2).length c281_0) ∧ w'.cell? (ad279.add (a2).toNat) = some (.slice (some ⟨go65, 0, none⟩) (rd_L6 x1_1 a2).length c281_0) ∧ w'.cell? ⟨go65, (x9_1).toNat, none⟩ = some (.bool false)) (ds := [16]) (tf_ 0 17) (by kernel_rfl) rfl rfl ⟨hx281_0, hx282_0, hx283_0⟩ (fun hHeld => ?_); refine with_tabW spec_l18Round.tab12 spec_l18Round.bits12 (fun HT_ HW_ => ?_)
                generalize wr.drew = w68 at HO_1 HO_8 HL279_0 HR279_0 HK HB GG65 HL281_0 HL282_0 HQ69 HR281_0 HR282_0 HX281_0 HX282_0 hf65_0 hx281_0 hx282_0 hx283_0 hx65_0 hHeld ⊢
                refine pureQ_ (i := 0) (N := some 69) (tf_ 1 16) (h := ?_)
                refine pureQ_ (i := 1) (N := some 70) (tf_ 2 15) (h := ?_)
                refine pureQ_ (i := 2) (N := some 71) (tf_ 3 14) (h := ?_)
                refine pureQ_ (i := 4) (N := some 73) #[true, true, true, false, true, false, false, false, false, false, false, false, false, false, false, false, false] (h := ?_)
                refine pureQ_ (i := 5) (N := some 74) #[true, true, true, false, true, true, false, false, false, false, false, false, false, false, false, false, false] (h := ?_)
                refine pureQ_ (i := 6) (N := some 75) #[true, true, true, false, true, true, true, false, false, false, false, false, false, false, false, false, false] (h := ?_)
                refine pureQ_ (i := 7) (N := some 76) #[true, true, true, false, true, true, true, true, false, false, false, false, false, false, false, false, false] (h := ?_)
                refine pureQ_ (i := 9) (N := some 78) #[true, true, true, false, true, true, true, true, false, true, false, false, false, false, false, false, false] (h := ?_)
                refine takeQ_ (i := 3) (N := some 72) #[true, true, true, true, true, true, true, true, false, true, false, false, false, false, false, false, false] hHeld (hy := Or.inl ⟨by rfl, att10_0_4⟩) (h := ?_)
                refine takeQ_ (i := 8) (N := some 77) (tf_ 10 7) hHeld (hy := Or.inl ⟨by rfl, att10_0_4⟩) (h := ?_)
                refine pureQ_ (i := 10) (N := some 79) (tf_ 11 6) (h := ?_)
                refine takeQ_ (i := 11) (N := some 80) (tf_ 12 5) hHeld (hy := Or.inl ⟨by rfl, att10_0_4⟩) (h := ?_)
                refine pureQ_ (i := 12) (N := some 81) (tf_ 13 4) (h := ?_)
                refine pureQ_ (i := 13) (N := some 82) (tf_ 14 3) (h := ?_)
                refine pureQ_ (i := 14) (N := some 83) (tf_ 15 2) (h := ?_)
                refine pureQ_ (i := 15) (N := some 84) (tf_ 16 1) (h := ?_)
                refine last_ (i := 16) (N := none) (tf_ 17 0) rfl rfl (one_of HT_.out (by kernel_rfl)) (by decide) (fun K hK => ?_)
                refine skip_ (w1 := ?_) (by rfl) rfl ?_ ?_
                rotate_left
                ·go_simp
                 rfl
                refine hK.out _ _ ?_
                clear hK K
                refine done_ (done_of HT_.out (by kernel_rfl)) ?_
                try go_wp2
                go_roundg k2
                case measure => have := HK1.out; have := HK2.out; omega
                case rel => exact ⟨(y289), (!(false)), (wrap64 (x9_1 + 1)), atgR_, atgR_, H', ⟨att10_0_8⟩, ⟨by exact toS_ (HQ69.out)⟩, ⟨by exact toR_ (Kd.R_mono (Kd.R_far (p := ⟨go65, (x9_1 : Int).toNat, none⟩) (Kd.R_types HO_8.out GG65.out (by decide)) (fun _ hk => hk.2) (.bool true)) (fun _ hk => hk.1))⟩, ⟨by repeat (first | (with_reducible first | exact HK.out | apply Kept.alloc | apply Kept.drewN | apply Kept.drew | refine Kept.setCell ?_ HMgo65.out _) | exact HK.out)⟩, ⟨by repeat (first | (with_reducible first | exact HB.out | apply below_alloc | apply pw_below_drewN | apply below_drew1 | refine below_set ?_ GB65.out) | exact HB.out)⟩⟩
              ·rw [if_neg c56] at H
               exact absurd H (by simp)
             ·rw [if_neg c55] at H
              exact absurd H (by simp)
            ·rw [if_neg c54] at H
             exact absurd H (by simp)
           ·rw [if_neg c53] at H
            exact absurd H (by simp)
          ·replace c52 := Bool.eq_false_iff.mpr c52
           subst c52
           rw [if_neg (show ¬ (false = true) by decide)] at H
           by_cases c71 : 0 ≤ a2
           ·rw [if_pos c71] at H
            have c71b0 := decide_eq_true c71
            clear c71
            by_cases c72 : a2 < (x1_1.length : Int)
            ·rw [if_pos c72] at H
             have c72b0 := decide_eq_true c72
             clear c72
             by_cases c73 : 0 ≤ x9_1
             ·rw [if_pos c73] at H
              have c73b0 := decide_eq_true c73
              clear c73
              by_cases c74 : x9_1 < ((rd_L6 x1_1 a2).length : Int)
              ·rw [if_pos c74] at H
               have c74b0 := decide_eq_true c74
               clear c74
               obtain ⟨bq75, hbq75⟩ : ∃ b_ : Bool, b_ = (rdOf false (rd_L6 x1_1 a2) x9_1) := ⟨_, rfl⟩
               replace H : (if bq75 = true then (spec_l18Round.l0 k2 l0 (x1_1.set (a2 : Int).toNat ((rd_L6 x1_1 a2).set (x9_1 : Int).toNat true)) a2 false t254 (wrap64 (x9_1 + 1))) else (spec_l18Round.l0 k2 l0 (x1_1.set (a2 : Int).toNat ((rd_L6 x1_1 a2).set (x9_1 : Int).toNat false)) a2 false t254 (wrap64 (x9_1 + 1)))) = some (r1, r2) := by rw [← hbq75] at H; exact H
               have Nbq75 := Aside0.mk hbq75
               clear hbq75
               by_cases c76 : bq75 = true
               ·subst c76
                rw [if_pos rfl] at H
                obtain ⟨y293, hy293⟩ : ∃ y_ : List Bool, y_ = ((rd_L6 x1_1 a2).set (x9_1 : Int).toNat true) := ⟨_, rfl⟩
                replace H : (spec_l18Round.l0 k2 l0 (x1_1.set (a2 : Int).toNat y293) a2 false t254 (wrap64 (x9_1 + 1))) = some (r1, r2) := by rw [hy293]; exact H
                have Ny293 := Aside0.mk hy293
                clear hy293
                obtain ⟨y295, hy295⟩ : ∃ y_ : List (List Bool), y_ = (x1_1.set (a2 : Int).toNat y293) := ⟨_, rfl⟩
                replace H : (spec_l18Round.l0 k2 l0 y295 a2 false t254 (wrap64 (x9_1 + 1))) = some (r1, r2) := by rw [hy295]; exact H
                have Ny295 := Aside0.mk hy295
                clear hy295
                have H' := Aside0.mk H
                clear H
                obtain ⟨Ao78, co78, eo78⟩ := Kd.R_slice HO_8.out
                subst eo78
                try go_wp2
                have n0_ := Aside0.mk (Kd.S_drew HO_1.out)
                have n1_ := Aside0.mk (Kd.R_drew HO_8.out)
                have n2_ := Aside0.mk (Kept.drew HK.out)
                have n3_ := Aside0.mk (below_drew1 HB.out)
                clear HO_1
                clear HO_8
                clear HK
                clear HB
                have HO_1 := n0_
                have HO_8 := n1_
                have HK := n2_
                have HB := n3_
                clear n0_ n1_ n2_ n3_
                obtain ⟨Ao80, co80, eo80⟩ := Kd.S_slice HO_1.out
                (first | subst eo80 | (injection eo80 with f1_ f2_ f3_; have f4_ := f1_.symm; have f5_ := f3_.symm; clear f1_ f2_ f3_; subst f4_; subst f5_))
                have p290 : 0 ≤ (a2 : Int) := of_decide_eq_true atgA_
                have q290 : a2 < (x1_1.length : Int) := of_decide_eq_true atgA_
                obtain ⟨ad290, A290_0, c290_0, e290, hx290_0, HC290_0, HR290_0, HL290_0⟩ := rowS_ HO_1.out (rd_L6 x1_1 a2) a2 rfl p290 att10_1_3
                cases e290
                have HX290_0 := Aside0.mk hx290_0
                replace p290 := eq_true p290
                replace q290 := eq_true q290
                have p291 : 0 ≤ (a2 : Int) := of_decide_eq_true atgA_
                have q291 : a2 < (x1_1.length : Int) := of_decide_eq_true atgA_
                obtain ⟨ad291, A291_0, c291_0, e291, hx291_0, HC291_0, HR291_0, HL291_0⟩ := rowS_ HO_1.out (rd_L6 x1_1 a2) a2 rfl p291 att10_1_2
                obtain rfl : ad290 = ad291 := (by injection e291)
                have HX291_0 := Aside0.mk hx291_0
                replace p291 := eq_true p291
                replace q291 := eq_true q291
                have ea_ := Option.some.inj (hx290_0.symm.trans hx291_0)
                injection ea_ with ea_ en_ ec_
                subst ea_
                subst ec_
                clear en_
                have p292 : 0 ≤ (x9_1 : Int) := of_decide_eq_true atgA_
                have q292 : x9_1 < ((rd_L6 x1_1 a2).length : Int) := of_decide_eq_true atgA_
                obtain ⟨ad292, e292, hx292_0⟩ := Kd.at_bool att10_0_10 x9_1 p292 q292
                (try rw [← Nbq75.out] at hx292_0)
                cases e292
                replace p292 := eq_true p292
                replace q292 := eq_true q292
                have p77 : 0 ≤ (x9_1 : Int) := of_decide_eq_true atgA_
                have q77 : (x9_1 : Int) < (((rd_L6 x1_1 a2).length : Int) : Int) := of_decide_eq_true atgA_
                obtain ⟨go77, co77, eo77, gb77, gl77, cl77, HG77⟩ := Kd.R_form HL290_0.out (by omega)
                (first | cases eo77 | (injection eo77 with ea_ en_ ec_; (first | subst ea_ | (injection ea_ with ea_; subst ea_)); subst ec_; clear en_))
                have GB77 := Aside0.mk gb77
                have GG77 := Aside0.mk HG77
                clear gb77 gl77 HG77
                have HMgo77 := Aside0.mk (show (P1_ go77 ∨ w.heap.size ≤ go77) from (HL290_0.out.1 _ rfl).1)
                (first | simp only [add_plain] at hx292_0 | skip)
                obtain ⟨hx77_0, hf77_0⟩ := Kd.R_celln false HL290_0.out (x9_1 : Int) p77 q77
                replace p77 := eq_true p77
                replace q77 := eq_true q77
                have hq81 : (a2 : Int) < (x1_1.length : Int) := att10_1_0
                obtain ⟨oki81, ce81, hcl81, hM81, hcc81, hok81, hbk81⟩ := Kd.S_borrow HO_1.out [] (a2 : Int) (of_decide_eq_true atgA_) hq81
                obtain ⟨ve81_0, rfl, ge81_0⟩ := hM81
                have hv81 := hcc81 0 _ rfl
                rw [Nat.add_zero, show ((Kd.slice 4 Kd.bool)).sz = 1 from rfl, Nat.mul_one] at hv81
                replace hv81 := Option.some.inj (hv81.symm.trans HX290_0.out)
                subst hv81
                clear hcc81 hcl81
                replace ge81_0 := (show Kd.R Kd.bool 4 _ _ _ _ (rd_L6 x1_1 a2) from ge81_0)
                have HP81 := Kd.R_putg ge81_0 (x9_1 : Int) true
                rw [← Ny293.out] at HP81
                have HS81 := hbk81 HP81.2 (fun k_ e_ => by injection e_ with e_; subst e_; exact ge81_0.1 _ rfl) (x' := y293) (Kd.M_row HP81.1)
                rw [← Ny295.out] at HS81
                have HQ81 := Aside0.mk HS81
                clear HP81 HS81 hbk81 hok81
                refine start_ (n := 17) (S := fun w' => w'.cell? (ad290.add (a2).toNat) = some (.slice (some ⟨go77, 0, none⟩) (rd_L6 x1_1 a2).length c290_0) ∧ w'.cell? (ad290.add (a2).toNat) = some (.slice (some ⟨go77, 0, none⟩) (rd_L6 x1_1 a2).length c290_0) ∧ w'.cell? ⟨go77, (x9_1).toNat, none⟩ = some (.bool true)) (ds := [16]) (tf_ 0 17) (by kernel_rfl) rfl rfl ⟨hx290_0, hx291_0, hx292_0⟩ (fun hHeld => ?_); refine with_tabW spec_l18Round.tab12 spec_l18Round.bits12 (fun HT_ HW_ => ?_)
                generalize wr.drew = w79 at HO_1 HO_8 HK HB GG77 HL290_0 HL291_0 HQ81 HR290_0 HR291_0 HX290_0 HX291_0 hf77_0 hx290_0 hx291_0 hx292_0 hx77_0 hHeld ⊢
                refine pureQ_ (i := 0) (N := some 69) (tf_ 1 16) (h := ?_)
                refine pureQ_ (i := 1) (N := some 70) (tf_ 2 15) (h := ?_)
                refine pureQ_ (i := 2) (N := some 71) (tf_ 3 14) (h := ?_)
                refine pureQ_ (i := 4) (N := some 73) #[true, true, true, false, true, false, false, false, false, false, false, false, false, false, false, false, false] (h := ?_)
                refine pureQ_ (i := 5) (N := some 74) #[true, true, true, false, true, true, false, false, false, false, false, false, false, false, false, false, false] (h := ?_)
                refine pureQ_ (i := 6) (N := some 75) #[true, true, true, false, true, true, true, false, false, false, false, false, false, false, false, false, false] (h := ?_)
                refine pureQ_ (i := 7) (N := some 76) #[true, true, true, false, true, true, true, true, false, false, false, false, false, false, false, false, false] (h := ?_)
                refine pureQ_ (i := 9) (N := some 78) #[true, true, true, false, true, true, true, true, false, true, false, false, false, false, false, false, false] (h := ?_)
                refine takeQ_ (i := 3) (N := some 72) #[true, true, true, true, true, true, true, true, false, true, false, false, false, false, false, false, false] hHeld (hy := Or.inl ⟨by rfl, att10_0_4⟩) (h := ?_)
                refine takeQ_ (i := 8) (N := some 77) (tf_ 10 7) hHeld (hy := Or.inl ⟨by rfl, att10_0_4⟩) (h := ?_)
                refine pureQ_ (i := 10) (N := some 79) (tf_ 11 6) (h := ?_)
                refine takeQ_ (i := 11) (N := some 80) (tf_ 12 5) hHeld (hy := Or.inl ⟨by rfl, att10_0_4⟩) (h := ?_)
                refine pureQ_ (i := 12) (N := some 81) (tf_ 13 4) (h := ?_)
                refine offQ_ (i := 13) (N := some 82) (tf_ 14 3) (h := ?_)
                refine pureQ_ (i := 14) (N := some 83) (tf_ 15 2) (h := ?_)
                refine pureQ_ (i := 15) (N := some 84) (tf_ 16 1) (h := ?_)
                refine last_ (i := 16) (N := none) (tf_ 17 0) rfl rfl (one_of HT_.out (by kernel_rfl)) (by decide) (fun K hK => ?_)
                refine skip_ (w1 := ?_) (by rfl) rfl ?_ ?_
                rotate_left
                ·go_simp
                 rfl
                refine hK.out _ _ ?_
                clear hK K
                refine done_ (done_of HT_.out (by kernel_rfl)) ?_
                try go_wp2
                go_roundg k2
                case measure => have := HK1.out; have := HK2.out; omega
                case rel => exact ⟨(y295), (false), (wrap64 (x9_1 + 1)), atgR_, atgR_, H', ⟨att10_0_8⟩, ⟨by exact toS_ (HQ81.out)⟩, ⟨by exact toR_ (Kd.R_mono (Kd.R_far (p := ⟨go77, (x9_1 : Int).toNat, none⟩) (Kd.R_types HO_8.out GG77.out (by decide)) (fun _ hk => hk.2) (.bool true)) (fun _ hk => hk.1))⟩, ⟨by repeat (first | (with_reducible first | exact HK.out | apply Kept.alloc | apply Kept.drewN | apply Kept.drew | refine Kept.setCell ?_ HMgo77.out _) | exact HK.out)⟩, ⟨by repeat (first | (with_reducible first | exact HB.out | apply below_alloc | apply pw_below_drewN | apply below_drew1 | refine below_set ?_ GB77.out) | exact HB.out)⟩⟩
               ·replace c76 := Bool.eq_false_iff.mpr c76
                subst c76
                rw [if_neg (show ¬ (false = true) by decide)] at H
                obtain ⟨y296, hy296⟩ : ∃ y_ : List Bool, y_ = ((rd_L6 x1_1 a2).set (x9_1 : Int).toNat false) := ⟨_, rfl⟩
                replace H : (spec_l18Round.l0 k2 l0 (x1_1.set (a2 : Int).toNat y296) a2 false t254 (wrap64 (x9_1 + 1))) = some (r1, r2) := by rw [hy296]; exact H
                have Ny296 := Aside0.mk hy296
                clear hy296
                obtain ⟨y298, hy298⟩ : ∃ y_ : List (List Bool), y_ = (x1_1.set (a2 : Int).toNat y296) := ⟨_, rfl⟩
                replace H : (spec_l18Round.l0 k2 l0 y298 a2 false t254 (wrap64 (x9_1 + 1))) = some (r1, r2) := by rw [hy298]; exact H
                have Ny298 := Aside0.mk hy298
                clear hy298
                have H' := Aside0.mk H
                clear H
                obtain ⟨Ao84, co84, eo84⟩ := Kd.R_slice HO_8.out
                subst eo84
                try go_wp2
                have n0_ := Aside0.mk (Kd.S_drew HO_1.out)
                have n1_ := Aside0.mk (Kd.R_drew HO_8.out)
                have n2_ := Aside0.mk (Kept.drew HK.out)
                have n3_ := Aside0.mk (below_drew1 HB.out)
                clear HO_1
                clear HO_8
                clear HK
                clear HB
                have HO_1 := n0_
                have HO_8 := n1_
                have HK := n2_
                have HB := n3_
                clear n0_ n1_ n2_ n3_
                obtain ⟨Ao86, co86, eo86⟩ := Kd.S_slice HO_1.out
                (first | subst eo86 | (injection eo86 with f1_ f2_ f3_; have f4_ := f1_.symm; have f5_ := f3_.symm; clear f1_ f2_ f3_; subst f4_; subst f5_))
                have p290 : 0 ≤ (a2 : Int) := of_decide_eq_true atgA_
                have q290 : a2 < (x1_1.length : Int) := of_decide_eq_true atgA_
                obtain ⟨ad290, A290_0, c290_0, e290, hx290_0, HC290_0, HR290_0, HL290_0⟩ := rowS_ HO_1.out (rd_L6 x1_1 a2) a2 rfl p290 att10_1_3
                cases e290
                have HX290_0 := Aside0.mk hx290_0
                replace p290 := eq_true p290
                replace q290 := eq_true q290
                have p291 : 0 ≤ (a2 : Int) := of_decide_eq_true atgA_
                have q291 : a2 < (x1_1.length : Int) := of_decide_eq_true atgA_
                obtain ⟨ad291, A291_0, c291_0, e291, hx291_0, HC291_0, HR291_0, HL291_0⟩ := rowS_ HO_1.out (rd_L6 x1_1 a2) a2 rfl p291 att10_1_2
                obtain rfl : ad290 = ad291 := (by injection e291)
                have HX291_0 := Aside0.mk hx291_0
                replace p291 := eq_true p291
                replace q291 := eq_true q291
                have ea_ := Option.some.inj (hx290_0.symm.trans hx291_0)
                injection ea_ with ea_ en_ ec_
                subst ea_
                subst ec_
                clear en_
                have p292 : 0 ≤ (x9_1 : Int) := of_decide_eq_true atgA_
                have q292 : x9_1 < ((rd_L6 x1_1 a2).length : Int) := of_decide_eq_true atgA_
                obtain ⟨ad292, e292, hx292_0⟩ := Kd.at_bool att10_0_10 x9_1 p292 q292
                (try rw [← Nbq75.out] at hx292_0)
                cases e292
                replace p292 := eq_true p292
                replace q292 := eq_true q292
                have p83 : 0 ≤ (x9_1 : Int) := of_decide_eq_true atgA_
                have q83 : (x9_1 : Int) < (((rd_L6 x1_1 a2).length : Int) : Int) := of_decide_eq_true atgA_
                obtain ⟨go83, co83, eo83, gb83, gl83, cl83, HG83⟩ := Kd.R_form HL290_0.out (by omega)
                (first | cases eo83 | (injection eo83 with ea_ en_ ec_; (first | subst ea_ | (injection ea_ with ea_; subst ea_)); subst ec_; clear en_))
                have GB83 := Aside0.mk gb83
                have GG83 := Aside0.mk HG83
                clear gb83 gl83 HG83
                have HMgo83 := Aside0.mk (show (P1_ go83 ∨ w.heap.size ≤ go83) from (HL290_0.out.1 _ rfl).1)
                (first | simp only [add_plain] at hx292_0 | skip)
                obtain ⟨hx83_0, hf83_0⟩ := Kd.R_celln false HL290_0.out (x9_1 : Int) p83 q83
                replace p83 := eq_true p83
                replace q83 := eq_true q83
                have hq87 : (a2 : Int) < (x1_1.length : Int) := att10_1_0
                obtain ⟨oki87, ce87, hcl87, hM87, hcc87, hok87, hbk87⟩ := Kd.S_borrow HO_1.out [] (a2 : Int) (of_decide_eq_true atgA_) hq87
                obtain ⟨ve87_0, rfl, ge87_0⟩ := hM87
                have hv87 := hcc87 0 _ rfl
                rw [Nat.add_zero, show ((Kd.slice 4 Kd.bool)).sz = 1 from rfl, Nat.mul_one] at hv87
                replace hv87 := Option.some.inj (hv87.symm.trans HX290_0.out)
                subst hv87
                clear hcc87 hcl87
                replace ge87_0 := (show Kd.R Kd.bool 4 _ _ _ _ (rd_L6 x1_1 a2) from ge87_0)
                have HP87 := Kd.R_putg ge87_0 (x9_1 : Int) false
                rw [← Ny296.out] at HP87
                have HS87 := hbk87 HP87.2 (fun k_ e_ => by injection e_ with e_; subst e_; exact ge87_0.1 _ rfl) (x' := y296) (Kd.M_row HP87.1)
                rw [← Ny298.out] at HS87
                have HQ87 := Aside0.mk HS87
                clear HP87 HS87 hbk87 hok87
                refine start_ (n := 17) (S := fun w' => w'.cell? (ad290.add (a2).toNat) = some (.slice (some ⟨go83, 0, none⟩) (rd_L6 x1_1 a2).length c290_0) ∧ w'.cell? (ad290.add (a2).toNat) = some (.slice (some ⟨go83, 0, none⟩) (rd_L6 x1_1 a2).length c290_0) ∧ w'.cell? ⟨go83, (x9_1).toNat, none⟩ = some (.bool false)) (ds := [16]) (tf_ 0 17) (by kernel_rfl) rfl rfl ⟨hx290_0, hx291_0, hx292_0⟩ (fun hHeld => ?_); refine with_tabW spec_l18Round.tab12 spec_l18Round.bits12 (fun HT_ HW_ => ?_)
                generalize wr.drew = w85 at HO_1 HO_8 HK HB GG83 HL290_0 HL291_0 HQ87 HR290_0 HR291_0 HX290_0 HX291_0 hf83_0 hx290_0 hx291_0 hx292_0 hx83_0 hHeld ⊢
                refine pureQ_ (i := 0) (N := some 69) (tf_ 1 16) (h := ?_)
                refine pureQ_ (i := 1) (N := some 70) (tf_ 2 15) (h := ?_)
                refine pureQ_ (i := 2) (N := some 71) (tf_ 3 14) (h := ?_)
                refine pureQ_ (i := 4) (N := some 73) #[true, true, true, false, true, false, false, false, false, false, false, false, false, false, false, false, false] (h := ?_)
                refine pureQ_ (i := 5) (N := some 74) #[true, true, true, false, true, true, false, false, false, false, false, false, false, false, false, false, false] (h := ?_)
                refine pureQ_ (i := 6) (N := some 75) #[true, true, true, false, true, true, true, false, false, false, false, false, false, false, false, false, false] (h := ?_)
                refine pureQ_ (i := 7) (N := some 76) #[true, true, true, false, true, true, true, true, false, false, false, false, false, false, false, false, false] (h := ?_)
                refine pureQ_ (i := 9) (N := some 78) #[true, true, true, false, true, true, true, true, false, true, false, false, false, false, false, false, false] (h := ?_)
                refine takeQ_ (i := 3) (N := some 72) #[true, true, true, true, true, true, true, true, false, true, false, false, false, false, false, false, false] hHeld (hy := Or.inl ⟨by rfl, att10_0_4⟩) (h := ?_)
                refine takeQ_ (i := 8) (N := some 77) (tf_ 10 7) hHeld (hy := Or.inl ⟨by rfl, att10_0_4⟩) (h := ?_)
                refine pureQ_ (i := 10) (N := some 79) (tf_ 11 6) (h := ?_)
                refine takeQ_ (i := 11) (N := some 80) (tf_ 12 5) hHeld (hy := Or.inl ⟨by rfl, att10_0_4⟩) (h := ?_)
                refine pureQ_ (i := 12) (N := some 81) (tf_ 13 4) (h := ?_)
                refine pureQ_ (i := 13) (N := some 82) (tf_ 14 3) (h := ?_)
                refine pureQ_ (i := 14) (N := some 83) (tf_ 15 2) (h := ?_)
                refine pureQ_ (i := 15) (N := some 84) (tf_ 16 1) (h := ?_)
                refine last_ (i := 16) (N := none) (tf_ 17 0) rfl rfl (one_of HT_.out (by kernel_rfl)) (by decide) (fun K hK => ?_)
                refine skip_ (w1 := ?_) (by rfl) rfl ?_ ?_
                rotate_left
                ·go_simp
                 rfl
                refine hK.out _ _ ?_
                clear hK K
                refine done_ (done_of HT_.out (by kernel_rfl)) ?_
                try go_wp2
                go_roundg k2
                case measure => have := HK1.out; have := HK2.out; omega
                case rel => exact ⟨(y298), (false), (wrap64 (x9_1 + 1)), atgR_, atgR_, H', ⟨att10_0_8⟩, ⟨by exact toS_ (HQ87.out)⟩, ⟨by exact toR_ (Kd.R_mono (Kd.R_far (p := ⟨go83, (x9_1 : Int).toNat, none⟩) (Kd.R_types HO_8.out GG83.out (by decide)) (fun _ hk => hk.2) (.bool false)) (fun _ hk => hk.1))⟩, ⟨by repeat (first | (with_reducible first | exact HK.out | apply Kept.alloc | apply Kept.drewN | apply Kept.drew | refine Kept.setCell ?_ HMgo83.out _) | exact HK.out)⟩, ⟨by repeat (first | (with_reducible first | exact HB.out | apply below_alloc | apply pw_below_drewN | apply below_drew1 | refine below_set ?_ GB83.out) | exact HB.out)⟩⟩
              ·rw [if_neg c74] at H
               exact absurd H (by simp)
             ·rw [if_neg c73] at H
              exact absurd H (by simp)
            ·rw [if_neg c72] at H
             exact absurd H (by simp)
           ·rw [if_neg c71] at H
            exact absurd H (by simp)
     ·rw [if_neg c8] at H
      exact absurd H (by simp)
    ·rw [if_neg c7] at H
     exact absurd H (by simp)
   ·rw [if_neg c6] at H
    have c6b0 := decide_eq_false c6
    clear c6
    simp only [Option.some.injEq, Prod.mk.injEq] at H
    obtain ⟨rfl, rfl⟩ := H
    go_wp2
    go_ret
    exact ⟨retT_, by exact toS_ (HO_1.out), by repeat (first | (with_reducible first | exact HB.out | apply below_alloc | apply pw_below_drewN | apply below_drew1) | exact HB.out), att10_0_2⟩

end Go.Proofs.Ytocimkpafakiaaa.XFnExactTrimProg
