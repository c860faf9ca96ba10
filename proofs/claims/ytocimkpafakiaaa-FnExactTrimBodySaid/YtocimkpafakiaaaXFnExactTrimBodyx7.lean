/- Each Go function that the law reaches as a Lean function, and that Go comes to just its answer; written by this session's xprint.py over the kit's printer. -/
import Derived.Test.YtocimkpafakiaaaXFnExactTrimBodyx0
import Derived.Test.YtocimkpafakiaaaXFnExactTrimBodyx5
import Derived.Test.YtocimkpafakiaaaXFnExactTrimBodyx6
namespace Go.Proofs.Ytocimkpafakiaaa.XFnExactTrimBody
open Go.RowKit Go.Proofs.YtocimkpafakiaaaW.PrintWords Go.Proofs.YtocimkpafakiaaaW.PrintLast Go.Proofs.YtocimkpafakiaaaW.PrintMore
attribute [local go_sem] max2_int min2_int max_two min_two max_three min_three max_four min_four   -- for this text's walks alone
set_option linter.unusedVariables false
set_option linter.unusedSimpArgs false

theorem att8_0_0 {p : Prop} (h : p := by first | (with_reducible assumption) | assumption) : p := h
theorem att8_0_1 {p : Prop} (h : p := by repeat (first | (with_reducible first | exact HB.out | apply below_alloc | apply pw_below_drewN | apply below_drew1) | exact HB.out)) : p := h
theorem att8_0_2 {p : Prop} (h : p := by repeat (first | (with_reducible first | exact HK.out | apply Kept.alloc | apply Kept.drewN | apply Kept.drew) | exact HK.out)) : p := h
theorem att8_0_3 {p : Prop} (h : p := by first | rfl | (simp; done) | (simp [*]; done)) : p := h
theorem att8_0_4 {p : Prop} (h : p := by rintro w' ⟨s0, s1, s2⟩; go_simp; with_reducible rfl) : p := h
theorem att8_0_5 {p : Prop} (h : p := by (with_reducible repeat (first | apply Kd.S_alloc | apply Kd.S_drewN | apply Kd.S_drew)); exact HO_1.out) : p := h
theorem att8_0_6 {p : Prop} (h : p := by (with_reducible repeat (first | apply Kd.R_alloc | apply Kd.R_drewN | apply Kd.R_drew)); exact HO_8.out) : p := h
theorem att8_0_7 {p : Prop} (h : p := by repeat (first | (with_reducible exact HR216_0.out) | (with_reducible refine Kd.C_alloc ?_ _) | (with_reducible refine Kd.C_drewN ?_ _) | (with_reducible refine Kd.C_drew ?_) | exact HR216_0.out)) : p := h
theorem att8_0_8 {p : Prop} (h : p := by have := HK1.out; have := HK2.out; omega) : p := h
theorem att8_0_9 {p : Prop} (h : p := by (try simp only [List.map_toArray, List.map_cons, List.map_nil]); first | done | rfl | (simp only [List.length_drop, List.length_take]; rfl)) : p := h
theorem att8_0_10 {p : Prop} (h : p := by repeat (first | (with_reducible exact HR244_0.out) | (with_reducible refine Kd.C_alloc ?_ _) | (with_reducible refine Kd.C_drewN ?_ _) | (with_reducible refine Kd.C_drew ?_) | exact HR244_0.out)) : p := h
theorem att8_0_11 {p : Prop} (h : p := by repeat (first | (with_reducible exact HR235_0.out) | (with_reducible refine Kd.C_alloc ?_ _) | (with_reducible refine Kd.C_drewN ?_ _) | (with_reducible refine Kd.C_drew ?_) | exact HR235_0.out)) : p := h
theorem att8_0_12 {p : Prop} (h : p := by repeat (first | (with_reducible exact HR232_0.out) | (with_reducible refine Kd.C_alloc ?_ _) | (with_reducible refine Kd.C_drewN ?_ _) | (with_reducible refine Kd.C_drew ?_) | exact HR232_0.out)) : p := h
theorem att8_0_13 {p : Prop} (h : p := by repeat (first | (with_reducible exact HR224_0.out) | (with_reducible refine Kd.C_alloc ?_ _) | (with_reducible refine Kd.C_drewN ?_ _) | (with_reducible refine Kd.C_drew ?_) | exact HR224_0.out)) : p := h
theorem att8_0_14 {p : Prop} (h : p := by (with_reducible repeat (first | apply Kd.R_alloc | apply Kd.R_drewN | apply Kd.R_drew)); exact Kd.R_mono HO_8.out (fun _ hk => hk.1)) : p := h
theorem att8_0_15 {p : Prop} (h : p := by (with_reducible repeat (first | apply Kd.S_alloc | apply Kd.S_drewN | apply Kd.S_drew)); exact HO1.out) : p := h
theorem att8_1_0 {p : Prop} (h : p := by have h_ : (a2 : Int) < ((x1_1.length : Int) : Int) := of_decide_eq_true att8_0_0; first | exact h_ | (have e_ := (Kd.S_reads' HO_1.out).1; omega) | simpa only [List.length_set, List.length_set] using h_) : p := h
theorem att8_1_1 {p : Prop} (h : p := by first | exact HK.out.1 | exact (show Kept w _ (fun k_ => P1_ k_) from by repeat (first | (with_reducible first | exact HK.out | apply Kept.alloc | apply Kept.drewN | apply Kept.drew) | exact HK.out)).1) : p := h
theorem att8_1_2 {p : Prop} (h : p := by first | exact q244 | exact of_decide_eq_true att8_0_0 | (have e_ := (Kd.S_reads' HO_1.out).1; omega)) : p := h
theorem att8_1_3 {p : Prop} (h : p := by first | exact q243 | exact of_decide_eq_true att8_0_0 | (have e_ := (Kd.S_reads' HO_1.out).1; omega)) : p := h
theorem att8_1_4 {p : Prop} (h : p := by first | exact q235 | exact of_decide_eq_true att8_0_0 | (have e_ := (Kd.S_reads' HO_1.out).1; omega)) : p := h
theorem att8_1_5 {p : Prop} (h : p := by first | exact q234 | exact of_decide_eq_true att8_0_0 | (have e_ := (Kd.S_reads' HO_1.out).1; omega)) : p := h
theorem att8_1_6 {p : Prop} (h : p := by first | exact q232 | exact of_decide_eq_true att8_0_0 | (have e_ := (Kd.S_reads' HO_1.out).1; omega)) : p := h
theorem att8_1_7 {p : Prop} (h : p := by first | exact q224 | exact of_decide_eq_true att8_0_0 | (have e_ := (Kd.S_reads' HO_1.out).1; omega)) : p := h
theorem att8_1_8 {p : Prop} (h : p := by first | exact q223 | exact of_decide_eq_true att8_0_0 | (have e_ := (Kd.S_reads' HO_1.out).1; omega)) : p := h
theorem att8_1_9 {p : Prop} (h : p := by first | exact q216 | exact of_decide_eq_true att8_0_0 | (have e_ := (Kd.S_reads' HO_1.out).1; omega)) : p := h
/-! ### spec_l18Round: function 81 -/
mutual
def spec_l18Round.l0 : Nat → List (S63) → List (List Bool) → Int → Bool → List Int → Int → Option (Bool × (List (List Bool)))
 | 0, _, _, _, _, _, _ => none
 | k + 1, x0, x1, x2, x7, x8, x9 => if x9 < 4 then (if 0 ≤ x2 then (if x2 < (x0.length : Int) then ((spec_Reads.f k ((rd_T63 x0 x2).f0) ((rd_T63 x0 x2).f1) ((rd_T63 x0 x2).f2) ((rd_T63 x0 x2).f3) ((rd_T63 x0 x2).f4)).bind fun t211 => ((spec_l18In.f k t211 x9).bind fun t214 => (spec_l18Round.l1 k x0 x1 x2 x7 x8 x9 t214 0))) else (none)) else (none)) else (some (x7, x1))
def spec_l18Round.l1 : Nat → List (S63) → List (List Bool) → Int → Bool → List Int → Int → Bool → Int → Option (Bool × (List (List Bool)))
 | 0, _, _, _, _, _, _, _, _ => none
 | k + 1, x0, x1, x2, x7, x8, x9, x10, x11 => if x11 < (x8.length : Int) then (if x10 = true then (spec_l18Round.l1 k x0 x1 x2 x7 x8 x9 true (wrap64 (x11 + 1))) else (if 0 ≤ x11 then (if 0 ≤ (rd x8 x11) then (if (rd x8 x11) < (x1.length : Int) then (if 0 ≤ x9 then (if x9 < ((rd_L4 x1 (rd x8 x11)).length : Int) then (if rdOf false (rd_L4 x1 (rd x8 x11)) x9 = true then (if 0 ≤ x2 then (if x2 < (x0.length : Int) then ((spec_Sets.f k ((rd_T63 x0 x2).f0) ((rd_T63 x0 x2).f1) ((rd_T63 x0 x2).f2) ((rd_T63 x0 x2).f3) ((rd_T63 x0 x2).f4)).bind fun t219 => ((spec_l18In.f k t219 x9).bind fun t222 => (spec_l18Round.l1 k x0 x1 x2 x7 x8 x9 (!t222) (wrap64 (x11 + 1))))) else (none)) else (none)) else (spec_l18Round.l1 k x0 x1 x2 x7 x8 x9 false (wrap64 (x11 + 1)))) else (none)) else (none)) else (none)) else (none)) else (none))) else (if x7 = true then (if 0 ≤ x2 then (if x2 < (x1.length : Int) then (if 0 ≤ x9 then (if x9 < ((rd_L4 x1 x2).length : Int) then (if rdOf false (rd_L4 x1 x2) x9 = true then (spec_l18Round.l0 k x0 (x1.set (x2 : Int).toNat ((rd_L4 x1 x2).set (x9 : Int).toNat true)) x2 true x8 (wrap64 (x9 + 1))) else (spec_l18Round.l0 k x0 (x1.set (x2 : Int).toNat ((rd_L4 x1 x2).set (x9 : Int).toNat x10)) x2 true x8 (wrap64 (x9 + 1)))) else (none)) else (none)) else (none)) else (none)) else (if x10 = true then (if 0 ≤ x2 then (if x2 < (x1.length : Int) then (if 0 ≤ x9 then (if x9 < ((rd_L4 x1 x2).length : Int) then (if rdOf false (rd_L4 x1 x2) x9 = true then (spec_l18Round.l0 k x0 (x1.set (x2 : Int).toNat ((rd_L4 x1 x2).set (x9 : Int).toNat true)) x2 (!(rdOf false (rd_L4 x1 x2) x9)) x8 (wrap64 (x9 + 1))) else (spec_l18Round.l0 k x0 (x1.set (x2 : Int).toNat ((rd_L4 x1 x2).set (x9 : Int).toNat x10)) x2 (!(rdOf false (rd_L4 x1 x2) x9)) x8 (wrap64 (x9 + 1)))) else (none)) else (none)) else (none)) else (none)) else (if 0 ≤ x2 then (if x2 < (x1.length : Int) then (if 0 ≤ x9 then (if x9 < ((rd_L4 x1 x2).length : Int) then (if rdOf false (rd_L4 x1 x2) x9 = true then (spec_l18Round.l0 k x0 (x1.set (x2 : Int).toNat ((rd_L4 x1 x2).set (x9 : Int).toNat true)) x2 false x8 (wrap64 (x9 + 1))) else (spec_l18Round.l0 k x0 (x1.set (x2 : Int).toNat ((rd_L4 x1 x2).set (x9 : Int).toNat x10)) x2 false x8 (wrap64 (x9 + 1)))) else (none)) else (none)) else (none)) else (none))))
end
def spec_l18Round.f (k : Nat) (l0 : List (S63)) (l1 : List (List Bool)) (a2 : Int) : Option (Bool × (List (List Bool))) := (spec_NextOf.f k l0 a2).bind fun t207 => (spec_l18Round.l0 k l0 l1 a2 false t207 0)
theorem spec_l18Round.mono_l : ∀ k, (∀ y0 y1 y2 y3 y4 y5, LeO (spec_l18Round.l0 k y0 y1 y2 y3 y4 y5) (spec_l18Round.l0 (k + 1) y0 y1 y2 y3 y4 y5)) ∧ (∀ y0 y1 y2 y3 y4 y5 y6 y7, LeO (spec_l18Round.l1 k y0 y1 y2 y3 y4 y5 y6 y7) (spec_l18Round.l1 (k + 1) y0 y1 y2 y3 y4 y5 y6 y7))
 | 0 => ⟨fun _ _ _ _ _ _ r h => by simp [spec_l18Round.l0] at h, fun _ _ _ _ _ _ _ _ r h => by simp [spec_l18Round.l1] at h⟩
 | k + 1 => by
  obtain ⟨ih0, ih1⟩ := spec_l18Round.mono_l k
  refine ⟨?_, ?_⟩
  ·intro y0 y1 y2 y3 y4 y5
   unfold spec_l18Round.l0
   repeat' first
   | (with_reducible exact ih0 _ _ _ _ _ _)
   | (with_reducible exact ih1 _ _ _ _ _ _ _ _)
   | (with_reducible exact spec_NextOf.mono _ _ _)
   | (with_reducible exact spec_Reads.mono _ _ _ _ _ _)
   | (with_reducible exact spec_Sets.mono _ _ _ _ _ _)
   | (with_reducible exact spec_l18In.mono _ _ _)
   | (with_reducible exact LeO.refl _)
   | (with_reducible exact LeO.none _)
   | (with_reducible refine LeO.ite ?_ ?_)
   | (with_reducible refine LeO.bind ?_ (fun _ => ?_))
   | exact ih0 _ _ _ _ _ _
   | exact ih1 _ _ _ _ _ _ _ _
   | exact spec_NextOf.mono _ _ _
   | exact spec_Reads.mono _ _ _ _ _ _
   | exact spec_Sets.mono _ _ _ _ _ _
   | exact spec_l18In.mono _ _ _
   | exact LeO.none _
   | refine LeO.ite ?_ ?_
   | refine LeO.bind ?_ (fun _ => ?_)
  ·intro y0 y1 y2 y3 y4 y5 y6 y7
   unfold spec_l18Round.l1
   repeat' first
   | (with_reducible exact ih0 _ _ _ _ _ _)
   | (with_reducible exact ih1 _ _ _ _ _ _ _ _)
   | (with_reducible exact spec_NextOf.mono _ _ _)
   | (with_reducible exact spec_Reads.mono _ _ _ _ _ _)
   | (with_reducible exact spec_Sets.mono _ _ _ _ _ _)
   | (with_reducible exact spec_l18In.mono _ _ _)
   | (with_reducible exact LeO.refl _)
   | (with_reducible exact LeO.none _)
   | (with_reducible refine LeO.ite ?_ ?_)
   | (with_reducible refine LeO.bind ?_ (fun _ => ?_))
   | exact ih0 _ _ _ _ _ _
   | exact ih1 _ _ _ _ _ _ _ _
   | exact spec_NextOf.mono _ _ _
   | exact spec_Reads.mono _ _ _ _ _ _
   | exact spec_Sets.mono _ _ _ _ _ _
   | exact spec_l18In.mono _ _ _
   | exact LeO.none _
   | refine LeO.ite ?_ ?_
   | refine LeO.bind ?_ (fun _ => ?_)
theorem spec_l18Round.mono : ∀ a0 a1 a2 k, LeO (spec_l18Round.f k a0 a1 a2) (spec_l18Round.f (k + 1) a0 a1 a2) := by
 intro a0 a1 a2 k
 obtain ⟨ih0, ih1⟩ := spec_l18Round.mono_l k
 unfold spec_l18Round.f
 repeat' first
   | (with_reducible exact ih0 _ _ _ _ _ _)
   | (with_reducible exact ih1 _ _ _ _ _ _ _ _)
   | (with_reducible exact spec_NextOf.mono _ _ _)
   | (with_reducible exact spec_Reads.mono _ _ _ _ _ _)
   | (with_reducible exact spec_Sets.mono _ _ _ _ _ _)
   | (with_reducible exact spec_l18In.mono _ _ _)
   | (with_reducible exact LeO.refl _)
   | (with_reducible exact LeO.none _)
   | (with_reducible refine LeO.ite ?_ ?_)
   | (with_reducible refine LeO.bind ?_ (fun _ => ?_))
   | exact ih0 _ _ _ _ _ _
   | exact ih1 _ _ _ _ _ _ _ _
   | exact spec_NextOf.mono _ _ _
   | exact spec_Reads.mono _ _ _ _ _ _
   | exact spec_Sets.mono _ _ _ _ _ _
   | exact spec_l18In.mono _ _ _
   | exact LeO.none _
   | refine LeO.ite ?_ ?_
   | refine LeO.bind ?_ (fun _ => ?_)
def spec_l18Round.T12 : Bool × List (List Nat × List Nat) := (true, [([], []), ([], []), ([0, 1], [0, 1]), ([2], [2]), ([], []), ([], []), ([], []), ([5, 6], [5, 6]), ([7], [7]), ([], []), ([8, 9], [8, 9]), ([10], [10]), ([11], [11]), ([12], [12]), ([12, 13], [12, 13]), ([3, 4, 0, 1, 2, 3, 4, 5, 6, 7, 8, 9, 10, 11, 12, 13, 14], [3, 4]), ([15, 14, 12, 0, 1, 2, 3, 4, 5, 6, 7, 8, 9, 10, 11, 12, 13, 14], [14, 15])])
def spec_l18Round.B12 : List Nat := [0, 0, 3, 7, 0, 0, 0, 96, 224, 0, 992, 2016, 4064, 8160, 16352, 32767, 65535]
theorem spec_l18Round.tab12 : rtab .any (opsOf Try.f81 12) = spec_l18Round.T12 := by kernel_rfl
theorem spec_l18Round.bits12 : waitsOk spec_l18Round.T12.2 spec_l18Round.B12 = true := by kernel_rfl
set_option maxHeartbeats 80000000 in
set_option maxRecDepth 100000 in
theorem spec_l18Round.calls (k : Nat) (A0 : Option Addr) (c0 : Nat) (l0 : List (S63)) (P1_ : Nat → Prop) (u9000_ : Value) (l1 : List (List Bool)) (a2 : Int) (r1 : Bool) (r2 : List (List Bool)) (w0 w : World) (hB : Below w0.heap.size w0 w) (hr0 : ∀ W_, Kept w W_ (fun k_ => P1_ k_) → Kd.C k63 W_ A0 l0.length l0) (hc0 : l0.length ≤ c0) (ho1 : Kd.S (Kd.slice 4 Kd.bool) 66 w w0.heap.size P1_ u9000_ l1) (h : spec_l18Round.f k l0 l1 a2 = some (r1, r2)) :
  Calls Try.prog 81 #[.slice A0 l0.length c0, u9000_, .int .i64 a2] w fun e w' => e = .returned (.bool r1) ∧ Kd.S (Kd.slice 4 Kd.bool) 66 w' w0.heap.size (fun k_ => (P1_ k_ ∨ w.heap.size ≤ k_)) u9000_ r2 ∧ Below w0.heap.size w0 w' ∧ Kept w w' (fun k_ => P1_ k_) := by
 have hu63 := Try.underlying63
 have HR0 := Aside0.mk hr0
 have HC0 := Aside0.mk hc0
 clear hr0 hc0
 have HO1 := Aside0.mk (show Kd.S (Kd.slice 4 Kd.bool) 66 w w0.heap.size (fun k_ => (P1_ k_ ∨ w.heap.size ≤ k_)) u9000_ l1 from Kd.S_mono ho1 (fun k_ hk => (.inl hk)))
 have HK := Aside0.mk (Kept.refl w (fun k_ => P1_ k_))
 have HW0 := Aside0.mk hB.size
 have HB := Aside0.mk hB
 clear hB
 have H : ((spec_NextOf.f k l0 a2).bind fun t207 => (spec_l18Round.l0 k l0 l1 a2 false t207 0)) = some (r1, r2) := h
 clear h
 replace H := Option.bind_eq_some_iff.mp H
 obtain ⟨t207, A40, H⟩ := H
 (try dsimp only at H)
 have A4 := Aside0.mk A40
 clear A40
 have H' := Aside0.mk H
 clear H
 go_enter Try.func81, Try.ntmps81
 go_wp2_with (first | ((with_reducible refine gate_callee (f := 29) rfl ?_); refine goesL_ (some 14) rfl rfl Try.func29 (by kernel_rfl) rfl #[.slice A0 l0.length c0, .int .i64 a2] rfl att8_0_9 ?_; (with_reducible refine (spec_NextOf.calls k _ _ l0 a2 t207 _ ?side1 ?side2 A4.out).mono ?_); (case side1 => exact Kd.C_kept_now HR0.out att8_0_2); (case side2 => exact HC0.out); rintro e w5 ⟨v208, rfl, ho0, hb⟩; refine ⟨_, rfl, ?_⟩; have n0_ := Aside0.mk (Kd.S_below att8_0_15 hb); have n1_ := Aside0.mk (Kd.R_lower (Kd.R_newM (M := fun k_ => (P1_ k_ ∨ w.heap.size ≤ k_)) ho0 att8_1_1 (fun k_ h_ => .inr h_)) (below_size att8_0_1)); have n2_ := Aside0.mk (Kept.below (S := (fun k_ => P1_ k_)) att8_0_2 hb); have n3_ := Aside0.mk (below_step att8_0_1 hb); clear HO1; clear HK; clear HB; have HO1 := n0_; have HO209 := n1_; have HK := n2_; have HB := n3_; clear n0_ n1_ n2_ n3_; (try clear hb); (try clear hb2); (try clear hk); (try clear hi); (try clear ho0)))
 go_loopg [7, 9] k (fun kq v7 v9 w' => ∃ (x1_1 : List (List Bool)) (x7_1 : Bool) (x9_1 : Int), v7 = .bool x7_1 ∧ v9 = .int .i64 x9_1 ∧ Aside0 (spec_l18Round.l0 kq l0 x1_1 a2 x7_1 t207 x9_1 = some (r1, r2)) ∧ Aside0 (kq ≤ k) ∧ Aside0 (Kd.S (Kd.slice 4 Kd.bool) 66 w' w0.heap.size (fun k_ => (P1_ k_ ∨ w.heap.size ≤ k_)) u9000_ x1_1) ∧ Aside0 (Kd.R (Kd.int .i64) 3 w' w0.heap.size (fun k_ => (P1_ k_ ∨ w.heap.size ≤ k_)) v208 t207) ∧ Aside0 (Kept w w' (fun k_ => P1_ k_)) ∧ Aside0 (Below w0.heap.size w0 w'))
 case atStart => exact ⟨(l1), (false), (0), att8_0_3, att8_0_3, H', ⟨Nat.le_refl _⟩, ⟨att8_0_15⟩, ⟨by (with_reducible repeat (first | apply Kd.R_alloc | apply Kd.R_drewN | apply Kd.R_drew)); exact Kd.R_mono HO209.out (fun _ hk => hk.1)⟩, ⟨att8_0_2⟩, ⟨att8_0_1⟩⟩
 case round =>
  clear H'
  try clear c2
  try clear p2
  obtain ⟨x1_1, x7_1, x9_1, rfl, rfl, HA, HK1, HO_1, HO_8, HK, HB⟩ := hrel
  cases gk with
  | zero => exact absurd HA.out (by simp [spec_l18Round.l0])
  | succ k1 =>
   have H := HA.out
   clear HA
   simp only [spec_l18Round.l0] at H
   by_cases c6 : x9_1 < 4
   ·rw [if_pos c6] at H
    have c6b0 : decide (x9_1 < 4) = true := decide_eq_true c6
    clear c6
    by_cases c7 : 0 ≤ a2
    ·rw [if_pos c7] at H
     have c7b0 : decide (0 ≤ a2) = true := decide_eq_true c7
     clear c7
     by_cases c8 : a2 < (l0.length : Int)
     ·rw [if_pos c8] at H
      have c8b0 : decide (a2 < (l0.length : Int)) = true := decide_eq_true c8
      clear c8
      replace H := Option.bind_eq_some_iff.mp H
      obtain ⟨t211, A90, H⟩ := H
      (try dsimp only at H)
      have A9 := Aside0.mk A90
      clear A90
      replace H := Option.bind_eq_some_iff.mp H
      obtain ⟨t214, A100, H⟩ := H
      (try dsimp only at H)
      have A10 := Aside0.mk A100
      clear A100
      have H' := Aside0.mk H
      clear H
      have p210 : 0 ≤ (a2 : Int) := of_decide_eq_true att8_0_0
      have q210 : a2 < (l0.length : Int) := of_decide_eq_true att8_0_0
      obtain ⟨ad210, e210, hx210_0, hx210_1, hx210_2, hx210_3, hx210_4⟩ := at_T63 (Kd.C_kept_now HR0.out HK.out) a2 p210 q210
      cases e210
      replace p210 := eq_true p210
      replace q210 := eq_true q210
      go_wp2_with (first | ((with_reducible refine gate_callee (f := 117) rfl ?_); refine goesL_ (some 23) rfl rfl Try.func117 (by kernel_rfl) rfl #[.agg #[.int .i64 ((rd_T63 l0 a2).f0), .int .i64 ((rd_T63 l0 a2).f1), .int .i64 ((rd_T63 l0 a2).f2), .int .i64 ((rd_T63 l0 a2).f3), .int .i64 ((rd_T63 l0 a2).f4)]] rfl att8_0_9 ?_; (with_reducible refine (spec_Reads.calls k1 ((rd_T63 l0 a2).f0) ((rd_T63 l0 a2).f1) ((rd_T63 l0 a2).f2) ((rd_T63 l0 a2).f3) ((rd_T63 l0 a2).f4) t211 _ A9.out).mono ?_); rintro e w11 ⟨v212, rfl, ho0, hb⟩; refine ⟨_, rfl, ?_⟩; have n0_ := Aside0.mk (Kd.S_below att8_0_5 hb); have n1_ := Aside0.mk (Kd.R_elder' att8_0_6 (Kd.R_base ho0) hb); have n2_ := Aside0.mk (Kd.R_lower (Kd.R_new' (Kd.R_newM (M := fun k_ => (P1_ k_ ∨ w.heap.size ≤ k_)) ho0 att8_1_1 (fun k_ h_ => .inr h_)) (Kd.R_lt att8_0_6)) (below_size att8_0_1)); have n3_ := Aside0.mk (Kept.below (S := (fun k_ => P1_ k_)) att8_0_2 hb); have n4_ := Aside0.mk (below_step att8_0_1 hb); clear HO_1; clear HO_8; clear HK; clear HB; have HO_1 := n0_; have HO_8 := n1_; have HO213 := n2_; have HK := n3_; have HB := n4_; clear n0_ n1_ n2_ n3_ n4_; (try clear hb); (try clear hb2); (try clear hk); (try clear hi); (try clear ho0); obtain ⟨Ao12, co12, eo12⟩ := Kd.R_slice HO213.out; subst eo12) | ((with_reducible refine gate_callee (f := 90) rfl ?_); refine goesL_ (some 25) rfl rfl Try.func90 (by kernel_rfl) rfl #[.slice Ao12 t211.length co12, .int .i64 x9_1] rfl att8_0_9 ?_; (with_reducible refine (spec_l18In.calls k1 _ _ t211 x9_1 t214 _ ?side1 ?side2 A10.out).mono ?_); (case side1 => repeat (first | exact (Kd.R_reads' HO213.out).2.2 | (with_reducible refine Kd.C_alloc ?_ _) | (with_reducible refine Kd.C_drewN ?_ _) | (with_reducible refine Kd.C_drew ?_))); (case side2 => exact (Kd.R_reads' HO213.out).2.1); rintro e w' ⟨rfl, ⟨nd, rfl⟩⟩; refine ⟨_, rfl, ?_⟩))
      go_loopg [10, 11] k1 (fun kq v10 v11 w' => ∃ (x10_2 : Bool) (x11_2 : Int), v10 = .bool x10_2 ∧ v11 = .int .i64 x11_2 ∧ Aside0 (spec_l18Round.l1 kq l0 x1_1 a2 x7_1 t207 x9_1 x10_2 x11_2 = some (r1, r2)) ∧ Aside0 (kq ≤ k1) ∧ Aside0 (Kd.S (Kd.slice 4 Kd.bool) 66 w' w0.heap.size (fun k_ => (P1_ k_ ∨ w.heap.size ≤ k_)) u9000_ x1_1) ∧ Aside0 (Kd.R (Kd.int .i64) 3 w' w0.heap.size (fun k_ => (P1_ k_ ∨ w.heap.size ≤ k_)) v208 t207) ∧ Aside0 (Kept w w' (fun k_ => P1_ k_)) ∧ Aside0 (Below w0.heap.size w0 w'))
      case atStart => exact ⟨(t214), (0), att8_0_3, att8_0_3, H', ⟨Nat.le_refl _⟩, ⟨att8_0_5⟩, ⟨att8_0_14⟩, ⟨att8_0_2⟩, ⟨att8_0_1⟩⟩
      case round =>
       clear H'
       try clear c1
       try clear c2
       try clear p2
       try clear q2
       try clear hx2
       try clear c6
       try clear c6b0
       try clear c7
       try clear c7b0
       try clear c8
       try clear c8b0
       try clear c9
       try clear c11
       try clear hx210_0
       try clear hx210_1
       try clear hx210_2
       try clear hx210_3
       try clear hx210_4
       try clear p2
       try clear p210
       try clear q210
       obtain ⟨x10_2, x11_2, rfl, rfl, HA, HK2, HO_1, HO_8, HK, HB⟩ := hrel
       cases gk with
       | zero => exact absurd HA.out (by simp [spec_l18Round.l1])
       | succ k2 =>
        have H := HA.out
        clear HA
        simp only [spec_l18Round.l1] at H
        by_cases c13 : x11_2 < (t207.length : Int)
        ·rw [if_pos c13] at H
         have c13b0 : decide (x11_2 < (t207.length : Int)) = true := decide_eq_true c13
         clear c13
         by_cases c14 : x10_2 = true
         ·subst c14
          rw [if_pos rfl] at H
          have H' := Aside0.mk H
          clear H
          obtain ⟨Ao15, co15, eo15⟩ := Kd.R_slice HO_8.out
          subst eo15
          go_wp2
          go_roundg k2
          case measure => have := HK1.out; have := HK2.out; omega
          case rel => exact ⟨(true), (wrap64 (x11_2 + 1)), att8_0_3, att8_0_3, H', ⟨att8_0_8⟩, ⟨att8_0_5⟩, ⟨att8_0_6⟩, ⟨att8_0_2⟩, ⟨att8_0_1⟩⟩
         ·replace c14 := Bool.eq_false_iff.mpr c14
          subst c14
          rw [if_neg (show ¬ (false = true) by decide)] at H
          by_cases c16 : 0 ≤ x11_2
          ·rw [if_pos c16] at H
           have c16b0 : decide (0 ≤ x11_2) = true := decide_eq_true c16
           clear c16
           by_cases c17 : 0 ≤ (rd t207 x11_2)
           ·rw [if_pos c17] at H
            have c17b0 : decide (0 ≤ (rd t207 x11_2)) = true := decide_eq_true c17
            clear c17
            by_cases c18 : (rd t207 x11_2) < (x1_1.length : Int)
            ·rw [if_pos c18] at H
             have c18b0 : decide ((rd t207 x11_2) < (x1_1.length : Int)) = true := decide_eq_true c18
             clear c18
             by_cases c19 : 0 ≤ x9_1
             ·rw [if_pos c19] at H
              have c19b0 : decide (0 ≤ x9_1) = true := decide_eq_true c19
              clear c19
              by_cases c20 : x9_1 < ((rd_L4 x1_1 (rd t207 x11_2)).length : Int)
              ·rw [if_pos c20] at H
               have c20b0 : decide (x9_1 < ((rd_L4 x1_1 (rd t207 x11_2)).length : Int)) = true := decide_eq_true c20
               clear c20
               obtain ⟨bq21, hbq21⟩ : ∃ b_ : Bool, b_ = (rdOf false (rd_L4 x1_1 (rd t207 x11_2)) x9_1) := ⟨_, rfl⟩
               replace H : (if bq21 = true then (if 0 ≤ a2 then (if a2 < (l0.length : Int) then ((spec_Sets.f k2 ((rd_T63 l0 a2).f0) ((rd_T63 l0 a2).f1) ((rd_T63 l0 a2).f2) ((rd_T63 l0 a2).f3) ((rd_T63 l0 a2).f4)).bind fun t219 => ((spec_l18In.f k2 t219 x9_1).bind fun t222 => (spec_l18Round.l1 k2 l0 x1_1 a2 x7_1 t207 x9_1 (!t222) (wrap64 (x11_2 + 1))))) else (none)) else (none)) else (spec_l18Round.l1 k2 l0 x1_1 a2 x7_1 t207 x9_1 false (wrap64 (x11_2 + 1)))) = some (r1, r2) := by rw [← hbq21] at H; exact H
               have Nbq21 := Aside0.mk hbq21
               clear hbq21
               by_cases c22 : bq21 = true
               ·subst c22
                rw [if_pos rfl] at H
                by_cases c23 : 0 ≤ a2
                ·rw [if_pos c23] at H
                 have c23b0 : decide (0 ≤ a2) = true := decide_eq_true c23
                 clear c23
                 by_cases c24 : a2 < (l0.length : Int)
                 ·rw [if_pos c24] at H
                  have c24b0 : decide (a2 < (l0.length : Int)) = true := decide_eq_true c24
                  clear c24
                  replace H := Option.bind_eq_some_iff.mp H
                  obtain ⟨t219, A250, H⟩ := H
                  (try dsimp only at H)
                  have A25 := Aside0.mk A250
                  clear A250
                  replace H := Option.bind_eq_some_iff.mp H
                  obtain ⟨t222, A260, H⟩ := H
                  (try dsimp only at H)
                  have A26 := Aside0.mk A260
                  clear A260
                  have H' := Aside0.mk H
                  clear H
                  obtain ⟨Ao27, co27, eo27⟩ := Kd.R_slice HO_8.out
                  subst eo27
                  have p215 : 0 ≤ (x11_2 : Int) := of_decide_eq_true att8_0_0
                  have q215 : x11_2 < (t207.length : Int) := of_decide_eq_true att8_0_0
                  obtain ⟨ad215, e215, hx215_0⟩ := Kd.at_int (Kd.R_reads' HO_8.out).2.2 x11_2 p215 q215
                  cases e215
                  replace p215 := eq_true p215
                  replace q215 := eq_true q215
                  obtain ⟨Ao28, co28, eo28⟩ := Kd.S_slice HO_1.out
                  subst eo28
                  have p216 : 0 ≤ ((rd t207 x11_2) : Int) := of_decide_eq_true att8_0_0
                  have q216 : (rd t207 x11_2) < (x1_1.length : Int) := of_decide_eq_true att8_0_0
                  obtain ⟨ad216, A216_0, c216_0, e216, hx216_0, hl216_0, hi216_0⟩ := at_L4 (Kd.S_reads' HO_1.out).2.2 (rd t207 x11_2) p216 q216
                  cases e216
                  obtain ⟨ce216, hce216, hMe216, hcc216⟩ := Kd.S_get HO_1.out [] (rd t207 x11_2) p216 att8_1_9
                  obtain ⟨ve216_0, rfl, ge216_0⟩ := hMe216
                  have hv216_0 := hcc216 0 _ rfl
                  rw [Nat.add_zero, show ((Kd.slice 4 Kd.bool)).sz = 1 from rfl, Nat.mul_one] at hv216_0
                  replace hv216_0 := Option.some.inj (hv216_0.symm.trans hx216_0)
                  rw [hv216_0] at ge216_0
                  have HL216_0 := Aside0.mk (show Kd.R Kd.bool 4 _ _ _ _ (rd_L4 x1_1 (rd t207 x11_2)) from ge216_0)
                  clear hv216_0 ge216_0
                  have HX216_0 := Aside0.mk hx216_0
                  clear hcc216 hce216
                  have HR216_0 := Aside0.mk hi216_0
                  have HC216_0 := Aside0.mk hl216_0
                  clear hi216_0 hl216_0
                  replace p216 := eq_true p216
                  replace q216 := eq_true q216
                  have p217 : 0 ≤ (x9_1 : Int) := of_decide_eq_true att8_0_0
                  have q217 : x9_1 < ((rd_L4 x1_1 (rd t207 x11_2)).length : Int) := of_decide_eq_true att8_0_0
                  obtain ⟨ad217, e217, hx217_0⟩ := Kd.at_bool att8_0_7 x9_1 p217 q217
                  (try rw [← Nbq21.out] at hx217_0)
                  cases e217
                  replace p217 := eq_true p217
                  replace q217 := eq_true q217
                  have p218 : 0 ≤ (a2 : Int) := of_decide_eq_true att8_0_0
                  have q218 : a2 < (l0.length : Int) := of_decide_eq_true att8_0_0
                  obtain ⟨ad218, e218, hx218_0, hx218_1, hx218_2, hx218_3, hx218_4⟩ := at_T63 (Kd.C_kept_now HR0.out HK.out) a2 p218 q218
                  obtain rfl : ad210 = ad218 := (by injection e218)
                  replace p218 := eq_true p218
                  replace q218 := eq_true q218
                  go_wp2_with (first | (go_at_call 118; (with_reducible refine (spec_Sets.calls k2 ((rd_T63 l0 a2).f0) ((rd_T63 l0 a2).f1) ((rd_T63 l0 a2).f2) ((rd_T63 l0 a2).f3) ((rd_T63 l0 a2).f4) t219 _ A25.out).mono ?_); rintro e w29 ⟨v220, rfl, ho0, hb⟩; have n0_ := Aside0.mk (Kd.S_below att8_0_5 hb); have n1_ := Aside0.mk (Kd.R_elder' att8_0_6 (Kd.R_base ho0) hb); have n2_ := Aside0.mk (Kd.R_below (by (with_reducible repeat (first | apply Kd.R_alloc | apply Kd.R_drewN | apply Kd.R_drew)); exact HL216_0.out) hb); have n3_ := Aside0.mk (Kd.R_lower (Kd.R_new' (Kd.R_newM (M := fun k_ => (P1_ k_ ∨ w.heap.size ≤ k_)) ho0 att8_1_1 (fun k_ h_ => .inr h_)) (Kd.R_lt att8_0_6)) (below_size att8_0_1)); have n4_ := Aside0.mk (Kd.C_below att8_0_7 hb); have n5_ := Aside0.mk (pw_cell_below hb HX216_0.out); have n6_ := Aside0.mk (Kept.below (S := (fun k_ => P1_ k_)) att8_0_2 hb); have n7_ := Aside0.mk (below_step att8_0_1 hb); clear HO_1; clear HO_8; clear HL216_0; clear HR216_0; clear HX216_0; clear HK; clear HB; have HO_1 := n0_; have HO_8 := n1_; have HL216_0 := n2_; have HO221 := n3_; have HR216_0 := n4_; have HX216_0 := n5_; have HK := n6_; have HB := n7_; clear n0_ n1_ n2_ n3_ n4_ n5_ n6_ n7_; (try clear hb); (try clear hb2); (try clear hk); (try clear hi); (try clear ho0); obtain ⟨Ao30, co30, eo30⟩ := Kd.R_slice HO221.out; subst eo30) | (go_at_call 90; (with_reducible refine (spec_l18In.calls k2 _ _ t219 x9_1 t222 _ ?side1 ?side2 A26.out).mono ?_); (case side1 => repeat (first | exact (Kd.R_reads' HO221.out).2.2 | (with_reducible refine Kd.C_alloc ?_ _) | (with_reducible refine Kd.C_drewN ?_ _) | (with_reducible refine Kd.C_drew ?_))); (case side2 => exact (Kd.R_reads' HO221.out).2.1); rintro e w' ⟨rfl, ⟨nd, rfl⟩⟩))
                  go_roundg k2
                  case measure => have := HK1.out; have := HK2.out; omega
                  case rel => exact ⟨(!t222), (wrap64 (x11_2 + 1)), att8_0_3, att8_0_3, H', ⟨att8_0_8⟩, ⟨att8_0_5⟩, ⟨att8_0_14⟩, ⟨att8_0_2⟩, ⟨att8_0_1⟩⟩
                 ·rw [if_neg c24] at H
                  exact absurd H (by simp)
                ·rw [if_neg c23] at H
                 exact absurd H (by simp)
               ·replace c22 := Bool.eq_false_iff.mpr c22
                subst c22
                rw [if_neg (show ¬ (false = true) by decide)] at H
                have H' := Aside0.mk H
                clear H
                obtain ⟨Ao31, co31, eo31⟩ := Kd.R_slice HO_8.out
                subst eo31
                have p215 : 0 ≤ (x11_2 : Int) := of_decide_eq_true att8_0_0
                have q215 : x11_2 < (t207.length : Int) := of_decide_eq_true att8_0_0
                obtain ⟨ad215, e215, hx215_0⟩ := Kd.at_int (Kd.R_reads' HO_8.out).2.2 x11_2 p215 q215
                cases e215
                replace p215 := eq_true p215
                replace q215 := eq_true q215
                obtain ⟨Ao32, co32, eo32⟩ := Kd.S_slice HO_1.out
                subst eo32
                have p216 : 0 ≤ ((rd t207 x11_2) : Int) := of_decide_eq_true att8_0_0
                have q216 : (rd t207 x11_2) < (x1_1.length : Int) := of_decide_eq_true att8_0_0
                obtain ⟨ad216, A216_0, c216_0, e216, hx216_0, hl216_0, hi216_0⟩ := at_L4 (Kd.S_reads' HO_1.out).2.2 (rd t207 x11_2) p216 q216
                cases e216
                obtain ⟨ce216, hce216, hMe216, hcc216⟩ := Kd.S_get HO_1.out [] (rd t207 x11_2) p216 att8_1_9
                obtain ⟨ve216_0, rfl, ge216_0⟩ := hMe216
                have hv216_0 := hcc216 0 _ rfl
                rw [Nat.add_zero, show ((Kd.slice 4 Kd.bool)).sz = 1 from rfl, Nat.mul_one] at hv216_0
                replace hv216_0 := Option.some.inj (hv216_0.symm.trans hx216_0)
                rw [hv216_0] at ge216_0
                have HL216_0 := Aside0.mk (show Kd.R Kd.bool 4 _ _ _ _ (rd_L4 x1_1 (rd t207 x11_2)) from ge216_0)
                clear hv216_0 ge216_0
                have HX216_0 := Aside0.mk hx216_0
                clear hcc216 hce216
                have HR216_0 := Aside0.mk hi216_0
                have HC216_0 := Aside0.mk hl216_0
                clear hi216_0 hl216_0
                replace p216 := eq_true p216
                replace q216 := eq_true q216
                have p217 : 0 ≤ (x9_1 : Int) := of_decide_eq_true att8_0_0
                have q217 : x9_1 < ((rd_L4 x1_1 (rd t207 x11_2)).length : Int) := of_decide_eq_true att8_0_0
                obtain ⟨ad217, e217, hx217_0⟩ := Kd.at_bool att8_0_7 x9_1 p217 q217
                (try rw [← Nbq21.out] at hx217_0)
                cases e217
                replace p217 := eq_true p217
                replace q217 := eq_true q217
                go_wp2
                go_roundg k2
                case measure => have := HK1.out; have := HK2.out; omega
                case rel => exact ⟨(false), (wrap64 (x11_2 + 1)), att8_0_3, att8_0_3, H', ⟨att8_0_8⟩, ⟨att8_0_5⟩, ⟨att8_0_6⟩, ⟨att8_0_2⟩, ⟨att8_0_1⟩⟩
              ·rw [if_neg c20] at H
               exact absurd H (by simp)
             ·rw [if_neg c19] at H
              exact absurd H (by simp)
            ·rw [if_neg c18] at H
             exact absurd H (by simp)
           ·rw [if_neg c17] at H
            exact absurd H (by simp)
          ·rw [if_neg c16] at H
           exact absurd H (by simp)
        ·rw [if_neg c13] at H
         have c13b0 : decide (x11_2 < (t207.length : Int)) = false := decide_eq_false c13
         clear c13
         by_cases c33 : x7_1 = true
         ·subst c33
          rw [if_pos rfl] at H
          by_cases c34 : 0 ≤ a2
          ·rw [if_pos c34] at H
           have c34b0 : decide (0 ≤ a2) = true := decide_eq_true c34
           clear c34
           by_cases c35 : a2 < (x1_1.length : Int)
           ·rw [if_pos c35] at H
            have c35b0 : decide (a2 < (x1_1.length : Int)) = true := decide_eq_true c35
            clear c35
            by_cases c36 : 0 ≤ x9_1
            ·rw [if_pos c36] at H
             have c36b0 : decide (0 ≤ x9_1) = true := decide_eq_true c36
             clear c36
             by_cases c37 : x9_1 < ((rd_L4 x1_1 a2).length : Int)
             ·rw [if_pos c37] at H
              have c37b0 : decide (x9_1 < ((rd_L4 x1_1 a2).length : Int)) = true := decide_eq_true c37
              clear c37
              obtain ⟨bq38, hbq38⟩ : ∃ b_ : Bool, b_ = (rdOf false (rd_L4 x1_1 a2) x9_1) := ⟨_, rfl⟩
              replace H : (if bq38 = true then (spec_l18Round.l0 k2 l0 (x1_1.set (a2 : Int).toNat ((rd_L4 x1_1 a2).set (x9_1 : Int).toNat true)) a2 true t207 (wrap64 (x9_1 + 1))) else (spec_l18Round.l0 k2 l0 (x1_1.set (a2 : Int).toNat ((rd_L4 x1_1 a2).set (x9_1 : Int).toNat x10_2)) a2 true t207 (wrap64 (x9_1 + 1)))) = some (r1, r2) := by rw [← hbq38] at H; exact H
              have Nbq38 := Aside0.mk hbq38
              clear hbq38
              by_cases c39 : bq38 = true
              ·subst c39
               rw [if_pos rfl] at H
               obtain ⟨y226, hy226⟩ : ∃ y_ : List Bool, y_ = ((rd_L4 x1_1 a2).set (x9_1 : Int).toNat true) := ⟨_, rfl⟩
               replace H : (spec_l18Round.l0 k2 l0 (x1_1.set (a2 : Int).toNat y226) a2 true t207 (wrap64 (x9_1 + 1))) = some (r1, r2) := by first | (rw [hy226]; with_reducible exact H) | (have H2_ := (Option.bind_some _ _).symm.trans H; rw [hy226]; with_reducible exact H2_) | (have H2_ := (Option.bind_some _ _).symm.trans H; with_reducible exact H2_) | with_reducible exact H | (rw [hy226]; exact H) | exact H
               have Ny226 := Aside0.mk hy226
               clear hy226
               obtain ⟨y228, hy228⟩ : ∃ y_ : List (List Bool), y_ = (x1_1.set (a2 : Int).toNat y226) := ⟨_, rfl⟩
               replace H : (spec_l18Round.l0 k2 l0 y228 a2 true t207 (wrap64 (x9_1 + 1))) = some (r1, r2) := by first | (rw [hy228]; with_reducible exact H) | (have H2_ := (Option.bind_some _ _).symm.trans H; rw [hy228]; with_reducible exact H2_) | (have H2_ := (Option.bind_some _ _).symm.trans H; with_reducible exact H2_) | with_reducible exact H | (rw [hy228]; exact H) | exact H
               have Ny228 := Aside0.mk hy228
               clear hy228
               have H' := Aside0.mk H
               clear H
               obtain ⟨Ao41, co41, eo41⟩ := Kd.R_slice HO_8.out
               subst eo41
               try go_wp2
               have n0_ := Aside0.mk (Kd.S_drew HO_1.out)
               have n1_ := Aside0.mk (Kd.R_drew HO_8.out)
               have n2_ := Aside0.mk (Kept.drew HK.out)
               have n3_ := Aside0.mk (below_drew1 HB.out)
               clear HO_1
               clear HO_8
               clear HK
               clear HB
               have HO_1 := n0_
               have HO_8 := n1_
               have HK := n2_
               have HB := n3_
               clear n0_ n1_ n2_ n3_
               obtain ⟨Ao43, co43, eo43⟩ := Kd.S_slice HO_1.out
               (first | subst eo43 | (injection eo43 with f1_ f2_ f3_; have f4_ := f1_.symm; have f5_ := f3_.symm; clear f1_ f2_ f3_; subst f4_; subst f5_))
               have p223 : 0 ≤ (a2 : Int) := of_decide_eq_true att8_0_0
               have q223 : a2 < (x1_1.length : Int) := of_decide_eq_true att8_0_0
               obtain ⟨ad223, A223_0, c223_0, e223, hx223_0, hl223_0, hi223_0⟩ := at_L4 (Kd.S_reads' HO_1.out).2.2 a2 p223 q223
               cases e223
               obtain ⟨ce223, hce223, hMe223, hcc223⟩ := Kd.S_get HO_1.out [] a2 p223 att8_1_8
               obtain ⟨ve223_0, rfl, ge223_0⟩ := hMe223
               have hv223_0 := hcc223 0 _ rfl
               rw [Nat.add_zero, show ((Kd.slice 4 Kd.bool)).sz = 1 from rfl, Nat.mul_one] at hv223_0
               replace hv223_0 := Option.some.inj (hv223_0.symm.trans hx223_0)
               rw [hv223_0] at ge223_0
               have HL223_0 := Aside0.mk (show Kd.R Kd.bool 4 _ _ _ _ (rd_L4 x1_1 a2) from ge223_0)
               clear hv223_0 ge223_0
               have HX223_0 := Aside0.mk hx223_0
               clear hcc223 hce223
               have HR223_0 := Aside0.mk hi223_0
               have HC223_0 := Aside0.mk hl223_0
               clear hi223_0 hl223_0
               replace p223 := eq_true p223
               replace q223 := eq_true q223
               have p224 : 0 ≤ (a2 : Int) := of_decide_eq_true att8_0_0
               have q224 : a2 < (x1_1.length : Int) := of_decide_eq_true att8_0_0
               obtain ⟨ad224, A224_0, c224_0, e224, hx224_0, hl224_0, hi224_0⟩ := at_L4 (Kd.S_reads' HO_1.out).2.2 a2 p224 q224
               obtain rfl : ad223 = ad224 := (by injection e224)
               obtain ⟨ce224, hce224, hMe224, hcc224⟩ := Kd.S_get HO_1.out [] a2 p224 att8_1_7
               obtain ⟨ve224_0, rfl, ge224_0⟩ := hMe224
               have hv224_0 := hcc224 0 _ rfl
               rw [Nat.add_zero, show ((Kd.slice 4 Kd.bool)).sz = 1 from rfl, Nat.mul_one] at hv224_0
               replace hv224_0 := Option.some.inj (hv224_0.symm.trans hx224_0)
               rw [hv224_0] at ge224_0
               have HL224_0 := Aside0.mk (show Kd.R Kd.bool 4 _ _ _ _ (rd_L4 x1_1 a2) from ge224_0)
               clear hv224_0 ge224_0
               have HX224_0 := Aside0.mk hx224_0
               clear hcc224 hce224
               have HR224_0 := Aside0.mk hi224_0
               have HC224_0 := Aside0.mk hl224_0
               clear hi224_0 hl224_0
               replace p224 := eq_true p224
               replace q224 := eq_true q224
               have ea_ := Option.some.inj (hx223_0.symm.trans hx224_0)
               injection ea_ with ea_ en_ ec_
               subst ea_
               subst ec_
               clear en_
               have p225 : 0 ≤ (x9_1 : Int) := of_decide_eq_true att8_0_0
               have q225 : x9_1 < ((rd_L4 x1_1 a2).length : Int) := of_decide_eq_true att8_0_0
               obtain ⟨ad225, e225, hx225_0⟩ := Kd.at_bool att8_0_13 x9_1 p225 q225
               (try rw [← Nbq38.out] at hx225_0)
               cases e225
               replace p225 := eq_true p225
               replace q225 := eq_true q225
               have p40 : 0 ≤ (x9_1 : Int) := of_decide_eq_true att8_0_0
               have q40 : (x9_1 : Int) < (((rd_L4 x1_1 a2).length : Int) : Int) := of_decide_eq_true att8_0_0
               obtain ⟨go40, co40, eo40, gb40, gl40, cl40, HG40⟩ := Kd.R_form HL223_0.out (by omega)
               (first | cases eo40 | (injection eo40 with ea_ en_ ec_; (first | subst ea_ | (injection ea_ with ea_; subst ea_)); subst ec_; clear en_))
               have GB40 := Aside0.mk gb40
               have GG40 := Aside0.mk HG40
               clear gb40 gl40 HG40
               have HMgo40 := Aside0.mk (show (P1_ go40 ∨ w.heap.size ≤ go40) from (HL223_0.out.1 _ rfl).1)
               (first | simp only [add_plain] at hx225_0 | skip)
               obtain ⟨hx40_0, hf40_0⟩ := Kd.R_celln false HL223_0.out (x9_1 : Int) p40 q40
               replace p40 := eq_true p40
               replace q40 := eq_true q40
               have hq44 : (a2 : Int) < (x1_1.length : Int) := att8_1_0
               obtain ⟨oki44, ce44, hcl44, hM44, hcc44, hok44, hbk44⟩ := Kd.S_borrow HO_1.out [] (a2 : Int) (of_decide_eq_true att8_0_0) hq44
               obtain ⟨ve44_0, rfl, ge44_0⟩ := hM44
               have hv44 := hcc44 0 _ rfl
               rw [Nat.add_zero, show ((Kd.slice 4 Kd.bool)).sz = 1 from rfl, Nat.mul_one] at hv44
               replace hv44 := Option.some.inj (hv44.symm.trans HX223_0.out)
               subst hv44
               clear hcc44 hcl44
               replace ge44_0 := (show Kd.R Kd.bool 4 _ _ _ _ (rd_L4 x1_1 a2) from ge44_0)
               have HP44 := Kd.R_putg ge44_0 (x9_1 : Int) true
               rw [← Ny226.out] at HP44
               have HS44 := hbk44 HP44.2 (fun k_ e_ => by injection e_ with e_; subst e_; exact ge44_0.1 _ rfl) (x' := y226) (Kd.M_row HP44.1)
               rw [← Ny228.out] at HS44
               have HQ44 := Aside0.mk HS44
               clear HP44 HS44 hbk44 hok44
               refine start_ (n := 17) (S := fun w' => w'.cell? (ad223.add (a2).toNat) = some (.slice (some ⟨go40, 0, none⟩) (rd_L4 x1_1 a2).length c223_0) ∧ w'.cell? (ad223.add (a2).toNat) = some (.slice (some ⟨go40, 0, none⟩) (rd_L4 x1_1 a2).length c223_0) ∧ w'.cell? ⟨go40, (x9_1).toNat, none⟩ = some (.bool true)) (ds := [16]) (tf_ 0 17) (by kernel_rfl) rfl rfl ⟨hx223_0, hx224_0, hx225_0⟩ (fun hHeld => ?_); refine with_tabW spec_l18Round.tab12 spec_l18Round.bits12 (fun HT_ HW_ => ?_)
               generalize wr.drew = w42 at HO_1 HO_8 HK HB GG40 HL223_0 HL224_0 HQ44 HR223_0 HR224_0 HX223_0 HX224_0 hf40_0 hx223_0 hx224_0 hx225_0 hx40_0 hHeld ⊢
               refine pureP_ (i := 0) (N := some 69) (tf_ 1 16) (any_of HT_.out (by kernel_rfl)) (h := ?_)
               refine pureP_ (i := 1) (N := some 70) (tf_ 2 15) (any_of HT_.out (by kernel_rfl)) (h := ?_)
               refine pureP_ (i := 2) (N := some 71) (tf_ 3 14) (any_of HT_.out (by kernel_rfl)) (h := ?_)
               refine pureP_ (i := 4) (N := some 73) #[true, true, true, false, true, false, false, false, false, false, false, false, false, false, false, false, false] (any_of HT_.out (by kernel_rfl)) (h := ?_)
               refine pureP_ (i := 5) (N := some 74) #[true, true, true, false, true, true, false, false, false, false, false, false, false, false, false, false, false] (any_of HT_.out (by kernel_rfl)) (h := ?_)
               refine pureP_ (i := 6) (N := some 75) #[true, true, true, false, true, true, true, false, false, false, false, false, false, false, false, false, false] (any_of HT_.out (by kernel_rfl)) (h := ?_)
               refine pureP_ (i := 7) (N := some 76) #[true, true, true, false, true, true, true, true, false, false, false, false, false, false, false, false, false] (any_of HT_.out (by kernel_rfl)) (h := ?_)
               refine pureP_ (i := 9) (N := some 78) #[true, true, true, false, true, true, true, true, false, true, false, false, false, false, false, false, false] (any_of HT_.out (by kernel_rfl)) (h := ?_)
               refine takeP_ (i := 3) (N := some 72) #[true, true, true, true, true, true, true, true, false, true, false, false, false, false, false, false, false] (take_ofW HT_.out HW_.out (by kernel_rfl)) hHeld (hy := Or.inl ⟨by rfl, att8_0_4⟩) (h := ?_)
               refine takeP_ (i := 8) (N := some 77) (tf_ 10 7) (take_ofW HT_.out HW_.out (by kernel_rfl)) hHeld (hy := Or.inl ⟨by rfl, att8_0_4⟩) (h := ?_)
               refine pureP_ (i := 10) (N := some 79) (tf_ 11 6) (any_of HT_.out (by kernel_rfl)) (h := ?_)
               refine takeP_ (i := 11) (N := some 80) (tf_ 12 5) (take_ofW HT_.out HW_.out (by kernel_rfl)) hHeld (hy := Or.inl ⟨by rfl, att8_0_4⟩) (h := ?_)
               refine pureP_ (i := 12) (N := some 81) (tf_ 13 4) (any_of HT_.out (by kernel_rfl)) (h := ?_)
               refine offP_ (i := 13) (N := some 82) (tf_ 14 3) (any_of HT_.out (by kernel_rfl)) (h := ?_)
               refine pureP_ (i := 14) (N := some 83) (tf_ 15 2) (any_of HT_.out (by kernel_rfl)) (h := ?_)
               refine pureP_ (i := 15) (N := some 84) (tf_ 16 1) (any_of HT_.out (by kernel_rfl)) (h := ?_)
               refine last_ (i := 16) (N := none) (tf_ 17 0) rfl rfl (one_of HT_.out (by kernel_rfl)) (by decide) (fun K hK => ?_)
               refine skip_ (w1 := ?_) (by rfl) rfl ?_ ?_
               rotate_left
               ·go_simp
                rfl
               refine hK.out _ _ ?_
               clear hK K
               refine done_ (done_of HT_.out (by kernel_rfl)) ?_
               try go_wp2
               go_roundg k2
               case measure => have := HK1.out; have := HK2.out; omega
               case rel => exact ⟨(y228), (true), (wrap64 (x9_1 + 1)), att8_0_3, att8_0_3, H', ⟨att8_0_8⟩, ⟨by (with_reducible repeat (first | apply Kd.S_alloc | apply Kd.S_drewN | apply Kd.S_drew)); exact HQ44.out⟩, ⟨by (with_reducible repeat (first | apply Kd.R_alloc | apply Kd.R_drewN | apply Kd.R_drew)); exact Kd.R_mono (Kd.R_far (p := ⟨go40, (x9_1 : Int).toNat, none⟩) (Kd.R_types HO_8.out GG40.out (by decide)) (fun _ hk => hk.2) (.bool true)) (fun _ hk => hk.1)⟩, ⟨by repeat (first | (with_reducible first | exact HK.out | apply Kept.alloc | apply Kept.drewN | apply Kept.drew | refine Kept.setCell ?_ HMgo40.out _) | exact HK.out)⟩, ⟨by repeat (first | (with_reducible first | exact HB.out | apply below_alloc | apply pw_below_drewN | apply below_drew1 | refine below_set ?_ GB40.out) | exact HB.out)⟩⟩
              ·replace c39 := Bool.eq_false_iff.mpr c39
               subst c39
               rw [if_neg (show ¬ (false = true) by decide)] at H
               obtain ⟨y229, hy229⟩ : ∃ y_ : List Bool, y_ = ((rd_L4 x1_1 a2).set (x9_1 : Int).toNat x10_2) := ⟨_, rfl⟩
               replace H : (spec_l18Round.l0 k2 l0 (x1_1.set (a2 : Int).toNat y229) a2 true t207 (wrap64 (x9_1 + 1))) = some (r1, r2) := by first | (rw [hy229]; with_reducible exact H) | (have H2_ := (Option.bind_some _ _).symm.trans H; rw [hy229]; with_reducible exact H2_) | (have H2_ := (Option.bind_some _ _).symm.trans H; with_reducible exact H2_) | with_reducible exact H | (rw [hy229]; exact H) | exact H
               have Ny229 := Aside0.mk hy229
               clear hy229
               obtain ⟨y231, hy231⟩ : ∃ y_ : List (List Bool), y_ = (x1_1.set (a2 : Int).toNat y229) := ⟨_, rfl⟩
               replace H : (spec_l18Round.l0 k2 l0 y231 a2 true t207 (wrap64 (x9_1 + 1))) = some (r1, r2) := by first | (rw [hy231]; with_reducible exact H) | (have H2_ := (Option.bind_some _ _).symm.trans H; rw [hy231]; with_reducible exact H2_) | (have H2_ := (Option.bind_some _ _).symm.trans H; with_reducible exact H2_) | with_reducible exact H | (rw [hy231]; exact H) | exact H
               have Ny231 := Aside0.mk hy231
               clear hy231
               have H' := Aside0.mk H
               clear H
               obtain ⟨Ao47, co47, eo47⟩ := Kd.R_slice HO_8.out
               subst eo47
               try go_wp2
               have n0_ := Aside0.mk (Kd.S_drew HO_1.out)
               have n1_ := Aside0.mk (Kd.R_drew HO_8.out)
               have n2_ := Aside0.mk (Kept.drew HK.out)
               have n3_ := Aside0.mk (below_drew1 HB.out)
               clear HO_1
               clear HO_8
               clear HK
               clear HB
               have HO_1 := n0_
               have HO_8 := n1_
               have HK := n2_
               have HB := n3_
               clear n0_ n1_ n2_ n3_
               obtain ⟨Ao49, co49, eo49⟩ := Kd.S_slice HO_1.out
               (first | subst eo49 | (injection eo49 with f1_ f2_ f3_; have f4_ := f1_.symm; have f5_ := f3_.symm; clear f1_ f2_ f3_; subst f4_; subst f5_))
               have p223 : 0 ≤ (a2 : Int) := of_decide_eq_true att8_0_0
               have q223 : a2 < (x1_1.length : Int) := of_decide_eq_true att8_0_0
               obtain ⟨ad223, A223_0, c223_0, e223, hx223_0, hl223_0, hi223_0⟩ := at_L4 (Kd.S_reads' HO_1.out).2.2 a2 p223 q223
               cases e223
               obtain ⟨ce223, hce223, hMe223, hcc223⟩ := Kd.S_get HO_1.out [] a2 p223 att8_1_8
               obtain ⟨ve223_0, rfl, ge223_0⟩ := hMe223
               have hv223_0 := hcc223 0 _ rfl
               rw [Nat.add_zero, show ((Kd.slice 4 Kd.bool)).sz = 1 from rfl, Nat.mul_one] at hv223_0
               replace hv223_0 := Option.some.inj (hv223_0.symm.trans hx223_0)
               rw [hv223_0] at ge223_0
               have HL223_0 := Aside0.mk (show Kd.R Kd.bool 4 _ _ _ _ (rd_L4 x1_1 a2) from ge223_0)
               clear hv223_0 ge223_0
               have HX223_0 := Aside0.mk hx223_0
               clear hcc223 hce223
               have HR223_0 := Aside0.mk hi223_0
               have HC223_0 := Aside0.mk hl223_0
               clear hi223_0 hl223_0
               replace p223 := eq_true p223
               replace q223 := eq_true q223
               have p224 : 0 ≤ (a2 : Int) := of_decide_eq_true att8_0_0
               have q224 : a2 < (x1_1.length : Int) := of_decide_eq_true att8_0_0
               obtain ⟨ad224, A224_0, c224_0, e224, hx224_0, hl224_0, hi224_0⟩ := at_L4 (Kd.S_reads' HO_1.out).2.2 a2 p224 q224
               obtain rfl : ad223 = ad224 := (by injection e224)
               obtain ⟨ce224, hce224, hMe224, hcc224⟩ := Kd.S_get HO_1.out [] a2 p224 att8_1_7
               obtain ⟨ve224_0, rfl, ge224_0⟩ := hMe224
               have hv224_0 := hcc224 0 _ rfl
               rw [Nat.add_zero, show ((Kd.slice 4 Kd.bool)).sz = 1 from rfl, Nat.mul_one] at hv224_0
               replace hv224_0 := Option.some.inj (hv224_0.symm.trans hx224_0)
               rw [hv224_0] at ge224_0
               have HL224_0 := Aside0.mk (show Kd.R Kd.bool 4 _ _ _ _ (rd_L4 x1_1 a2) from ge224_0)
               clear hv224_0 ge224_0
               have HX224_0 := Aside0.mk hx224_0
               clear hcc224 hce224
               have HR224_0 := Aside0.mk hi224_0
               have HC224_0 := Aside0.mk hl224_0
               clear hi224_0 hl224_0
               replace p224 := eq_true p224
               replace q224 := eq_true q224
               have ea_ := Option.some.inj (hx223_0.symm.trans hx224_0)
               injection ea_ with ea_ en_ ec_
               subst ea_
               subst ec_
               clear en_
               have p225 : 0 ≤ (x9_1 : Int) := of_decide_eq_true att8_0_0
               have q225 : x9_1 < ((rd_L4 x1_1 a2).length : Int) := of_decide_eq_true att8_0_0
               obtain ⟨ad225, e225, hx225_0⟩ := Kd.at_bool att8_0_13 x9_1 p225 q225
               (try rw [← Nbq38.out] at hx225_0)
               cases e225
               replace p225 := eq_true p225
               replace q225 := eq_true q225
               have p46 : 0 ≤ (x9_1 : Int) := of_decide_eq_true att8_0_0
               have q46 : (x9_1 : Int) < (((rd_L4 x1_1 a2).length : Int) : Int) := of_decide_eq_true att8_0_0
               obtain ⟨go46, co46, eo46, gb46, gl46, cl46, HG46⟩ := Kd.R_form HL223_0.out (by omega)
               (first | cases eo46 | (injection eo46 with ea_ en_ ec_; (first | subst ea_ | (injection ea_ with ea_; subst ea_)); subst ec_; clear en_))
               have GB46 := Aside0.mk gb46
               have GG46 := Aside0.mk HG46
               clear gb46 gl46 HG46
               have HMgo46 := Aside0.mk (show (P1_ go46 ∨ w.heap.size ≤ go46) from (HL223_0.out.1 _ rfl).1)
               (first | simp only [add_plain] at hx225_0 | skip)
               obtain ⟨hx46_0, hf46_0⟩ := Kd.R_celln false HL223_0.out (x9_1 : Int) p46 q46
               replace p46 := eq_true p46
               replace q46 := eq_true q46
               have hq50 : (a2 : Int) < (x1_1.length : Int) := att8_1_0
               obtain ⟨oki50, ce50, hcl50, hM50, hcc50, hok50, hbk50⟩ := Kd.S_borrow HO_1.out [] (a2 : Int) (of_decide_eq_true att8_0_0) hq50
               obtain ⟨ve50_0, rfl, ge50_0⟩ := hM50
               have hv50 := hcc50 0 _ rfl
               rw [Nat.add_zero, show ((Kd.slice 4 Kd.bool)).sz = 1 from rfl, Nat.mul_one] at hv50
               replace hv50 := Option.some.inj (hv50.symm.trans HX223_0.out)
               subst hv50
               clear hcc50 hcl50
               replace ge50_0 := (show Kd.R Kd.bool 4 _ _ _ _ (rd_L4 x1_1 a2) from ge50_0)
               have HP50 := Kd.R_putg ge50_0 (x9_1 : Int) x10_2
               rw [← Ny229.out] at HP50
               have HS50 := hbk50 HP50.2 (fun k_ e_ => by injection e_ with e_; subst e_; exact ge50_0.1 _ rfl) (x' := y229) (Kd.M_row HP50.1)
               rw [← Ny231.out] at HS50
               have HQ50 := Aside0.mk HS50
               clear HP50 HS50 hbk50 hok50
               refine start_ (n := 17) (S := fun w' => w'.cell? (ad223.add (a2).toNat) = some (.slice (some ⟨go46, 0, none⟩) (rd_L4 x1_1 a2).length c223_0) ∧ w'.cell? (ad223.add (a2).toNat) = some (.slice (some ⟨go46, 0, none⟩) (rd_L4 x1_1 a2).length c223_0) ∧ w'.cell? ⟨go46, (x9_1).toNat, none⟩ = some (.bool false)) (ds := [16]) (tf_ 0 17) (by kernel_rfl) rfl rfl ⟨hx223_0, hx224_0, hx225_0⟩ (fun hHeld => ?_); refine with_tabW spec_l18Round.tab12 spec_l18Round.bits12 (fun HT_ HW_ => ?_)
               generalize wr.drew = w48 at HO_1 HO_8 HK HB GG46 HL223_0 HL224_0 HQ50 HR223_0 HR224_0 HX223_0 HX224_0 hf46_0 hx223_0 hx224_0 hx225_0 hx46_0 hHeld ⊢
               refine pureP_ (i := 0) (N := some 69) (tf_ 1 16) (any_of HT_.out (by kernel_rfl)) (h := ?_)
               refine pureP_ (i := 1) (N := some 70) (tf_ 2 15) (any_of HT_.out (by kernel_rfl)) (h := ?_)
               refine pureP_ (i := 2) (N := some 71) (tf_ 3 14) (any_of HT_.out (by kernel_rfl)) (h := ?_)
               refine pureP_ (i := 4) (N := some 73) #[true, true, true, false, true, false, false, false, false, false, false, false, false, false, false, false, false] (any_of HT_.out (by kernel_rfl)) (h := ?_)
               refine pureP_ (i := 5) (N := some 74) #[true, true, true, false, true, true, false, false, false, false, false, false, false, false, false, false, false] (any_of HT_.out (by kernel_rfl)) (h := ?_)
               refine pureP_ (i := 6) (N := some 75) #[true, true, true, false, true, true, true, false, false, false, false, false, false, false, false, false, false] (any_of HT_.out (by kernel_rfl)) (h := ?_)
               refine pureP_ (i := 7) (N := some 76) #[true, true, true, false, true, true, true, true, false, false, false, false, false, false, false, false, false] (any_of HT_.out (by kernel_rfl)) (h := ?_)
               refine pureP_ (i := 9) (N := some 78) #[true, true, true, false, true, true, true, true, false, true, false, false, false, false, false, false, false] (any_of HT_.out (by kernel_rfl)) (h := ?_)
               refine takeP_ (i := 3) (N := some 72) #[true, true, true, true, true, true, true, true, false, true, false, false, false, false, false, false, false] (take_ofW HT_.out HW_.out (by kernel_rfl)) hHeld (hy := Or.inl ⟨by rfl, att8_0_4⟩) (h := ?_)
               refine takeP_ (i := 8) (N := some 77) (tf_ 10 7) (take_ofW HT_.out HW_.out (by kernel_rfl)) hHeld (hy := Or.inl ⟨by rfl, att8_0_4⟩) (h := ?_)
               refine pureP_ (i := 10) (N := some 79) (tf_ 11 6) (any_of HT_.out (by kernel_rfl)) (h := ?_)
               refine takeP_ (i := 11) (N := some 80) (tf_ 12 5) (take_ofW HT_.out HW_.out (by kernel_rfl)) hHeld (hy := Or.inl ⟨by rfl, att8_0_4⟩) (h := ?_)
               refine pureP_ (i := 12) (N := some 81) (tf_ 13 4) (any_of HT_.out (by kernel_rfl)) (h := ?_)
               refine pureP_ (i := 13) (N := some 82) (tf_ 14 3) (any_of HT_.out (by kernel_rfl)) (h := ?_)
               refine pureP_ (i := 14) (N := some 83) (tf_ 15 2) (any_of HT_.out (by kernel_rfl)) (h := ?_)
               refine pureP_ (i := 15) (N := some 84) (tf_ 16 1) (any_of HT_.out (by kernel_rfl)) (h := ?_)
               refine last_ (i := 16) (N := none) (tf_ 17 0) rfl rfl (one_of HT_.out (by kernel_rfl)) (by decide) (fun K hK => ?_)
               refine skip_ (w1 := ?_) (by rfl) rfl ?_ ?_
               rotate_left
               ·go_simp
                rfl
               refine hK.out _ _ ?_
               clear hK K
               refine done_ (done_of HT_.out (by kernel_rfl)) ?_
               try go_wp2
               go_roundg k2
               case measure => have := HK1.out; have := HK2.out; omega
               case rel => exact ⟨(y231), (true), (wrap64 (x9_1 + 1)), att8_0_3, att8_0_3, H', ⟨att8_0_8⟩, ⟨by (with_reducible repeat (first | apply Kd.S_alloc | apply Kd.S_drewN | apply Kd.S_drew)); exact HQ50.out⟩, ⟨by (with_reducible repeat (first | apply Kd.R_alloc | apply Kd.R_drewN | apply Kd.R_drew)); exact Kd.R_mono (Kd.R_far (p := ⟨go46, (x9_1 : Int).toNat, none⟩) (Kd.R_types HO_8.out GG46.out (by decide)) (fun _ hk => hk.2) (.bool x10_2)) (fun _ hk => hk.1)⟩, ⟨by repeat (first | (with_reducible first | exact HK.out | apply Kept.alloc | apply Kept.drewN | apply Kept.drew | refine Kept.setCell ?_ HMgo46.out _) | exact HK.out)⟩, ⟨by repeat (first | (with_reducible first | exact HB.out | apply below_alloc | apply pw_below_drewN | apply below_drew1 | refine below_set ?_ GB46.out) | exact HB.out)⟩⟩
             ·rw [if_neg c37] at H
              exact absurd H (by simp)
            ·rw [if_neg c36] at H
             exact absurd H (by simp)
           ·rw [if_neg c35] at H
            exact absurd H (by simp)
          ·rw [if_neg c34] at H
           exact absurd H (by simp)
         ·replace c33 := Bool.eq_false_iff.mpr c33
          subst c33
          rw [if_neg (show ¬ (false = true) by decide)] at H
          by_cases c52 : x10_2 = true
          ·subst c52
           rw [if_pos rfl] at H
           by_cases c53 : 0 ≤ a2
           ·rw [if_pos c53] at H
            have c53b0 : decide (0 ≤ a2) = true := decide_eq_true c53
            clear c53
            by_cases c54 : a2 < (x1_1.length : Int)
            ·rw [if_pos c54] at H
             have c54b0 : decide (a2 < (x1_1.length : Int)) = true := decide_eq_true c54
             clear c54
             by_cases c55 : 0 ≤ x9_1
             ·rw [if_pos c55] at H
              have c55b0 : decide (0 ≤ x9_1) = true := decide_eq_true c55
              clear c55
              by_cases c56 : x9_1 < ((rd_L4 x1_1 a2).length : Int)
              ·rw [if_pos c56] at H
               have c56b0 : decide (x9_1 < ((rd_L4 x1_1 a2).length : Int)) = true := decide_eq_true c56
               clear c56
               obtain ⟨bq57, hbq57⟩ : ∃ b_ : Bool, b_ = (rdOf false (rd_L4 x1_1 a2) x9_1) := ⟨_, rfl⟩
               replace H : (if bq57 = true then (spec_l18Round.l0 k2 l0 (x1_1.set (a2 : Int).toNat ((rd_L4 x1_1 a2).set (x9_1 : Int).toNat true)) a2 (!(bq57)) t207 (wrap64 (x9_1 + 1))) else (spec_l18Round.l0 k2 l0 (x1_1.set (a2 : Int).toNat ((rd_L4 x1_1 a2).set (x9_1 : Int).toNat true)) a2 (!(bq57)) t207 (wrap64 (x9_1 + 1)))) = some (r1, r2) := by rw [← hbq57] at H; exact H
               have Nbq57 := Aside0.mk hbq57
               clear hbq57
               by_cases c58 : bq57 = true
               ·subst c58
                rw [if_pos rfl] at H
                obtain ⟨y237, hy237⟩ : ∃ y_ : List Bool, y_ = ((rd_L4 x1_1 a2).set (x9_1 : Int).toNat true) := ⟨_, rfl⟩
                replace H : (spec_l18Round.l0 k2 l0 (x1_1.set (a2 : Int).toNat y237) a2 (!(true)) t207 (wrap64 (x9_1 + 1))) = some (r1, r2) := by first | (rw [hy237]; with_reducible exact H) | (have H2_ := (Option.bind_some _ _).symm.trans H; rw [hy237]; with_reducible exact H2_) | (have H2_ := (Option.bind_some _ _).symm.trans H; with_reducible exact H2_) | with_reducible exact H | (rw [hy237]; exact H) | exact H
                have Ny237 := Aside0.mk hy237
                clear hy237
                obtain ⟨y239, hy239⟩ : ∃ y_ : List (List Bool), y_ = (x1_1.set (a2 : Int).toNat y237) := ⟨_, rfl⟩
                replace H : (spec_l18Round.l0 k2 l0 y239 a2 (!(true)) t207 (wrap64 (x9_1 + 1))) = some (r1, r2) := by first | (rw [hy239]; with_reducible exact H) | (have H2_ := (Option.bind_some _ _).symm.trans H; rw [hy239]; with_reducible exact H2_) | (have H2_ := (Option.bind_some _ _).symm.trans H; with_reducible exact H2_) | with_reducible exact H | (rw [hy239]; exact H) | exact H
                have Ny239 := Aside0.mk hy239
                clear hy239
                have H' := Aside0.mk H
                clear H
                obtain ⟨Ao60, co60, eo60⟩ := Kd.R_slice HO_8.out
                subst eo60
                obtain ⟨Ao61, co61, eo61⟩ := Kd.S_slice HO_1.out
                subst eo61
                have p232 : 0 ≤ (a2 : Int) := of_decide_eq_true att8_0_0
                have q232 : a2 < (x1_1.length : Int) := of_decide_eq_true att8_0_0
                obtain ⟨ad232, A232_0, c232_0, e232, hx232_0, hl232_0, hi232_0⟩ := at_L4 (Kd.S_reads' HO_1.out).2.2 a2 p232 q232
                cases e232
                obtain ⟨ce232, hce232, hMe232, hcc232⟩ := Kd.S_get HO_1.out [] a2 p232 att8_1_6
                obtain ⟨ve232_0, rfl, ge232_0⟩ := hMe232
                have hv232_0 := hcc232 0 _ rfl
                rw [Nat.add_zero, show ((Kd.slice 4 Kd.bool)).sz = 1 from rfl, Nat.mul_one] at hv232_0
                replace hv232_0 := Option.some.inj (hv232_0.symm.trans hx232_0)
                rw [hv232_0] at ge232_0
                have HL232_0 := Aside0.mk (show Kd.R Kd.bool 4 _ _ _ _ (rd_L4 x1_1 a2) from ge232_0)
                clear hv232_0 ge232_0
                have HX232_0 := Aside0.mk hx232_0
                clear hcc232 hce232
                have HR232_0 := Aside0.mk hi232_0
                have HC232_0 := Aside0.mk hl232_0
                clear hi232_0 hl232_0
                replace p232 := eq_true p232
                replace q232 := eq_true q232
                have p233 : 0 ≤ (x9_1 : Int) := of_decide_eq_true att8_0_0
                have q233 : x9_1 < ((rd_L4 x1_1 a2).length : Int) := of_decide_eq_true att8_0_0
                obtain ⟨ad233, e233, hx233_0⟩ := Kd.at_bool att8_0_12 x9_1 p233 q233
                (try rw [← Nbq57.out] at hx233_0)
                cases e233
                replace p233 := eq_true p233
                replace q233 := eq_true q233
                try go_wp2
                have n0_ := Aside0.mk (Kd.S_drew HO_1.out)
                have n1_ := Aside0.mk (Kd.R_drew HO_8.out)
                have n2_ := Aside0.mk (Kd.R_drew HL232_0.out)
                have n3_ := Aside0.mk (Kd.C_drew HR232_0.out)
                have n4_ := Aside0.mk (Kept.drew HK.out)
                have n5_ := Aside0.mk (below_drew1 HB.out)
                clear HO_1
                clear HO_8
                clear HL232_0
                clear HR232_0
                clear HK
                clear HB
                have HO_1 := n0_
                have HO_8 := n1_
                have HL232_0 := n2_
                have HR232_0 := n3_
                have HK := n4_
                have HB := n5_
                clear n0_ n1_ n2_ n3_ n4_ n5_
                have p234 : 0 ≤ (a2 : Int) := of_decide_eq_true att8_0_0
                have q234 : a2 < (x1_1.length : Int) := of_decide_eq_true att8_0_0
                obtain ⟨ad234, A234_0, c234_0, e234, hx234_0, hl234_0, hi234_0⟩ := at_L4 (Kd.S_reads' HO_1.out).2.2 a2 p234 q234
                obtain rfl : ad232 = ad234 := (by injection e234)
                obtain ⟨ce234, hce234, hMe234, hcc234⟩ := Kd.S_get HO_1.out [] a2 p234 att8_1_5
                obtain ⟨ve234_0, rfl, ge234_0⟩ := hMe234
                have hv234_0 := hcc234 0 _ rfl
                rw [Nat.add_zero, show ((Kd.slice 4 Kd.bool)).sz = 1 from rfl, Nat.mul_one] at hv234_0
                replace hv234_0 := Option.some.inj (hv234_0.symm.trans hx234_0)
                rw [hv234_0] at ge234_0
                have HL234_0 := Aside0.mk (show Kd.R Kd.bool 4 _ _ _ _ (rd_L4 x1_1 a2) from ge234_0)
                clear hv234_0 ge234_0
                have HX234_0 := Aside0.mk hx234_0
                clear hcc234 hce234
                have HR234_0 := Aside0.mk hi234_0
                have HC234_0 := Aside0.mk hl234_0
                clear hi234_0 hl234_0
                replace p234 := eq_true p234
                replace q234 := eq_true q234
                have p235 : 0 ≤ (a2 : Int) := of_decide_eq_true att8_0_0
                have q235 : a2 < (x1_1.length : Int) := of_decide_eq_true att8_0_0
                obtain ⟨ad235, A235_0, c235_0, e235, hx235_0, hl235_0, hi235_0⟩ := at_L4 (Kd.S_reads' HO_1.out).2.2 a2 p235 q235
                obtain rfl : ad232 = ad235 := (by injection e235)
                obtain ⟨ce235, hce235, hMe235, hcc235⟩ := Kd.S_get HO_1.out [] a2 p235 att8_1_4
                obtain ⟨ve235_0, rfl, ge235_0⟩ := hMe235
                have hv235_0 := hcc235 0 _ rfl
                rw [Nat.add_zero, show ((Kd.slice 4 Kd.bool)).sz = 1 from rfl, Nat.mul_one] at hv235_0
                replace hv235_0 := Option.some.inj (hv235_0.symm.trans hx235_0)
                rw [hv235_0] at ge235_0
                have HL235_0 := Aside0.mk (show Kd.R Kd.bool 4 _ _ _ _ (rd_L4 x1_1 a2) from ge235_0)
                clear hv235_0 ge235_0
                have HX235_0 := Aside0.mk hx235_0
                clear hcc235 hce235
                have HR235_0 := Aside0.mk hi235_0
                have HC235_0 := Aside0.mk hl235_0
                clear hi235_0 hl235_0
                replace p235 := eq_true p235
                replace q235 := eq_true q235
                have ea_ := Option.some.inj (hx234_0.symm.trans hx235_0)
                injection ea_ with ea_ en_ ec_
                subst ea_
                subst ec_
                clear en_
                have p236 : 0 ≤ (x9_1 : Int) := of_decide_eq_true att8_0_0
                have q236 : x9_1 < ((rd_L4 x1_1 a2).length : Int) := of_decide_eq_true att8_0_0
                obtain ⟨ad236, e236, hx236_0⟩ := Kd.at_bool att8_0_11 x9_1 p236 q236
                (try rw [← Nbq57.out] at hx236_0)
                cases e236
                replace p236 := eq_true p236
                replace q236 := eq_true q236
                have p59 : 0 ≤ (x9_1 : Int) := of_decide_eq_true att8_0_0
                have q59 : (x9_1 : Int) < (((rd_L4 x1_1 a2).length : Int) : Int) := of_decide_eq_true att8_0_0
                obtain ⟨go59, co59, eo59, gb59, gl59, cl59, HG59⟩ := Kd.R_form HL234_0.out (by omega)
                (first | cases eo59 | (injection eo59 with ea_ en_ ec_; (first | subst ea_ | (injection ea_ with ea_; subst ea_)); subst ec_; clear en_))
                have GB59 := Aside0.mk gb59
                have GG59 := Aside0.mk HG59
                clear gb59 gl59 HG59
                have HMgo59 := Aside0.mk (show (P1_ go59 ∨ w.heap.size ≤ go59) from (HL234_0.out.1 _ rfl).1)
                (first | simp only [add_plain] at hx236_0 | skip)
                obtain ⟨hx59_0, hf59_0⟩ := Kd.R_celln false HL234_0.out (x9_1 : Int) p59 q59
                replace p59 := eq_true p59
                replace q59 := eq_true q59
                have hq63 : (a2 : Int) < (x1_1.length : Int) := att8_1_0
                obtain ⟨oki63, ce63, hcl63, hM63, hcc63, hok63, hbk63⟩ := Kd.S_borrow HO_1.out [] (a2 : Int) (of_decide_eq_true att8_0_0) hq63
                obtain ⟨ve63_0, rfl, ge63_0⟩ := hM63
                have hv63 := hcc63 0 _ rfl
                rw [Nat.add_zero, show ((Kd.slice 4 Kd.bool)).sz = 1 from rfl, Nat.mul_one] at hv63
                replace hv63 := Option.some.inj (hv63.symm.trans HX234_0.out)
                subst hv63
                clear hcc63 hcl63
                replace ge63_0 := (show Kd.R Kd.bool 4 _ _ _ _ (rd_L4 x1_1 a2) from ge63_0)
                have HP63 := Kd.R_putg ge63_0 (x9_1 : Int) true
                rw [← Ny237.out] at HP63
                have HS63 := hbk63 HP63.2 (fun k_ e_ => by injection e_ with e_; subst e_; exact ge63_0.1 _ rfl) (x' := y237) (Kd.M_row HP63.1)
                rw [← Ny239.out] at HS63
                have HQ63 := Aside0.mk HS63
                clear HP63 HS63 hbk63 hok63
                refine start_ (n := 17) (S := fun w' => w'.cell? (ad232.add (a2).toNat) = some (.slice (some ⟨go59, 0, none⟩) (rd_L4 x1_1 a2).length c234_0) ∧ w'.cell? (ad232.add (a2).toNat) = some (.slice (some ⟨go59, 0, none⟩) (rd_L4 x1_1 a2).length c234_0) ∧ w'.cell? ⟨go59, (x9_1).toNat, none⟩ = some (.bool true)) (ds := [16]) (tf_ 0 17) (by kernel_rfl) rfl rfl ⟨hx234_0, hx235_0, hx236_0⟩ (fun hHeld => ?_); refine with_tabW spec_l18Round.tab12 spec_l18Round.bits12 (fun HT_ HW_ => ?_)
                generalize wr.drew = w62 at HO_1 HO_8 HL232_0 HR232_0 HK HB GG59 HL234_0 HL235_0 HQ63 HR234_0 HR235_0 HX234_0 HX235_0 hf59_0 hx234_0 hx235_0 hx236_0 hx59_0 hHeld ⊢
                refine pureP_ (i := 0) (N := some 69) (tf_ 1 16) (any_of HT_.out (by kernel_rfl)) (h := ?_)
                refine pureP_ (i := 1) (N := some 70) (tf_ 2 15) (any_of HT_.out (by kernel_rfl)) (h := ?_)
                refine pureP_ (i := 2) (N := some 71) (tf_ 3 14) (any_of HT_.out (by kernel_rfl)) (h := ?_)
                refine pureP_ (i := 4) (N := some 73) #[true, true, true, false, true, false, false, false, false, false, false, false, false, false, false, false, false] (any_of HT_.out (by kernel_rfl)) (h := ?_)
                refine pureP_ (i := 5) (N := some 74) #[true, true, true, false, true, true, false, false, false, false, false, false, false, false, false, false, false] (any_of HT_.out (by kernel_rfl)) (h := ?_)
                refine pureP_ (i := 6) (N := some 75) #[true, true, true, false, true, true, true, false, false, false, false, false, false, false, false, false, false] (any_of HT_.out (by kernel_rfl)) (h := ?_)
                refine pureP_ (i := 7) (N := some 76) #[true, true, true, false, true, true, true, true, false, false, false, false, false, false, false, false, false] (any_of HT_.out (by kernel_rfl)) (h := ?_)
                refine pureP_ (i := 9) (N := some 78) #[true, true, true, false, true, true, true, true, false, true, false, false, false, false, false, false, false] (any_of HT_.out (by kernel_rfl)) (h := ?_)
                refine takeP_ (i := 3) (N := some 72) #[true, true, true, true, true, true, true, true, false, true, false, false, false, false, false, false, false] (take_ofW HT_.out HW_.out (by kernel_rfl)) hHeld (hy := Or.inl ⟨by rfl, att8_0_4⟩) (h := ?_)
                refine takeP_ (i := 8) (N := some 77) (tf_ 10 7) (take_ofW HT_.out HW_.out (by kernel_rfl)) hHeld (hy := Or.inl ⟨by rfl, att8_0_4⟩) (h := ?_)
                refine pureP_ (i := 10) (N := some 79) (tf_ 11 6) (any_of HT_.out (by kernel_rfl)) (h := ?_)
                refine takeP_ (i := 11) (N := some 80) (tf_ 12 5) (take_ofW HT_.out HW_.out (by kernel_rfl)) hHeld (hy := Or.inl ⟨by rfl, att8_0_4⟩) (h := ?_)
                refine pureP_ (i := 12) (N := some 81) (tf_ 13 4) (any_of HT_.out (by kernel_rfl)) (h := ?_)
                refine offP_ (i := 13) (N := some 82) (tf_ 14 3) (any_of HT_.out (by kernel_rfl)) (h := ?_)
                refine pureP_ (i := 14) (N := some 83) (tf_ 15 2) (any_of HT_.out (by kernel_rfl)) (h := ?_)
                refine pureP_ (i := 15) (N := some 84) (tf_ 16 1) (any_of HT_.out (by kernel_rfl)) (h := ?_)
                refine last_ (i := 16) (N := none) (tf_ 17 0) rfl rfl (one_of HT_.out (by kernel_rfl)) (by decide) (fun K hK => ?_)
                refine skip_ (w1 := ?_) (by rfl) rfl ?_ ?_
                rotate_left
                ·go_simp
                 rfl
                refine hK.out _ _ ?_
                clear hK K
                refine done_ (done_of HT_.out (by kernel_rfl)) ?_
                try go_wp2
                go_roundg k2
                case measure => have := HK1.out; have := HK2.out; omega
                case rel => exact ⟨(y239), (!(true)), (wrap64 (x9_1 + 1)), att8_0_3, att8_0_3, H', ⟨att8_0_8⟩, ⟨by (with_reducible repeat (first | apply Kd.S_alloc | apply Kd.S_drewN | apply Kd.S_drew)); exact HQ63.out⟩, ⟨by (with_reducible repeat (first | apply Kd.R_alloc | apply Kd.R_drewN | apply Kd.R_drew)); exact Kd.R_mono (Kd.R_far (p := ⟨go59, (x9_1 : Int).toNat, none⟩) (Kd.R_types HO_8.out GG59.out (by decide)) (fun _ hk => hk.2) (.bool true)) (fun _ hk => hk.1)⟩, ⟨by repeat (first | (with_reducible first | exact HK.out | apply Kept.alloc | apply Kept.drewN | apply Kept.drew | refine Kept.setCell ?_ HMgo59.out _) | exact HK.out)⟩, ⟨by repeat (first | (with_reducible first | exact HB.out | apply below_alloc | apply pw_below_drewN | apply below_drew1 | refine below_set ?_ GB59.out) | exact HB.out)⟩⟩
               ·replace c58 := Bool.eq_false_iff.mpr c58
                subst c58
                rw [if_neg (show ¬ (false = true) by decide)] at H
                obtain ⟨y240, hy240⟩ : ∃ y_ : List Bool, y_ = ((rd_L4 x1_1 a2).set (x9_1 : Int).toNat true) := ⟨_, rfl⟩
                replace H : (spec_l18Round.l0 k2 l0 (x1_1.set (a2 : Int).toNat y240) a2 (!(false)) t207 (wrap64 (x9_1 + 1))) = some (r1, r2) := by first | (rw [hy240]; with_reducible exact H) | (have H2_ := (Option.bind_some _ _).symm.trans H; rw [hy240]; with_reducible exact H2_) | (have H2_ := (Option.bind_some _ _).symm.trans H; with_reducible exact H2_) | with_reducible exact H | (rw [hy240]; exact H) | exact H
                have Ny240 := Aside0.mk hy240
                clear hy240
                obtain ⟨y242, hy242⟩ : ∃ y_ : List (List Bool), y_ = (x1_1.set (a2 : Int).toNat y240) := ⟨_, rfl⟩
                replace H : (spec_l18Round.l0 k2 l0 y242 a2 (!(false)) t207 (wrap64 (x9_1 + 1))) = some (r1, r2) := by first | (rw [hy242]; with_reducible exact H) | (have H2_ := (Option.bind_some _ _).symm.trans H; rw [hy242]; with_reducible exact H2_) | (have H2_ := (Option.bind_some _ _).symm.trans H; with_reducible exact H2_) | with_reducible exact H | (rw [hy242]; exact H) | exact H
                have Ny242 := Aside0.mk hy242
                clear hy242
                have H' := Aside0.mk H
                clear H
                obtain ⟨Ao66, co66, eo66⟩ := Kd.R_slice HO_8.out
                subst eo66
                obtain ⟨Ao67, co67, eo67⟩ := Kd.S_slice HO_1.out
                subst eo67
                have p232 : 0 ≤ (a2 : Int) := of_decide_eq_true att8_0_0
                have q232 : a2 < (x1_1.length : Int) := of_decide_eq_true att8_0_0
                obtain ⟨ad232, A232_0, c232_0, e232, hx232_0, hl232_0, hi232_0⟩ := at_L4 (Kd.S_reads' HO_1.out).2.2 a2 p232 q232
                cases e232
                obtain ⟨ce232, hce232, hMe232, hcc232⟩ := Kd.S_get HO_1.out [] a2 p232 att8_1_6
                obtain ⟨ve232_0, rfl, ge232_0⟩ := hMe232
                have hv232_0 := hcc232 0 _ rfl
                rw [Nat.add_zero, show ((Kd.slice 4 Kd.bool)).sz = 1 from rfl, Nat.mul_one] at hv232_0
                replace hv232_0 := Option.some.inj (hv232_0.symm.trans hx232_0)
                rw [hv232_0] at ge232_0
                have HL232_0 := Aside0.mk (show Kd.R Kd.bool 4 _ _ _ _ (rd_L4 x1_1 a2) from ge232_0)
                clear hv232_0 ge232_0
                have HX232_0 := Aside0.mk hx232_0
                clear hcc232 hce232
                have HR232_0 := Aside0.mk hi232_0
                have HC232_0 := Aside0.mk hl232_0
                clear hi232_0 hl232_0
                replace p232 := eq_true p232
                replace q232 := eq_true q232
                have p233 : 0 ≤ (x9_1 : Int) := of_decide_eq_true att8_0_0
                have q233 : x9_1 < ((rd_L4 x1_1 a2).length : Int) := of_decide_eq_true att8_0_0
                obtain ⟨ad233, e233, hx233_0⟩ := Kd.at_bool att8_0_12 x9_1 p233 q233
                (try rw [← Nbq57.out] at hx233_0)
                cases e233
                replace p233 := eq_true p233
                replace q233 := eq_true q233
                try go_wp2
                have n0_ := Aside0.mk (Kd.S_drew HO_1.out)
                have n1_ := Aside0.mk (Kd.R_drew HO_8.out)
                have n2_ := Aside0.mk (Kd.R_drew HL232_0.out)
                have n3_ := Aside0.mk (Kd.C_drew HR232_0.out)
                have n4_ := Aside0.mk (Kept.drew HK.out)
                have n5_ := Aside0.mk (below_drew1 HB.out)
                clear HO_1
                clear HO_8
                clear HL232_0
                clear HR232_0
                clear HK
                clear HB
                have HO_1 := n0_
                have HO_8 := n1_
                have HL232_0 := n2_
                have HR232_0 := n3_
                have HK := n4_
                have HB := n5_
                clear n0_ n1_ n2_ n3_ n4_ n5_
                have p234 : 0 ≤ (a2 : Int) := of_decide_eq_true att8_0_0
                have q234 : a2 < (x1_1.length : Int) := of_decide_eq_true att8_0_0
                obtain ⟨ad234, A234_0, c234_0, e234, hx234_0, hl234_0, hi234_0⟩ := at_L4 (Kd.S_reads' HO_1.out).2.2 a2 p234 q234
                obtain rfl : ad232 = ad234 := (by injection e234)
                obtain ⟨ce234, hce234, hMe234, hcc234⟩ := Kd.S_get HO_1.out [] a2 p234 att8_1_5
                obtain ⟨ve234_0, rfl, ge234_0⟩ := hMe234
                have hv234_0 := hcc234 0 _ rfl
                rw [Nat.add_zero, show ((Kd.slice 4 Kd.bool)).sz = 1 from rfl, Nat.mul_one] at hv234_0
                replace hv234_0 := Option.some.inj (hv234_0.symm.trans hx234_0)
                rw [hv234_0] at ge234_0
                have HL234_0 := Aside0.mk (show Kd.R Kd.bool 4 _ _ _ _ (rd_L4 x1_1 a2) from ge234_0)
                clear hv234_0 ge234_0
                have HX234_0 := Aside0.mk hx234_0
                clear hcc234 hce234
                have HR234_0 := Aside0.mk hi234_0
                have HC234_0 := Aside0.mk hl234_0
                clear hi234_0 hl234_0
                replace p234 := eq_true p234
                replace q234 := eq_true q234
                have p235 : 0 ≤ (a2 : Int) := of_decide_eq_true att8_0_0
                have q235 : a2 < (x1_1.length : Int) := of_decide_eq_true att8_0_0
                obtain ⟨ad235, A235_0, c235_0, e235, hx235_0, hl235_0, hi235_0⟩ := at_L4 (Kd.S_reads' HO_1.out).2.2 a2 p235 q235
                obtain rfl : ad232 = ad235 := (by injection e235)
                obtain ⟨ce235, hce235, hMe235, hcc235⟩ := Kd.S_get HO_1.out [] a2 p235 att8_1_4
                obtain ⟨ve235_0, rfl, ge235_0⟩ := hMe235
                have hv235_0 := hcc235 0 _ rfl
                rw [Nat.add_zero, show ((Kd.slice 4 Kd.bool)).sz = 1 from rfl, Nat.mul_one] at hv235_0
                replace hv235_0 := Option.some.inj (hv235_0.symm.trans hx235_0)
                rw [hv235_0] at ge235_0
                have HL235_0 := Aside0.mk (show Kd.R Kd.bool 4 _ _ _ _ (rd_L4 x1_1 a2) from ge235_0)
                clear hv235_0 ge235_0
                have HX235_0 := Aside0.mk hx235_0
                clear hcc235 hce235
                have HR235_0 := Aside0.mk hi235_0
                have HC235_0 := Aside0.mk hl235_0
                clear hi235_0 hl235_0
                replace p235 := eq_true p235
                replace q235 := eq_true q235
                have ea_ := Option.some.inj (hx234_0.symm.trans hx235_0)
                injection ea_ with ea_ en_ ec_
                subst ea_
                subst ec_
                clear en_
                have p236 : 0 ≤ (x9_1 : Int) := of_decide_eq_true att8_0_0
                have q236 : x9_1 < ((rd_L4 x1_1 a2).length : Int) := of_decide_eq_true att8_0_0
                obtain ⟨ad236, e236, hx236_0⟩ := Kd.at_bool att8_0_11 x9_1 p236 q236
                (try rw [← Nbq57.out] at hx236_0)
                cases e236
                replace p236 := eq_true p236
                replace q236 := eq_true q236
                have p65 : 0 ≤ (x9_1 : Int) := of_decide_eq_true att8_0_0
                have q65 : (x9_1 : Int) < (((rd_L4 x1_1 a2).length : Int) : Int) := of_decide_eq_true att8_0_0
                obtain ⟨go65, co65, eo65, gb65, gl65, cl65, HG65⟩ := Kd.R_form HL234_0.out (by omega)
                (first | cases eo65 | (injection eo65 with ea_ en_ ec_; (first | subst ea_ | (injection ea_ with ea_; subst ea_)); subst ec_; clear en_))
                have GB65 := Aside0.mk gb65
                have GG65 := Aside0.mk HG65
                clear gb65 gl65 HG65
                have HMgo65 := Aside0.mk (show (P1_ go65 ∨ w.heap.size ≤ go65) from (HL234_0.out.1 _ rfl).1)
                (first | simp only [add_plain] at hx236_0 | skip)
                obtain ⟨hx65_0, hf65_0⟩ := Kd.R_celln false HL234_0.out (x9_1 : Int) p65 q65
                replace p65 := eq_true p65
                replace q65 := eq_true q65
                have hq69 : (a2 : Int) < (x1_1.length : Int) := att8_1_0
                obtain ⟨oki69, ce69, hcl69, hM69, hcc69, hok69, hbk69⟩ := Kd.S_borrow HO_1.out [] (a2 : Int) (of_decide_eq_true att8_0_0) hq69
                obtain ⟨ve69_0, rfl, ge69_0⟩ := hM69
                have hv69 := hcc69 0 _ rfl
                rw [Nat.add_zero, show ((Kd.slice 4 Kd.bool)).sz = 1 from rfl, Nat.mul_one] at hv69
                replace hv69 := Option.some.inj (hv69.symm.trans HX234_0.out)
                subst hv69
                clear hcc69 hcl69
                replace ge69_0 := (show Kd.R Kd.bool 4 _ _ _ _ (rd_L4 x1_1 a2) from ge69_0)
                have HP69 := Kd.R_putg ge69_0 (x9_1 : Int) true
                rw [← Ny240.out] at HP69
                have HS69 := hbk69 HP69.2 (fun k_ e_ => by injection e_ with e_; subst e_; exact ge69_0.1 _ rfl) (x' := y240) (Kd.M_row HP69.1)
                rw [← Ny242.out] at HS69
                have HQ69 := Aside0.mk HS69
                clear HP69 HS69 hbk69 hok69
                refine start_ (n := 17) (S := fun w' => w'.cell? (ad232.add (a2).toNat) = some (.slice (some ⟨go65, 0, none⟩) (rd_L4 x1_1 a2).length c234_0) ∧ w'.cell? (ad232.add (a2).toNat) = some (.slice (some ⟨go65, 0, none⟩) (rd_L4 x1_1 a2).length c234_0) ∧ w'.cell? ⟨go65, (x9_1).toNat, none⟩ = some (.bool false)) (ds := [16]) (tf_ 0 17) (by kernel_rfl) rfl rfl ⟨hx234_0, hx235_0, hx236_0⟩ (fun hHeld => ?_); refine with_tabW spec_l18Round.tab12 spec_l18Round.bits12 (fun HT_ HW_ => ?_)
                generalize wr.drew = w68 at HO_1 HO_8 HL232_0 HR232_0 HK HB GG65 HL234_0 HL235_0 HQ69 HR234_0 HR235_0 HX234_0 HX235_0 hf65_0 hx234_0 hx235_0 hx236_0 hx65_0 hHeld ⊢
                refine pureP_ (i := 0) (N := some 69) (tf_ 1 16) (any_of HT_.out (by kernel_rfl)) (h := ?_)
                refine pureP_ (i := 1) (N := some 70) (tf_ 2 15) (any_of HT_.out (by kernel_rfl)) (h := ?_)
                refine pureP_ (i := 2) (N := some 71) (tf_ 3 14) (any_of HT_.out (by kernel_rfl)) (h := ?_)
                refine pureP_ (i := 4) (N := some 73) #[true, true, true, false, true, false, false, false, false, false, false, false, false, false, false, false, false] (any_of HT_.out (by kernel_rfl)) (h := ?_)
                refine pureP_ (i := 5) (N := some 74) #[true, true, true, false, true, true, false, false, false, false, false, false, false, false, false, false, false] (any_of HT_.out (by kernel_rfl)) (h := ?_)
                refine pureP_ (i := 6) (N := some 75) #[true, true, true, false, true, true, true, false, false, false, false, false, false, false, false, false, false] (any_of HT_.out (by kernel_rfl)) (h := ?_)
                refine pureP_ (i := 7) (N := some 76) #[true, true, true, false, true, true, true, true, false, false, false, false, false, false, false, false, false] (any_of HT_.out (by kernel_rfl)) (h := ?_)
                refine pureP_ (i := 9) (N := some 78) #[true, true, true, false, true, true, true, true, false, true, false, false, false, false, false, false, false] (any_of HT_.out (by kernel_rfl)) (h := ?_)
                refine takeP_ (i := 3) (N := some 72) #[true, true, true, true, true, true, true, true, false, true, false, false, false, false, false, false, false] (take_ofW HT_.out HW_.out (by kernel_rfl)) hHeld (hy := Or.inl ⟨by rfl, att8_0_4⟩) (h := ?_)
                refine takeP_ (i := 8) (N := some 77) (tf_ 10 7) (take_ofW HT_.out HW_.out (by kernel_rfl)) hHeld (hy := Or.inl ⟨by rfl, att8_0_4⟩) (h := ?_)
                refine pureP_ (i := 10) (N := some 79) (tf_ 11 6) (any_of HT_.out (by kernel_rfl)) (h := ?_)
                refine takeP_ (i := 11) (N := some 80) (tf_ 12 5) (take_ofW HT_.out HW_.out (by kernel_rfl)) hHeld (hy := Or.inl ⟨by rfl, att8_0_4⟩) (h := ?_)
                refine pureP_ (i := 12) (N := some 81) (tf_ 13 4) (any_of HT_.out (by kernel_rfl)) (h := ?_)
                refine pureP_ (i := 13) (N := some 82) (tf_ 14 3) (any_of HT_.out (by kernel_rfl)) (h := ?_)
                refine pureP_ (i := 14) (N := some 83) (tf_ 15 2) (any_of HT_.out (by kernel_rfl)) (h := ?_)
                refine pureP_ (i := 15) (N := some 84) (tf_ 16 1) (any_of HT_.out (by kernel_rfl)) (h := ?_)
                refine last_ (i := 16) (N := none) (tf_ 17 0) rfl rfl (one_of HT_.out (by kernel_rfl)) (by decide) (fun K hK => ?_)
                refine skip_ (w1 := ?_) (by rfl) rfl ?_ ?_
                rotate_left
                ·go_simp
                 rfl
                refine hK.out _ _ ?_
                clear hK K
                refine done_ (done_of HT_.out (by kernel_rfl)) ?_
                try go_wp2
                go_roundg k2
                case measure => have := HK1.out; have := HK2.out; omega
                case rel => exact ⟨(y242), (!(false)), (wrap64 (x9_1 + 1)), att8_0_3, att8_0_3, H', ⟨att8_0_8⟩, ⟨by (with_reducible repeat (first | apply Kd.S_alloc | apply Kd.S_drewN | apply Kd.S_drew)); exact HQ69.out⟩, ⟨by (with_reducible repeat (first | apply Kd.R_alloc | apply Kd.R_drewN | apply Kd.R_drew)); exact Kd.R_mono (Kd.R_far (p := ⟨go65, (x9_1 : Int).toNat, none⟩) (Kd.R_types HO_8.out GG65.out (by decide)) (fun _ hk => hk.2) (.bool true)) (fun _ hk => hk.1)⟩, ⟨by repeat (first | (with_reducible first | exact HK.out | apply Kept.alloc | apply Kept.drewN | apply Kept.drew | refine Kept.setCell ?_ HMgo65.out _) | exact HK.out)⟩, ⟨by repeat (first | (with_reducible first | exact HB.out | apply below_alloc | apply pw_below_drewN | apply below_drew1 | refine below_set ?_ GB65.out) | exact HB.out)⟩⟩
              ·rw [if_neg c56] at H
               exact absurd H (by simp)
             ·rw [if_neg c55] at H
              exact absurd H (by simp)
            ·rw [if_neg c54] at H
             exact absurd H (by simp)
           ·rw [if_neg c53] at H
            exact absurd H (by simp)
          ·replace c52 := Bool.eq_false_iff.mpr c52
           subst c52
           rw [if_neg (show ¬ (false = true) by decide)] at H
           by_cases c71 : 0 ≤ a2
           ·rw [if_pos c71] at H
            have c71b0 : decide (0 ≤ a2) = true := decide_eq_true c71
            clear c71
            by_cases c72 : a2 < (x1_1.length : Int)
            ·rw [if_pos c72] at H
             have c72b0 : decide (a2 < (x1_1.length : Int)) = true := decide_eq_true c72
             clear c72
             by_cases c73 : 0 ≤ x9_1
             ·rw [if_pos c73] at H
              have c73b0 : decide (0 ≤ x9_1) = true := decide_eq_true c73
              clear c73
              by_cases c74 : x9_1 < ((rd_L4 x1_1 a2).length : Int)
              ·rw [if_pos c74] at H
               have c74b0 : decide (x9_1 < ((rd_L4 x1_1 a2).length : Int)) = true := decide_eq_true c74
               clear c74
               obtain ⟨bq75, hbq75⟩ : ∃ b_ : Bool, b_ = (rdOf false (rd_L4 x1_1 a2) x9_1) := ⟨_, rfl⟩
               replace H : (if bq75 = true then (spec_l18Round.l0 k2 l0 (x1_1.set (a2 : Int).toNat ((rd_L4 x1_1 a2).set (x9_1 : Int).toNat true)) a2 false t207 (wrap64 (x9_1 + 1))) else (spec_l18Round.l0 k2 l0 (x1_1.set (a2 : Int).toNat ((rd_L4 x1_1 a2).set (x9_1 : Int).toNat false)) a2 false t207 (wrap64 (x9_1 + 1)))) = some (r1, r2) := by rw [← hbq75] at H; exact H
               have Nbq75 := Aside0.mk hbq75
               clear hbq75
               by_cases c76 : bq75 = true
               ·subst c76
                rw [if_pos rfl] at H
                obtain ⟨y246, hy246⟩ : ∃ y_ : List Bool, y_ = ((rd_L4 x1_1 a2).set (x9_1 : Int).toNat true) := ⟨_, rfl⟩
                replace H : (spec_l18Round.l0 k2 l0 (x1_1.set (a2 : Int).toNat y246) a2 false t207 (wrap64 (x9_1 + 1))) = some (r1, r2) := by first | (rw [hy246]; with_reducible exact H) | (have H2_ := (Option.bind_some _ _).symm.trans H; rw [hy246]; with_reducible exact H2_) | (have H2_ := (Option.bind_some _ _).symm.trans H; with_reducible exact H2_) | with_reducible exact H | (rw [hy246]; exact H) | exact H
                have Ny246 := Aside0.mk hy246
                clear hy246
                obtain ⟨y248, hy248⟩ : ∃ y_ : List (List Bool), y_ = (x1_1.set (a2 : Int).toNat y246) := ⟨_, rfl⟩
                replace H : (spec_l18Round.l0 k2 l0 y248 a2 false t207 (wrap64 (x9_1 + 1))) = some (r1, r2) := by first | (rw [hy248]; with_reducible exact H) | (have H2_ := (Option.bind_some _ _).symm.trans H; rw [hy248]; with_reducible exact H2_) | (have H2_ := (Option.bind_some _ _).symm.trans H; with_reducible exact H2_) | with_reducible exact H | (rw [hy248]; exact H) | exact H
                have Ny248 := Aside0.mk hy248
                clear hy248
                have H' := Aside0.mk H
                clear H
                obtain ⟨Ao78, co78, eo78⟩ := Kd.R_slice HO_8.out
                subst eo78
                try go_wp2
                have n0_ := Aside0.mk (Kd.S_drew HO_1.out)
                have n1_ := Aside0.mk (Kd.R_drew HO_8.out)
                have n2_ := Aside0.mk (Kept.drew HK.out)
                have n3_ := Aside0.mk (below_drew1 HB.out)
                clear HO_1
                clear HO_8
                clear HK
                clear HB
                have HO_1 := n0_
                have HO_8 := n1_
                have HK := n2_
                have HB := n3_
                clear n0_ n1_ n2_ n3_
                obtain ⟨Ao80, co80, eo80⟩ := Kd.S_slice HO_1.out
                (first | subst eo80 | (injection eo80 with f1_ f2_ f3_; have f4_ := f1_.symm; have f5_ := f3_.symm; clear f1_ f2_ f3_; subst f4_; subst f5_))
                have p243 : 0 ≤ (a2 : Int) := of_decide_eq_true att8_0_0
                have q243 : a2 < (x1_1.length : Int) := of_decide_eq_true att8_0_0
                obtain ⟨ad243, A243_0, c243_0, e243, hx243_0, hl243_0, hi243_0⟩ := at_L4 (Kd.S_reads' HO_1.out).2.2 a2 p243 q243
                cases e243
                obtain ⟨ce243, hce243, hMe243, hcc243⟩ := Kd.S_get HO_1.out [] a2 p243 att8_1_3
                obtain ⟨ve243_0, rfl, ge243_0⟩ := hMe243
                have hv243_0 := hcc243 0 _ rfl
                rw [Nat.add_zero, show ((Kd.slice 4 Kd.bool)).sz = 1 from rfl, Nat.mul_one] at hv243_0
                replace hv243_0 := Option.some.inj (hv243_0.symm.trans hx243_0)
                rw [hv243_0] at ge243_0
                have HL243_0 := Aside0.mk (show Kd.R Kd.bool 4 _ _ _ _ (rd_L4 x1_1 a2) from ge243_0)
                clear hv243_0 ge243_0
                have HX243_0 := Aside0.mk hx243_0
                clear hcc243 hce243
                have HR243_0 := Aside0.mk hi243_0
                have HC243_0 := Aside0.mk hl243_0
                clear hi243_0 hl243_0
                replace p243 := eq_true p243
                replace q243 := eq_true q243
                have p244 : 0 ≤ (a2 : Int) := of_decide_eq_true att8_0_0
                have q244 : a2 < (x1_1.length : Int) := of_decide_eq_true att8_0_0
                obtain ⟨ad244, A244_0, c244_0, e244, hx244_0, hl244_0, hi244_0⟩ := at_L4 (Kd.S_reads' HO_1.out).2.2 a2 p244 q244
                obtain rfl : ad243 = ad244 := (by injection e244)
                obtain ⟨ce244, hce244, hMe244, hcc244⟩ := Kd.S_get HO_1.out [] a2 p244 att8_1_2
                obtain ⟨ve244_0, rfl, ge244_0⟩ := hMe244
                have hv244_0 := hcc244 0 _ rfl
                rw [Nat.add_zero, show ((Kd.slice 4 Kd.bool)).sz = 1 from rfl, Nat.mul_one] at hv244_0
                replace hv244_0 := Option.some.inj (hv244_0.symm.trans hx244_0)
                rw [hv244_0] at ge244_0
                have HL244_0 := Aside0.mk (show Kd.R Kd.bool 4 _ _ _ _ (rd_L4 x1_1 a2) from ge244_0)
                clear hv244_0 ge244_0
                have HX244_0 := Aside0.mk hx244_0
                clear hcc244 hce244
                have HR244_0 := Aside0.mk hi244_0
                have HC244_0 := Aside0.mk hl244_0
                clear hi244_0 hl244_0
                replace p244 := eq_true p244
                replace q244 := eq_true q244
                have ea_ := Option.some.inj (hx243_0.symm.trans hx244_0)
                injection ea_ with ea_ en_ ec_
                subst ea_
                subst ec_
                clear en_
                have p245 : 0 ≤ (x9_1 : Int) := of_decide_eq_true att8_0_0
                have q245 : x9_1 < ((rd_L4 x1_1 a2).length : Int) := of_decide_eq_true att8_0_0
                obtain ⟨ad245, e245, hx245_0⟩ := Kd.at_bool att8_0_10 x9_1 p245 q245
                (try rw [← Nbq75.out] at hx245_0)
                cases e245
                replace p245 := eq_true p245
                replace q245 := eq_true q245
                have p77 : 0 ≤ (x9_1 : Int) := of_decide_eq_true att8_0_0
                have q77 : (x9_1 : Int) < (((rd_L4 x1_1 a2).length : Int) : Int) := of_decide_eq_true att8_0_0
                obtain ⟨go77, co77, eo77, gb77, gl77, cl77, HG77⟩ := Kd.R_form HL243_0.out (by omega)
                (first | cases eo77 | (injection eo77 with ea_ en_ ec_; (first | subst ea_ | (injection ea_ with ea_; subst ea_)); subst ec_; clear en_))
                have GB77 := Aside0.mk gb77
                have GG77 := Aside0.mk HG77
                clear gb77 gl77 HG77
                have HMgo77 := Aside0.mk (show (P1_ go77 ∨ w.heap.size ≤ go77) from (HL243_0.out.1 _ rfl).1)
                (first | simp only [add_plain] at hx245_0 | skip)
                obtain ⟨hx77_0, hf77_0⟩ := Kd.R_celln false HL243_0.out (x9_1 : Int) p77 q77
                replace p77 := eq_true p77
                replace q77 := eq_true q77
                have hq81 : (a2 : Int) < (x1_1.length : Int) := att8_1_0
                obtain ⟨oki81, ce81, hcl81, hM81, hcc81, hok81, hbk81⟩ := Kd.S_borrow HO_1.out [] (a2 : Int) (of_decide_eq_true att8_0_0) hq81
                obtain ⟨ve81_0, rfl, ge81_0⟩ := hM81
                have hv81 := hcc81 0 _ rfl
                rw [Nat.add_zero, show ((Kd.slice 4 Kd.bool)).sz = 1 from rfl, Nat.mul_one] at hv81
                replace hv81 := Option.some.inj (hv81.symm.trans HX243_0.out)
                subst hv81
                clear hcc81 hcl81
                replace ge81_0 := (show Kd.R Kd.bool 4 _ _ _ _ (rd_L4 x1_1 a2) from ge81_0)
                have HP81 := Kd.R_putg ge81_0 (x9_1 : Int) true
                rw [← Ny246.out] at HP81
                have HS81 := hbk81 HP81.2 (fun k_ e_ => by injection e_ with e_; subst e_; exact ge81_0.1 _ rfl) (x' := y246) (Kd.M_row HP81.1)
                rw [← Ny248.out] at HS81
                have HQ81 := Aside0.mk HS81
                clear HP81 HS81 hbk81 hok81
                refine start_ (n := 17) (S := fun w' => w'.cell? (ad243.add (a2).toNat) = some (.slice (some ⟨go77, 0, none⟩) (rd_L4 x1_1 a2).length c243_0) ∧ w'.cell? (ad243.add (a2).toNat) = some (.slice (some ⟨go77, 0, none⟩) (rd_L4 x1_1 a2).length c243_0) ∧ w'.cell? ⟨go77, (x9_1).toNat, none⟩ = some (.bool true)) (ds := [16]) (tf_ 0 17) (by kernel_rfl) rfl rfl ⟨hx243_0, hx244_0, hx245_0⟩ (fun hHeld => ?_); refine with_tabW spec_l18Round.tab12 spec_l18Round.bits12 (fun HT_ HW_ => ?_)
                generalize wr.drew = w79 at HO_1 HO_8 HK HB GG77 HL243_0 HL244_0 HQ81 HR243_0 HR244_0 HX243_0 HX244_0 hf77_0 hx243_0 hx244_0 hx245_0 hx77_0 hHeld ⊢
                refine pureP_ (i := 0) (N := some 69) (tf_ 1 16) (any_of HT_.out (by kernel_rfl)) (h := ?_)
                refine pureP_ (i := 1) (N := some 70) (tf_ 2 15) (any_of HT_.out (by kernel_rfl)) (h := ?_)
                refine pureP_ (i := 2) (N := some 71) (tf_ 3 14) (any_of HT_.out (by kernel_rfl)) (h := ?_)
                refine pureP_ (i := 4) (N := some 73) #[true, true, true, false, true, false, false, false, false, false, false, false, false, false, false, false, false] (any_of HT_.out (by kernel_rfl)) (h := ?_)
                refine pureP_ (i := 5) (N := some 74) #[true, true, true, false, true, true, false, false, false, false, false, false, false, false, false, false, false] (any_of HT_.out (by kernel_rfl)) (h := ?_)
                refine pureP_ (i := 6) (N := some 75) #[true, true, true, false, true, true, true, false, false, false, false, false, false, false, false, false, false] (any_of HT_.out (by kernel_rfl)) (h := ?_)
                refine pureP_ (i := 7) (N := some 76) #[true, true, true, false, true, true, true, true, false, false, false, false, false, false, false, false, false] (any_of HT_.out (by kernel_rfl)) (h := ?_)
                refine pureP_ (i := 9) (N := some 78) #[true, true, true, false, true, true, true, true, false, true, false, false, false, false, false, false, false] (any_of HT_.out (by kernel_rfl)) (h := ?_)
                refine takeP_ (i := 3) (N := some 72) #[true, true, true, true, true, true, true, true, false, true, false, false, false, false, false, false, false] (take_ofW HT_.out HW_.out (by kernel_rfl)) hHeld (hy := Or.inl ⟨by rfl, att8_0_4⟩) (h := ?_)
                refine takeP_ (i := 8) (N := some 77) (tf_ 10 7) (take_ofW HT_.out HW_.out (by kernel_rfl)) hHeld (hy := Or.inl ⟨by rfl, att8_0_4⟩) (h := ?_)
                refine pureP_ (i := 10) (N := some 79) (tf_ 11 6) (any_of HT_.out (by kernel_rfl)) (h := ?_)
                refine takeP_ (i := 11) (N := some 80) (tf_ 12 5) (take_ofW HT_.out HW_.out (by kernel_rfl)) hHeld (hy := Or.inl ⟨by rfl, att8_0_4⟩) (h := ?_)
                refine pureP_ (i := 12) (N := some 81) (tf_ 13 4) (any_of HT_.out (by kernel_rfl)) (h := ?_)
                refine offP_ (i := 13) (N := some 82) (tf_ 14 3) (any_of HT_.out (by kernel_rfl)) (h := ?_)
                refine pureP_ (i := 14) (N := some 83) (tf_ 15 2) (any_of HT_.out (by kernel_rfl)) (h := ?_)
                refine pureP_ (i := 15) (N := some 84) (tf_ 16 1) (any_of HT_.out (by kernel_rfl)) (h := ?_)
                refine last_ (i := 16) (N := none) (tf_ 17 0) rfl rfl (one_of HT_.out (by kernel_rfl)) (by decide) (fun K hK => ?_)
                refine skip_ (w1 := ?_) (by rfl) rfl ?_ ?_
                rotate_left
                ·go_simp
                 rfl
                refine hK.out _ _ ?_
                clear hK K
                refine done_ (done_of HT_.out (by kernel_rfl)) ?_
                try go_wp2
                go_roundg k2
                case measure => have := HK1.out; have := HK2.out; omega
                case rel => exact ⟨(y248), (false), (wrap64 (x9_1 + 1)), att8_0_3, att8_0_3, H', ⟨att8_0_8⟩, ⟨by (with_reducible repeat (first | apply Kd.S_alloc | apply Kd.S_drewN | apply Kd.S_drew)); exact HQ81.out⟩, ⟨by (with_reducible repeat (first | apply Kd.R_alloc | apply Kd.R_drewN | apply Kd.R_drew)); exact Kd.R_mono (Kd.R_far (p := ⟨go77, (x9_1 : Int).toNat, none⟩) (Kd.R_types HO_8.out GG77.out (by decide)) (fun _ hk => hk.2) (.bool true)) (fun _ hk => hk.1)⟩, ⟨by repeat (first | (with_reducible first | exact HK.out | apply Kept.alloc | apply Kept.drewN | apply Kept.drew | refine Kept.setCell ?_ HMgo77.out _) | exact HK.out)⟩, ⟨by repeat (first | (with_reducible first | exact HB.out | apply below_alloc | apply pw_below_drewN | apply below_drew1 | refine below_set ?_ GB77.out) | exact HB.out)⟩⟩
               ·replace c76 := Bool.eq_false_iff.mpr c76
                subst c76
                rw [if_neg (show ¬ (false = true) by decide)] at H
                obtain ⟨y249, hy249⟩ : ∃ y_ : List Bool, y_ = ((rd_L4 x1_1 a2).set (x9_1 : Int).toNat false) := ⟨_, rfl⟩
                replace H : (spec_l18Round.l0 k2 l0 (x1_1.set (a2 : Int).toNat y249) a2 false t207 (wrap64 (x9_1 + 1))) = some (r1, r2) := by first | (rw [hy249]; with_reducible exact H) | (have H2_ := (Option.bind_some _ _).symm.trans H; rw [hy249]; with_reducible exact H2_) | (have H2_ := (Option.bind_some _ _).symm.trans H; with_reducible exact H2_) | with_reducible exact H | (rw [hy249]; exact H) | exact H
                have Ny249 := Aside0.mk hy249
                clear hy249
                obtain ⟨y251, hy251⟩ : ∃ y_ : List (List Bool), y_ = (x1_1.set (a2 : Int).toNat y249) := ⟨_, rfl⟩
                replace H : (spec_l18Round.l0 k2 l0 y251 a2 false t207 (wrap64 (x9_1 + 1))) = some (r1, r2) := by first | (rw [hy251]; with_reducible exact H) | (have H2_ := (Option.bind_some _ _).symm.trans H; rw [hy251]; with_reducible exact H2_) | (have H2_ := (Option.bind_some _ _).symm.trans H; with_reducible exact H2_) | with_reducible exact H | (rw [hy251]; exact H) | exact H
                have Ny251 := Aside0.mk hy251
                clear hy251
                have H' := Aside0.mk H
                clear H
                obtain ⟨Ao84, co84, eo84⟩ := Kd.R_slice HO_8.out
                subst eo84
                try go_wp2
                have n0_ := Aside0.mk (Kd.S_drew HO_1.out)
                have n1_ := Aside0.mk (Kd.R_drew HO_8.out)
                have n2_ := Aside0.mk (Kept.drew HK.out)
                have n3_ := Aside0.mk (below_drew1 HB.out)
                clear HO_1
                clear HO_8
                clear HK
                clear HB
                have HO_1 := n0_
                have HO_8 := n1_
                have HK := n2_
                have HB := n3_
                clear n0_ n1_ n2_ n3_
                obtain ⟨Ao86, co86, eo86⟩ := Kd.S_slice HO_1.out
                (first | subst eo86 | (injection eo86 with f1_ f2_ f3_; have f4_ := f1_.symm; have f5_ := f3_.symm; clear f1_ f2_ f3_; subst f4_; subst f5_))
                have p243 : 0 ≤ (a2 : Int) := of_decide_eq_true att8_0_0
                have q243 : a2 < (x1_1.length : Int) := of_decide_eq_true att8_0_0
                obtain ⟨ad243, A243_0, c243_0, e243, hx243_0, hl243_0, hi243_0⟩ := at_L4 (Kd.S_reads' HO_1.out).2.2 a2 p243 q243
                cases e243
                obtain ⟨ce243, hce243, hMe243, hcc243⟩ := Kd.S_get HO_1.out [] a2 p243 att8_1_3
                obtain ⟨ve243_0, rfl, ge243_0⟩ := hMe243
                have hv243_0 := hcc243 0 _ rfl
                rw [Nat.add_zero, show ((Kd.slice 4 Kd.bool)).sz = 1 from rfl, Nat.mul_one] at hv243_0
                replace hv243_0 := Option.some.inj (hv243_0.symm.trans hx243_0)
                rw [hv243_0] at ge243_0
                have HL243_0 := Aside0.mk (show Kd.R Kd.bool 4 _ _ _ _ (rd_L4 x1_1 a2) from ge243_0)
                clear hv243_0 ge243_0
                have HX243_0 := Aside0.mk hx243_0
                clear hcc243 hce243
                have HR243_0 := Aside0.mk hi243_0
                have HC243_0 := Aside0.mk hl243_0
                clear hi243_0 hl243_0
                replace p243 := eq_true p243
                replace q243 := eq_true q243
                have p244 : 0 ≤ (a2 : Int) := of_decide_eq_true att8_0_0
                have q244 : a2 < (x1_1.length : Int) := of_decide_eq_true att8_0_0
                obtain ⟨ad244, A244_0, c244_0, e244, hx244_0, hl244_0, hi244_0⟩ := at_L4 (Kd.S_reads' HO_1.out).2.2 a2 p244 q244
                obtain rfl : ad243 = ad244 := (by injection e244)
                obtain ⟨ce244, hce244, hMe244, hcc244⟩ := Kd.S_get HO_1.out [] a2 p244 att8_1_2
                obtain ⟨ve244_0, rfl, ge244_0⟩ := hMe244
                have hv244_0 := hcc244 0 _ rfl
                rw [Nat.add_zero, show ((Kd.slice 4 Kd.bool)).sz = 1 from rfl, Nat.mul_one] at hv244_0
                replace hv244_0 := Option.some.inj (hv244_0.symm.trans hx244_0)
                rw [hv244_0] at ge244_0
                have HL244_0 := Aside0.mk (show Kd.R Kd.bool 4 _ _ _ _ (rd_L4 x1_1 a2) from ge244_0)
                clear hv244_0 ge244_0
                have HX244_0 := Aside0.mk hx244_0
                clear hcc244 hce244
                have HR244_0 := Aside0.mk hi244_0
                have HC244_0 := Aside0.mk hl244_0
                clear hi244_0 hl244_0
                replace p244 := eq_true p244
                replace q244 := eq_true q244
                have ea_ := Option.some.inj (hx243_0.symm.trans hx244_0)
                injection ea_ with ea_ en_ ec_
                subst ea_
                subst ec_
                clear en_
                have p245 : 0 ≤ (x9_1 : Int) := of_decide_eq_true att8_0_0
                have q245 : x9_1 < ((rd_L4 x1_1 a2).length : Int) := of_decide_eq_true att8_0_0
                obtain ⟨ad245, e245, hx245_0⟩ := Kd.at_bool att8_0_10 x9_1 p245 q245
                (try rw [← Nbq75.out] at hx245_0)
                cases e245
                replace p245 := eq_true p245
                replace q245 := eq_true q245
                have p83 : 0 ≤ (x9_1 : Int) := of_decide_eq_true att8_0_0
                have q83 : (x9_1 : Int) < (((rd_L4 x1_1 a2).length : Int) : Int) := of_decide_eq_true att8_0_0
                obtain ⟨go83, co83, eo83, gb83, gl83, cl83, HG83⟩ := Kd.R_form HL243_0.out (by omega)
                (first | cases eo83 | (injection eo83 with ea_ en_ ec_; (first | subst ea_ | (injection ea_ with ea_; subst ea_)); subst ec_; clear en_))
                have GB83 := Aside0.mk gb83
                have GG83 := Aside0.mk HG83
                clear gb83 gl83 HG83
                have HMgo83 := Aside0.mk (show (P1_ go83 ∨ w.heap.size ≤ go83) from (HL243_0.out.1 _ rfl).1)
                (first | simp only [add_plain] at hx245_0 | skip)
                obtain ⟨hx83_0, hf83_0⟩ := Kd.R_celln false HL243_0.out (x9_1 : Int) p83 q83
                replace p83 := eq_true p83
                replace q83 := eq_true q83
                have hq87 : (a2 : Int) < (x1_1.length : Int) := att8_1_0
                obtain ⟨oki87, ce87, hcl87, hM87, hcc87, hok87, hbk87⟩ := Kd.S_borrow HO_1.out [] (a2 : Int) (of_decide_eq_true att8_0_0) hq87
                obtain ⟨ve87_0, rfl, ge87_0⟩ := hM87
                have hv87 := hcc87 0 _ rfl
                rw [Nat.add_zero, show ((Kd.slice 4 Kd.bool)).sz = 1 from rfl, Nat.mul_one] at hv87
                replace hv87 := Option.some.inj (hv87.symm.trans HX243_0.out)
                subst hv87
                clear hcc87 hcl87
                replace ge87_0 := (show Kd.R Kd.bool 4 _ _ _ _ (rd_L4 x1_1 a2) from ge87_0)
                have HP87 := Kd.R_putg ge87_0 (x9_1 : Int) false
                rw [← Ny249.out] at HP87
                have HS87 := hbk87 HP87.2 (fun k_ e_ => by injection e_ with e_; subst e_; exact ge87_0.1 _ rfl) (x' := y249) (Kd.M_row HP87.1)
                rw [← Ny251.out] at HS87
                have HQ87 := Aside0.mk HS87
                clear HP87 HS87 hbk87 hok87
                refine start_ (n := 17) (S := fun w' => w'.cell? (ad243.add (a2).toNat) = some (.slice (some ⟨go83, 0, none⟩) (rd_L4 x1_1 a2).length c243_0) ∧ w'.cell? (ad243.add (a2).toNat) = some (.slice (some ⟨go83, 0, none⟩) (rd_L4 x1_1 a2).length c243_0) ∧ w'.cell? ⟨go83, (x9_1).toNat, none⟩ = some (.bool false)) (ds := [16]) (tf_ 0 17) (by kernel_rfl) rfl rfl ⟨hx243_0, hx244_0, hx245_0⟩ (fun hHeld => ?_); refine with_tabW spec_l18Round.tab12 spec_l18Round.bits12 (fun HT_ HW_ => ?_)
                generalize wr.drew = w85 at HO_1 HO_8 HK HB GG83 HL243_0 HL244_0 HQ87 HR243_0 HR244_0 HX243_0 HX244_0 hf83_0 hx243_0 hx244_0 hx245_0 hx83_0 hHeld ⊢
                refine pureP_ (i := 0) (N := some 69) (tf_ 1 16) (any_of HT_.out (by kernel_rfl)) (h := ?_)
                refine pureP_ (i := 1) (N := some 70) (tf_ 2 15) (any_of HT_.out (by kernel_rfl)) (h := ?_)
                refine pureP_ (i := 2) (N := some 71) (tf_ 3 14) (any_of HT_.out (by kernel_rfl)) (h := ?_)
                refine pureP_ (i := 4) (N := some 73) #[true, true, true, false, true, false, false, false, false, false, false, false, false, false, false, false, false] (any_of HT_.out (by kernel_rfl)) (h := ?_)
                refine pureP_ (i := 5) (N := some 74) #[true, true, true, false, true, true, false, false, false, false, false, false, false, false, false, false, false] (any_of HT_.out (by kernel_rfl)) (h := ?_)
                refine pureP_ (i := 6) (N := some 75) #[true, true, true, false, true, true, true, false, false, false, false, false, false, false, false, false, false] (any_of HT_.out (by kernel_rfl)) (h := ?_)
                refine pureP_ (i := 7) (N := some 76) #[true, true, true, false, true, true, true, true, false, false, false, false, false, false, false, false, false] (any_of HT_.out (by kernel_rfl)) (h := ?_)
                refine pureP_ (i := 9) (N := some 78) #[true, true, true, false, true, true, true, true, false, true, false, false, false, false, false, false, false] (any_of HT_.out (by kernel_rfl)) (h := ?_)
                refine takeP_ (i := 3) (N := some 72) #[true, true, true, true, true, true, true, true, false, true, false, false, false, false, false, false, false] (take_ofW HT_.out HW_.out (by kernel_rfl)) hHeld (hy := Or.inl ⟨by rfl, att8_0_4⟩) (h := ?_)
                refine takeP_ (i := 8) (N := some 77) (tf_ 10 7) (take_ofW HT_.out HW_.out (by kernel_rfl)) hHeld (hy := Or.inl ⟨by rfl, att8_0_4⟩) (h := ?_)
                refine pureP_ (i := 10) (N := some 79) (tf_ 11 6) (any_of HT_.out (by kernel_rfl)) (h := ?_)
                refine takeP_ (i := 11) (N := some 80) (tf_ 12 5) (take_ofW HT_.out HW_.out (by kernel_rfl)) hHeld (hy := Or.inl ⟨by rfl, att8_0_4⟩) (h := ?_)
                refine pureP_ (i := 12) (N := some 81) (tf_ 13 4) (any_of HT_.out (by kernel_rfl)) (h := ?_)
                refine pureP_ (i := 13) (N := some 82) (tf_ 14 3) (any_of HT_.out (by kernel_rfl)) (h := ?_)
                refine pureP_ (i := 14) (N := some 83) (tf_ 15 2) (any_of HT_.out (by kernel_rfl)) (h := ?_)
                refine pureP_ (i := 15) (N := some 84) (tf_ 16 1) (any_of HT_.out (by kernel_rfl)) (h := ?_)
                refine last_ (i := 16) (N := none) (tf_ 17 0) rfl rfl (one_of HT_.out (by kernel_rfl)) (by decide) (fun K hK => ?_)
                refine skip_ (w1 := ?_) (by rfl) rfl ?_ ?_
                rotate_left
                ·go_simp
                 rfl
                refine hK.out _ _ ?_
                clear hK K
                refine done_ (done_of HT_.out (by kernel_rfl)) ?_
                try go_wp2
                go_roundg k2
                case measure => have := HK1.out; have := HK2.out; omega
                case rel => exact ⟨(y251), (false), (wrap64 (x9_1 + 1)), att8_0_3, att8_0_3, H', ⟨att8_0_8⟩, ⟨by (with_reducible repeat (first | apply Kd.S_alloc | apply Kd.S_drewN | apply Kd.S_drew)); exact HQ87.out⟩, ⟨by (with_reducible repeat (first | apply Kd.R_alloc | apply Kd.R_drewN | apply Kd.R_drew)); exact Kd.R_mono (Kd.R_far (p := ⟨go83, (x9_1 : Int).toNat, none⟩) (Kd.R_types HO_8.out GG83.out (by decide)) (fun _ hk => hk.2) (.bool false)) (fun _ hk => hk.1)⟩, ⟨by repeat (first | (with_reducible first | exact HK.out | apply Kept.alloc | apply Kept.drewN | apply Kept.drew | refine Kept.setCell ?_ HMgo83.out _) | exact HK.out)⟩, ⟨by repeat (first | (with_reducible first | exact HB.out | apply below_alloc | apply pw_below_drewN | apply below_drew1 | refine below_set ?_ GB83.out) | exact HB.out)⟩⟩
              ·rw [if_neg c74] at H
               exact absurd H (by simp)
             ·rw [if_neg c73] at H
              exact absurd H (by simp)
            ·rw [if_neg c72] at H
             exact absurd H (by simp)
           ·rw [if_neg c71] at H
            exact absurd H (by simp)
     ·rw [if_neg c8] at H
      exact absurd H (by simp)
    ·rw [if_neg c7] at H
     exact absurd H (by simp)
   ·rw [if_neg c6] at H
    have c6b0 : decide (x9_1 < 4) = false := decide_eq_false c6
    clear c6
    simp only [Option.some.injEq, Prod.mk.injEq] at H
    obtain ⟨rfl, rfl⟩ := H
    go_wp2
    go_ret
    exact ⟨by first | rfl | (simp [errW_none, errW_some] <;> rfl) | (simp [*, errW_none, errW_some] <;> rfl), by (with_reducible repeat (first | apply Kd.S_alloc | apply Kd.S_drewN | apply Kd.S_drew)); exact HO_1.out, by repeat (first | (with_reducible first | exact HB.out | apply below_alloc | apply pw_below_drewN | apply below_drew1) | exact HB.out), att8_0_2⟩

end Go.Proofs.Ytocimkpafakiaaa.XFnExactTrimBody
