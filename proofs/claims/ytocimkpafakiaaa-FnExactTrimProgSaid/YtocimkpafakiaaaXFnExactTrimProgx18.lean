/- Each Go function that the law reaches as a Lean function, and that Go comes to just its answer; written by this session's xprint.py over the kit's printer. -/
import Derived.Test.YtocimkpafakiaaaXFnExactTrimProgx0
import Derived.Test.YtocimkpafakiaaaXFnExactTrimProgx16
import Derived.Test.YtocimkpafakiaaaXFnExactTrimProgx17
namespace Go.Proofs.Ytocimkpafakiaaa.XFnExactTrimProg
open Go.RowKit Go.Proofs.YtocimkpafakiaaaW.PrintWords Go.Proofs.YtocimkpafakiaaaW.PrintLast Go.Proofs.YtocimkpafakiaaaW.PrintMore
attribute [local go_sem] max2_int min2_int max_two min_two max_three min_three max_four min_four   -- for this text's walks alone
set_option linter.unusedVariables false
set_option linter.unusedSimpArgs false

theorem att19_0_3 {p : Prop} (h : p := by exact toR_ (HO_33.out)) : p := h
theorem att19_0_4 {p : Prop} (h : p := by exact toS_ (HO_3.out)) : p := h
theorem att19_0_5 {p : Prop} (h : p := by exact toR_ (HO_6.out)) : p := h
theorem att19_0_7 {p : Prop} (h : p := by repeat (first | (with_reducible exact HR515_0.out) | (with_reducible refine Kd.C_alloc ?_ _) | (with_reducible refine Kd.C_drewN ?_ _) | (with_reducible refine Kd.C_drew ?_) | exact HR515_0.out)) : p := h
theorem att19_0_8 {p : Prop} (h : p := by exact toR_ (HO493.out)) : p := h
theorem att19_0_9 {p : Prop} (h : p := by have := HK1.out; have := HK2.out; have := HK3.out; have := HK4.out; omega) : p := h
theorem att19_0_10 {p : Prop} (h : p := by exact toS_ (Kd.S_mono HO_3.out (fun _ hk => trivial))) : p := h
theorem att19_0_11 {p : Prop} (h : p := by exact toR_ (HL501_0.out)) : p := h
theorem att19_0_12 {p : Prop} (h : p := by exact toR_ (HO496.out)) : p := h
theorem att19_1_0 {p : Prop} (h : p := by have h_ : (x5_2 : Int) < ((x3_2.length : Int) : Int) := of_decide_eq_true atgA_; first | exact h_ | (have e_ := (Kd.S_reads' HO_3.out).1; omega) | simpa using h_) : p := h
theorem att19_1_1 {p : Prop} (h : p := by first | exact q515 | exact of_decide_eq_true atgA_ | (have e_ := (Kd.S_reads' HO_3.out).1; omega)) : p := h
/-! ### impl_LiveAt: function 36 -/
mutual
def impl_LiveAt.l0 : Nat → List (S63) → List (List Int) → Bool → Option ((List (List Int)))
 | 0, _, _, _ => none
 | k + 1, x0, x3, x4 => if x4 = true then (impl_LiveAt.l1 k x0 x3 false (wrap64 ((x0.length : Int) - 1))) else (some x3)
def impl_LiveAt.l1 : Nat → List (S63) → List (List Int) → Bool → Int → Option ((List (List Int)))
 | 0, _, _, _, _ => none
 | k + 1, x0, x3, x4, x5 => if x5 ≥ 0 then (if 0 ≤ x5 then (if x5 < (x0.length : Int) then ((impl_Reads.f k ((rd_T63 x0 x5).f0) ((rd_T63 x0 x5).f1) ((rd_T63 x0 x5).f2) ((rd_T63 x0 x5).f3) ((rd_T63 x0 x5).f4)).bind fun t491 => ((impl_copyInts.f t491).bind fun t494 => ((impl_nextOf.f x0 x5).bind fun t497 => (impl_LiveAt.l2 k x0 x3 x4 x5 t494 t497 (t497.length : Int) 0)))) else (none)) else (none)) else (impl_LiveAt.l0 k x0 x3 x4)
def impl_LiveAt.l2 : Nat → List (S63) → List (List Int) → Bool → Int → List Int → List Int → Int → Int → Option ((List (List Int)))
 | 0, _, _, _, _, _, _, _, _ => none
 | k + 1, x0, x3, x4, x5, x6, x33, x34, x35 => if x35 < x34 then (if 0 ≤ x35 then (if x35 < (x33.length : Int) then (if 0 ≤ (rd x33 x35) then (if (rd x33 x35) < (x3.length : Int) then (impl_LiveAt.l3 k x0 x3 x4 x5 x6 x33 x34 x35 (rd_L7 x3 (rd x33 x35)) ((rd_L7 x3 (rd x33 x35)).length : Int) 0) else (none)) else (none)) else (none)) else (none)) else ((slices_Sort_int_int.f x6).bind fun t511 => ((slices_Compact_int_int.f t511).bind fun t512 => (if 0 ≤ x5 then (if x5 < (x3.length : Int) then ((slices_Equal_int_int.f k t512 (rd_L7 x3 x5)).bind fun t516 => (if t516 = true then (impl_LiveAt.l1 k x0 x3 x4 (wrap64 (x5 - 1))) else (impl_LiveAt.l1 k x0 (x3.set (x5 : Int).toNat t512) true (wrap64 (x5 - 1))))) else (none)) else (none))))
def impl_LiveAt.l3 : Nat → List (S63) → List (List Int) → Bool → Int → List Int → List Int → Int → Int → List Int → Int → Int → Option ((List (List Int)))
 | 0, _, _, _, _, _, _, _, _, _, _, _ => none
 | k + 1, x0, x3, x4, x5, x6, x33, x34, x35, x42, x43, x44 => if x44 < x43 then (if 0 ≤ x44 then (if x44 < (x42.length : Int) then (if 0 ≤ x5 then (if x5 < (x0.length : Int) then ((impl_Sets.f k ((rd_T63 x0 x5).f0) ((rd_T63 x0 x5).f1) ((rd_T63 x0 x5).f2) ((rd_T63 x0 x5).f3) ((rd_T63 x0 x5).f4)).bind fun t504 => ((slices_Contains_int_int.f k t504 (rd x42 x44)).bind fun t507 => (if t507 = true then (impl_LiveAt.l3 k x0 x3 x4 x5 x6 x33 x34 x35 x42 x43 (wrap64 (x44 + 1))) else (if x6.length < 17592186044416 then (impl_LiveAt.l3 k x0 x3 x4 x5 (x6 ++ [rd x42 x44]) x33 x34 x35 x42 x43 (wrap64 (x44 + 1))) else (none))))) else (none)) else (none)) else (none)) else (none)) else (impl_LiveAt.l2 k x0 x3 x4 x5 x6 x33 x34 (wrap64 (x35 + 1)))
end
def impl_LiveAt.f (k : Nat) (l0 : List (S63)) : Option ((List (List Int))) := (impl_BodyOk.f k l0 3).bind fun t486 => (if t486 = true then (if 0 ≤ (l0.length : Int) then (if ((l0.length : Int) : Int).toNat ≤ 11728124029610 then (impl_LiveAt.l0 k l0 (List.replicate ((l0.length : Int) : Int).toNat []) true) else (none)) else (none)) else (some ([] : List (List Int))))
theorem impl_LiveAt.mono_l : ∀ k, (∀ y0 y1 y2, LeO (impl_LiveAt.l0 k y0 y1 y2) (impl_LiveAt.l0 (k + 1) y0 y1 y2)) ∧ (∀ y0 y1 y2 y3, LeO (impl_LiveAt.l1 k y0 y1 y2 y3) (impl_LiveAt.l1 (k + 1) y0 y1 y2 y3)) ∧ (∀ y0 y1 y2 y3 y4 y5 y6 y7, LeO (impl_LiveAt.l2 k y0 y1 y2 y3 y4 y5 y6 y7) (impl_LiveAt.l2 (k + 1) y0 y1 y2 y3 y4 y5 y6 y7)) ∧ (∀ y0 y1 y2 y3 y4 y5 y6 y7 y8 y9 y10, LeO (impl_LiveAt.l3 k y0 y1 y2 y3 y4 y5 y6 y7 y8 y9 y10) (impl_LiveAt.l3 (k + 1) y0 y1 y2 y3 y4 y5 y6 y7 y8 y9 y10))
 | 0 => ⟨fun _ _ _ r h => by simp [impl_LiveAt.l0] at h, fun _ _ _ _ r h => by simp [impl_LiveAt.l1] at h, fun _ _ _ _ _ _ _ _ r h => by simp [impl_LiveAt.l2] at h, fun _ _ _ _ _ _ _ _ _ _ _ r h => by simp [impl_LiveAt.l3] at h⟩
 | k + 1 => by
  obtain ⟨ih0, ih1, ih2, ih3⟩ := impl_LiveAt.mono_l k
  refine ⟨?_, ?_, ?_, ?_⟩
  all_goals intros
  all_goals first | unfold impl_LiveAt.l0 | unfold impl_LiveAt.l1 | unfold impl_LiveAt.l2 | unfold impl_LiveAt.l3
  all_goals repeat' (with_reducible first | exact ih0 .. | exact ih1 .. | exact ih2 .. | exact ih3 .. | exact impl_BodyOk.mono .. | exact impl_Reads.mono .. | exact impl_Sets.mono .. | exact slices_Contains_int_int.mono .. | exact slices_Equal_int_int.mono .. | exact LeO.refl _ | exact LeO.none _ | refine LeO.ite ?_ ?_ | refine LeO.bind ?_ (fun _ => ?_))
theorem impl_LiveAt.mono : ∀ a0 k, LeO (impl_LiveAt.f k a0) (impl_LiveAt.f (k + 1) a0) := by
 intro a0 k
 obtain ⟨ih0, ih1, ih2, ih3⟩ := impl_LiveAt.mono_l k
 unfold impl_LiveAt.f
 repeat' (with_reducible first | exact ih0 .. | exact ih1 .. | exact ih2 .. | exact ih3 .. | exact impl_BodyOk.mono .. | exact impl_Reads.mono .. | exact impl_Sets.mono .. | exact slices_Contains_int_int.mono .. | exact slices_Equal_int_int.mono .. | exact LeO.refl _ | exact LeO.none _ | refine LeO.ite ?_ ?_ | refine LeO.bind ?_ (fun _ => ?_))
set_option maxHeartbeats 80000000 in
set_option maxRecDepth 100000 in
theorem impl_LiveAt.calls (k : Nat) (A0 : Option Addr) (c0 : Nat) (l0 : List (S63)) (r : List (List Int)) (w : World) (hr0 : Kd.C k63 w A0 l0.length l0) (hc0 : l0.length ≤ c0) (h : impl_LiveAt.f k l0 = some r) :
  Calls Try.prog 36 #[.slice A0 l0.length c0] w fun e w' => ∃ v0_ : Value, e = .returned (v0_) ∧ Kd.S (Kd.slice 3 (Kd.int .i64)) 34 w' w.heap.size (fun _ => True) v0_ r ∧ Below w.heap.size w w' := by
 have hu63 := Try.underlying63
 have HR0 := Aside0.mk hr0
 have HC0 := Aside0.mk hc0
 clear hr0 hc0
 have HB := Aside0.mk (Below.refl w.heap.size w)
 have H : ((impl_BodyOk.f k l0 3).bind fun t486 => (if t486 = true then (if 0 ≤ (l0.length : Int) then (if ((l0.length : Int) : Int).toNat ≤ 11728124029610 then (impl_LiveAt.l0 k l0 (List.replicate ((l0.length : Int) : Int).toNat []) true) else (none)) else (none)) else (some ([] : List (List Int))))) = some r := h
 clear h
 replace H := Option.bind_eq_some_iff.mp H
 obtain ⟨t486, A20, H⟩ := H
 (try dsimp only at H)
 have A2 := Aside0.mk A20
 clear A20
 by_cases c3 : t486 = true
 ·subst c3
  rw [if_pos rfl] at H
  by_cases c4 : 0 ≤ (l0.length : Int)
  ·rw [if_pos c4] at H
   have c4b0 := eq_true c4
   have c4b1 := decide_eq_true c4
   clear c4
   by_cases c5 : ((l0.length : Int) : Int).toNat ≤ 11728124029610
   ·rw [if_pos c5] at H
    have c5b0 := eq_true c5
    have c5b1 := decide_eq_true c5
    clear c5
    obtain ⟨y487, hy487⟩ : ∃ y_ : List (List Int), y_ = (List.replicate ((l0.length : Int) : Int).toNat []) := ⟨_, rfl⟩
    replace H : (impl_LiveAt.l0 k l0 y487 true) = some r := by rw [hy487]; exact H
    have Ny487 := Aside0.mk hy487
    clear hy487
    have H' := Aside0.mk H
    clear H
    go_enter Try.func36, Try.ntmps36
    go_wp2_with (first | ((with_reducible refine gate_callee (f := 34) rfl ?_); refine goesL_ (some 12) rfl rfl Try.func34 (by kernel_rfl) rfl #[.slice A0 l0.length c0, .int .i64 3] rfl atgM_ ?_; (with_reducible refine (impl_BodyOk.calls k _ _ l0 3 true _ ?side1 ?side2 A2.out).mono ?_); (case side1 => repeat (first | exact HR0.out | (with_reducible refine Kd.C_alloc ?_ _) | (with_reducible refine Kd.C_drewN ?_ _) | (with_reducible refine Kd.C_drew ?_))); (case side2 => exact HC0.out); rintro e w6 ⟨rfl, hb⟩; refine ⟨_, rfl, ?_⟩; refine swap1_ (below_step atgB_ hb) ?_; clear HB; intro HB; (try clear hb); (try clear hb2); (try clear hk); (try clear hi)) | ((with_reducible refine gate_dst (N := 16) rfl ?_); refine Kd.S_make (Kd.slice 3 (Kd.int .i64)) _ 34 rfl (N := 16) rfl 41 _ _ rfl (l0.length : Int) rfl rfl Try.underlying41 (.slice none 0 0) 24 info34 rfl (by decide) (by omega) [] (ok := fun _ => True) (okp := fun _ => True) ⟨_, rfl, Kd.R_nil _ _ _ _ _⟩ (fun _ hk => hk) trivial (of_decide_eq_true atgA_) (Nat.le_trans (Nat.mul_le_mul_right _ (of_decide_eq_true atgA_ : (l0.length : Int).toNat ≤ 11728124029610)) (by omega)) (Below.refl _ _) (Nat.le_refl _) ?_; intro v488 w7 ho8 hb hg_ hnew_; clear hg_ hnew_; (first | rw [← Ny487.out] at ho8 | (simp only [Int.reduceToNat] at ho8; rw [← Ny487.out] at ho8)); refine swap2_ (Kd.S_lower ho8 (below_size atgB_)) (below_step atgB_ hb) ?_; clear HB; intro HO489 HB; clear hb ho8))
    go_loopg [4] k (fun kq v4 w' => ∃ (x3_1 : List (List Int)) (x4_1 : Bool), v4 = .bool x4_1 ∧ Aside0 (impl_LiveAt.l0 kq l0 x3_1 x4_1 = some r) ∧ Aside0 (kq ≤ k) ∧ Aside0 (Kd.S (Kd.slice 3 (Kd.int .i64)) 34 w' w.heap.size (fun _ => True) v488 x3_1) ∧ Aside0 (Below w.heap.size w w'))
    case atStart => exact ⟨(y487), (true), atgR_, H', ⟨Nat.le_refl _⟩, ⟨by exact toS_ (HO489.out)⟩, ⟨atgB_⟩⟩
    case round =>
     clear H'
     try clear p2
     try clear c3
     try clear c4
     try clear c4b0
     try clear c4b1
     try clear c5
     try clear c5b0
     try clear c5b1
     obtain ⟨x3_1, x4_1, rfl, HA, HK1, HO_3, HB⟩ := hrel
     cases gk with
     | zero => exact absurd HA.out (by simp [impl_LiveAt.l0])
     | succ k1 =>
      have H := HA.out
      clear HA
      simp only [impl_LiveAt.l0] at H
      by_cases c9 : x4_1 = true
      ·subst c9
       rw [if_pos rfl] at H
       have H' := Aside0.mk H
       clear H
       go_wp2
       go_loopg [4, 5] k1 (fun kq v4 v5 w' => ∃ (x3_2 : List (List Int)) (x4_2 : Bool) (x5_2 : Int), v4 = .bool x4_2 ∧ v5 = .int .i64 x5_2 ∧ Aside0 (impl_LiveAt.l1 kq l0 x3_2 x4_2 x5_2 = some r) ∧ Aside0 (kq ≤ k1) ∧ Aside0 (Kd.S (Kd.slice 3 (Kd.int .i64)) 34 w' w.heap.size (fun _ => True) v488 x3_2) ∧ Aside0 (Below w.heap.size w w'))
       case atStart => exact ⟨(x3_1), (false), (wrap64 ((l0.length : Int) - 1)), atgR_, atgR_, H', ⟨Nat.le_refl _⟩, ⟨att19_0_4⟩, ⟨atgB_⟩⟩
       case round =>
        clear H'
        try clear p2
        try clear c3
        try clear c4
        try clear c4b0
        try clear c4b1
        try clear c5
        try clear c5b0
        try clear c5b1
        try clear p6
        try clear c9
        try clear p2
        obtain ⟨x3_2, x4_2, x5_2, rfl, rfl, HA, HK2, HO_3, HB⟩ := hrel
        cases gk with
        | zero => exact absurd HA.out (by simp [impl_LiveAt.l1])
        | succ k2 =>
         have H := HA.out
         clear HA
         simp only [impl_LiveAt.l1] at H
         by_cases c10 : x5_2 ≥ 0
         ·rw [if_pos c10] at H
          have c10b0 := decide_eq_true c10
          clear c10
          by_cases c11 : 0 ≤ x5_2
          ·rw [if_pos c11] at H
           have c11b0 := decide_eq_true c11
           clear c11
           by_cases c12 : x5_2 < (l0.length : Int)
           ·rw [if_pos c12] at H
            have c12b0 := decide_eq_true c12
            clear c12
            replace H := Option.bind_eq_some_iff.mp H
            obtain ⟨t491, A130, H⟩ := H
            (try dsimp only at H)
            have A13 := Aside0.mk A130
            clear A130
            replace H := Option.bind_eq_some_iff.mp H
            obtain ⟨t494, A140, H⟩ := H
            (try dsimp only at H)
            have A14 := Aside0.mk A140
            clear A140
            replace H := Option.bind_eq_some_iff.mp H
            obtain ⟨t497, A150, H⟩ := H
            (try dsimp only at H)
            have A15 := Aside0.mk A150
            clear A150
            have H' := Aside0.mk H
            clear H
            have p490 : 0 ≤ (x5_2 : Int) := of_decide_eq_true atgA_
            have q490 : x5_2 < (l0.length : Int) := of_decide_eq_true atgA_
            obtain ⟨ad490, e490, hx490_0, hx490_1, hx490_2, hx490_3, hx490_4⟩ := at5B_ HB (at_T63 HR0.out x5_2 p490 q490)
            cases e490
            replace p490 := eq_true p490
            replace q490 := eq_true q490
            go_wp2_with (first | ((with_reducible refine gate_callee (f := 83) rfl ?_); refine goesL_ (some 29) rfl rfl Try.func83 (by kernel_rfl) rfl #[.agg #[.int .i64 ((rd_T63 l0 x5_2).f0), .int .i64 ((rd_T63 l0 x5_2).f1), .int .i64 ((rd_T63 l0 x5_2).f2), .int .i64 ((rd_T63 l0 x5_2).f3), .int .i64 ((rd_T63 l0 x5_2).f4)]] rfl atgM_ ?_; (with_reducible refine (impl_Reads.calls k2 ((rd_T63 l0 x5_2).f0) ((rd_T63 l0 x5_2).f1) ((rd_T63 l0 x5_2).f2) ((rd_T63 l0 x5_2).f3) ((rd_T63 l0 x5_2).f4) t491 _ A13.out).mono ?_); rintro e w16 ⟨v492, rfl, ho0, hb⟩; refine ⟨_, rfl, ?_⟩; refine swap3_ (Kd.S_elder' att19_0_4 (Kd.R_base ho0) hb) (Kd.R_lower ho0 (below_size atgB_)) (below_step atgB_ hb) ?_; clear HO_3 HB; intro HO_3 HO493 HB; (try clear hb); (try clear hb2); (try clear hk); (try clear hi); (try clear ho0); obtain ⟨Ao17, co17, eo17⟩ := Kd.R_slice HO493.out; subst eo17) | ((with_reducible refine gate_callee (f := 82) rfl ?_); refine goesL_ (some 30) rfl rfl Try.func82 (by kernel_rfl) rfl #[.slice Ao17 t491.length co17] rfl atgM_ ?_; (with_reducible refine (impl_copyInts.calls _ _ t491 t494 _ ?side1 ?side2 A14.out).mono ?_); (case side1 => repeat (first | exact (Kd.R_reads' HO493.out).2.2 | (with_reducible refine Kd.C_alloc ?_ _) | (with_reducible refine Kd.C_drewN ?_ _) | (with_reducible refine Kd.C_drew ?_))); (case side2 => exact (Kd.R_reads' HO493.out).2.1); rintro e w18 ⟨v495, rfl, ho0, hb⟩; refine ⟨_, rfl, ?_⟩; refine swap4_ (Kd.S_elder' att19_0_4 (Kd.R_base ho0) hb) (Kd.R_elder' att19_0_8 (Kd.R_base ho0) hb) (Kd.R_lower (Kd.R_new' ho0 (Kd.R_lt att19_0_8)) (below_size atgB_)) (below_step atgB_ hb) ?_; clear HO_3 HO493 HB; intro HO_3 HO493 HO496 HB; (try clear hb); (try clear hb2); (try clear hk); (try clear hi); (try clear ho0)) | ((with_reducible refine gate_callee (f := 78) rfl ?_); refine goesL_ (some 33) rfl rfl Try.func78 (by kernel_rfl) rfl #[.slice (some ad490) l0.length c0, .int .i64 x5_2] rfl atgM_ ?_; (with_reducible refine (impl_nextOf.calls _ _ l0 x5_2 t497 _ ?side1 ?side2 A15.out).mono ?_); (case side1 => repeat (first | exact (Kd.C_below HR0.out HB.out) | (with_reducible refine Kd.C_alloc ?_ _) | (with_reducible refine Kd.C_drewN ?_ _) | (with_reducible refine Kd.C_drew ?_))); (case side2 => exact HC0.out); rintro e w19 ⟨v498, rfl, ho0, hb⟩; refine ⟨_, rfl, ?_⟩; refine swap5_ (Kd.S_elder' att19_0_4 (Kd.R_base ho0) hb) (Kd.R_elder' att19_0_8 (Kd.R_base ho0) hb) (Kd.R_elder' att19_0_12 (Kd.R_base ho0) hb) (Kd.R_lower (Kd.R_new' (Kd.R_new' ho0 (Kd.R_lt att19_0_8)) (Kd.R_lt att19_0_12)) (below_size atgB_)) (below_step atgB_ hb) ?_; clear HO_3 HO493 HO496 HB; intro HO_3 HO493 HO496 HO499 HB; (try clear hb); (try clear hb2); (try clear hk); (try clear hi); (try clear ho0); obtain ⟨Ao20, co20, eo20⟩ := Kd.R_slice HO499.out; subst eo20))
            go_loopg [6, 35] k2 (fun kq v6 v35 w' => ∃ (x6_3 : List Int) (x35_3 : Int), v35 = .int .i64 x35_3 ∧ Aside0 (impl_LiveAt.l2 kq l0 x3_2 x4_2 x5_2 x6_3 t497 (t497.length : Int) x35_3 = some r) ∧ Aside0 (kq ≤ k2) ∧ Aside0 (Kd.S (Kd.slice 3 (Kd.int .i64)) 34 w' w.heap.size (fun k_ => some k_ ≠ (v6 : Value).ownBlock ∧ some k_ ≠ ((.slice Ao20 t497.length co20) : Value).ownBlock) v488 x3_2) ∧ Aside0 (Kd.R (Kd.int .i64) 3 w' w.heap.size (fun k_ => some k_ ≠ ((.slice Ao20 t497.length co20) : Value).ownBlock) v6 x6_3) ∧ Aside0 (Kd.R (Kd.int .i64) 3 w' w.heap.size (fun k_ => some k_ ≠ (v6 : Value).ownBlock) (.slice Ao20 t497.length co20) t497) ∧ Aside0 (Below w.heap.size w w'))
            case atStart => exact ⟨(t494), (0), atgR_, H', ⟨Nat.le_refl _⟩, ⟨by exact toS_ (Kd.S_mono HO_3.out (fun _ hk => ⟨hk.1.2, hk.2⟩))⟩, ⟨by exact toR_ (Kd.R_mono HO496.out (fun _ hk => hk.2))⟩, ⟨by exact toR_ (Kd.R_mono HO499.out (fun _ hk => hk.2))⟩, ⟨atgB_⟩⟩
            case round =>
             clear H'
             try clear c1
             try clear p2
             try clear c3
             try clear c4
             try clear c4b0
             try clear c4b1
             try clear p4
             try clear q4
             try clear hx4
             try clear c5
             try clear c5b0
             try clear c5b1
             try clear p6
             try clear c7
             try clear c8
             try clear c9
             try clear c10
             try clear c10b0
             try clear c11
             try clear c11b0
             try clear c12
             try clear c12b0
             try clear hx490_0
             try clear hx490_1
             try clear hx490_2
             try clear hx490_3
             try clear hx490_4
             try clear p2
             try clear p490
             try clear p6
             try clear q490
             obtain ⟨x6_3, x35_3, rfl, HA, HK3, HO_3, HO_6, HO_33, HB⟩ := hrel
             cases gk with
             | zero => exact absurd HA.out (by simp [impl_LiveAt.l2])
             | succ k3 =>
              have H := HA.out
              clear HA
              simp only [impl_LiveAt.l2] at H
              by_cases c21 : x35_3 < (t497.length : Int)
              ·rw [if_pos c21] at H
               have c21b0 := decide_eq_true c21
               clear c21
               by_cases c22 : 0 ≤ x35_3
               ·rw [if_pos c22] at H
                have c22b0 := decide_eq_true c22
                clear c22
                by_cases c23 : x35_3 < (t497.length : Int)
                ·rw [if_pos c23] at H
                 have c23b0 := decide_eq_true c23
                 clear c23
                 by_cases c24 : 0 ≤ (rd t497 x35_3)
                 ·rw [if_pos c24] at H
                  have c24b0 := decide_eq_true c24
                  clear c24
                  by_cases c25 : (rd t497 x35_3) < (x3_2.length : Int)
                  ·rw [if_pos c25] at H
                   have c25b0 := decide_eq_true c25
                   clear c25
                   have H' := Aside0.mk H
                   clear H
                   have p500 : 0 ≤ (x35_3 : Int) := of_decide_eq_true atgA_
                   have q500 : x35_3 < (t497.length : Int) := of_decide_eq_true atgA_
                   obtain ⟨ad500, e500, hx500_0⟩ := Kd.at_int (Kd.R_reads' HO_33.out).2.2 x35_3 p500 q500
                   cases e500
                   replace p500 := eq_true p500
                   replace q500 := eq_true q500
                   obtain ⟨Ao26, co26, eo26⟩ := Kd.S_slice HO_3.out
                   subst eo26
                   have p501 : 0 ≤ ((rd t497 x35_3) : Int) := of_decide_eq_true atgA_
                   have q501 : (rd t497 x35_3) < (x3_2.length : Int) := of_decide_eq_true atgA_
                   obtain ⟨ad501, A501_0, c501_0, e501, hx501_0, hl501_0, hi501_0⟩ := at_L7 (Kd.S_reads' HO_3.out).2.2 (rd t497 x35_3) p501 q501
                   cases e501
                   obtain ⟨ce501, hce501, hMe501, hcc501⟩ := Kd.S_get HO_3.out [] (rd t497 x35_3) p501 (by first | exact q501 | exact of_decide_eq_true atgA_ | (have e_ := (Kd.S_reads' HO_3.out).1; omega))
                   obtain ⟨ve501_0, rfl, ge501_0⟩ := hMe501
                   have hv501_0 := hcc501 0 _ rfl
                   rw [Nat.add_zero, show ((Kd.slice 3 (Kd.int .i64))).sz = 1 from rfl, Nat.mul_one] at hv501_0
                   replace hv501_0 := Option.some.inj (hv501_0.symm.trans hx501_0)
                   rw [hv501_0] at ge501_0
                   have HL501_0 := Aside0.mk (show Kd.R (Kd.int .i64) 3 _ _ _ _ (rd_L7 x3_2 (rd t497 x35_3)) from ge501_0)
                   clear hv501_0 ge501_0
                   clear hcc501 hce501
                   have HR501_0 := Aside0.mk hi501_0
                   have HC501_0 := Aside0.mk hl501_0
                   clear hi501_0 hl501_0
                   replace p501 := eq_true p501
                   replace q501 := eq_true q501
                   go_wp2
                   go_loopg [6, 44] k3 (fun kq v6 v44 w' => ∃ (x6_4 : List Int) (x44_4 : Int), v44 = .int .i64 x44_4 ∧ Aside0 (impl_LiveAt.l3 kq l0 x3_2 x4_2 x5_2 x6_4 t497 (t497.length : Int) x35_3 (rd_L7 x3_2 (rd t497 x35_3)) ((rd_L7 x3_2 (rd t497 x35_3)).length : Int) x44_4 = some r) ∧ Aside0 (kq ≤ k3) ∧ Aside0 (Kd.S (Kd.slice 3 (Kd.int .i64)) 34 w' w.heap.size (fun k_ => some k_ ≠ (v6 : Value).ownBlock ∧ some k_ ≠ ((.slice (some ad500) t497.length co20) : Value).ownBlock) (.slice (some ad501) x3_2.length co26) x3_2) ∧ Aside0 (Kd.R (Kd.int .i64) 3 w' w.heap.size (fun k_ => some k_ ≠ ((.slice (some ad500) t497.length co20) : Value).ownBlock) v6 x6_4) ∧ Aside0 (Kd.R (Kd.int .i64) 3 w' w.heap.size (fun k_ => some k_ ≠ (v6 : Value).ownBlock) (.slice (some ad500) t497.length co20) t497) ∧ Aside0 (Kd.R (Kd.int .i64) 3 w' w.heap.size (fun k_ => some k_ ≠ (v6 : Value).ownBlock) (.slice A501_0 (rd_L7 x3_2 (rd t497 x35_3)).length c501_0) (rd_L7 x3_2 (rd t497 x35_3))) ∧ Aside0 (Below w.heap.size w w'))
                   case atStart => exact ⟨(x6_3), (0), atgR_, H', ⟨Nat.le_refl _⟩, ⟨att19_0_4⟩, ⟨att19_0_5⟩, ⟨att19_0_3⟩, ⟨by exact toR_ (Kd.R_mono HL501_0.out (fun _ hk => by first | exact hk.1.1 | exact hk.1.2))⟩, ⟨atgB_⟩⟩
                   case round =>
                    clear H'
                    try clear c1
                    try clear c2
                    try clear p2
                    try clear c3
                    try clear c4
                    try clear c4b0
                    try clear c4b1
                    try clear p4
                    try clear q4
                    try clear hx4
                    try clear c5
                    try clear c5b0
                    try clear c5b1
                    try clear p5
                    try clear q5
                    try clear hx5
                    try clear p6
                    try clear c7
                    try clear c8
                    try clear c9
                    try clear c10
                    try clear c10b0
                    try clear c11
                    try clear c11b0
                    try clear c12
                    try clear c12b0
                    try clear c21
                    try clear c21b0
                    try clear c22
                    try clear c22b0
                    try clear c23
                    try clear c23b0
                    try clear c24
                    try clear c24b0
                    try clear c25
                    try clear c25b0
                    try clear hx490_0
                    try clear hx490_1
                    try clear hx490_2
                    try clear hx490_3
                    try clear hx490_4
                    try clear hx500_0
                    try clear hx501_0
                    try clear p2
                    try clear p4
                    try clear p490
                    try clear p500
                    try clear p501
                    try clear p6
                    try clear q4
                    try clear q490
                    try clear q500
                    try clear q501
                    obtain ⟨x6_4, x44_4, rfl, HA, HK4, HO_3, HO_6, HO_33, HL501_0, HB⟩ := hrel
                    cases gk with
                    | zero => exact absurd HA.out (by simp [impl_LiveAt.l3])
                    | succ k4 =>
                     have H := HA.out
                     clear HA
                     simp only [impl_LiveAt.l3] at H
                     by_cases c27 : x44_4 < ((rd_L7 x3_2 (rd t497 x35_3)).length : Int)
                     ·rw [if_pos c27] at H
                      have c27b0 := decide_eq_true c27
                      clear c27
                      by_cases c28 : 0 ≤ x44_4
                      ·rw [if_pos c28] at H
                       have c28b0 := decide_eq_true c28
                       clear c28
                       by_cases c29 : x44_4 < ((rd_L7 x3_2 (rd t497 x35_3)).length : Int)
                       ·rw [if_pos c29] at H
                        have c29b0 := decide_eq_true c29
                        clear c29
                        by_cases c30 : 0 ≤ x5_2
                        ·rw [if_pos c30] at H
                         have c30b0 := decide_eq_true c30
                         clear c30
                         by_cases c31 : x5_2 < (l0.length : Int)
                         ·rw [if_pos c31] at H
                          have c31b0 := decide_eq_true c31
                          clear c31
                          replace H := Option.bind_eq_some_iff.mp H
                          obtain ⟨t504, A320, H⟩ := H
                          (try dsimp only at H)
                          have A32 := Aside0.mk A320
                          clear A320
                          replace H := Option.bind_eq_some_iff.mp H
                          obtain ⟨t507, A330, H⟩ := H
                          (try dsimp only at H)
                          have A33 := Aside0.mk A330
                          clear A330
                          by_cases c34 : t507 = true
                          ·subst c34
                           rw [if_pos rfl] at H
                           have H' := Aside0.mk H
                           clear H
                           have p502 : 0 ≤ (x44_4 : Int) := of_decide_eq_true atgA_
                           have q502 : x44_4 < ((rd_L7 x3_2 (rd t497 x35_3)).length : Int) := of_decide_eq_true atgA_
                           obtain ⟨ad502, e502, hx502_0⟩ := Kd.at_int (Kd.R_reads' HL501_0.out).2.2 x44_4 p502 q502
                           cases e502
                           skip
                           replace p502 := eq_true p502
                           replace q502 := eq_true q502
                           have p503 : 0 ≤ (x5_2 : Int) := of_decide_eq_true atgA_
                           have q503 : x5_2 < (l0.length : Int) := of_decide_eq_true atgA_
                           obtain ⟨ad503, e503, hx503_0, hx503_1, hx503_2, hx503_3, hx503_4⟩ := at_T63 HR0.out x5_2 p503 q503
                           obtain rfl : ad490 = ad503 := (by injection e503)
                           replace hx503_0 := blc_ HB hx503_0
                           replace hx503_1 := blc_ HB hx503_1
                           replace hx503_2 := blc_ HB hx503_2
                           replace hx503_3 := blc_ HB hx503_3
                           replace hx503_4 := blc_ HB hx503_4
                           replace p503 := eq_true p503
                           replace q503 := eq_true q503
                           go_wp2_with (first | ((with_reducible refine gate_callee (f := 85) rfl ?_); refine goesL_ (some 52) rfl rfl Try.func85 (by kernel_rfl) rfl #[.agg #[.int .i64 ((rd_T63 l0 x5_2).f0), .int .i64 ((rd_T63 l0 x5_2).f1), .int .i64 ((rd_T63 l0 x5_2).f2), .int .i64 ((rd_T63 l0 x5_2).f3), .int .i64 ((rd_T63 l0 x5_2).f4)]] rfl atgM_ ?_; (with_reducible refine (impl_Sets.calls k4 ((rd_T63 l0 x5_2).f0) ((rd_T63 l0 x5_2).f1) ((rd_T63 l0 x5_2).f2) ((rd_T63 l0 x5_2).f3) ((rd_T63 l0 x5_2).f4) t504 _ A32.out).mono ?_); rintro e w35 ⟨v505, rfl, ho0, hb⟩; refine ⟨_, rfl, ?_⟩; have n0_ := Aside0.mk (Kd.S_elder' att19_0_4 (Kd.R_base ho0) hb); have n1_ := Aside0.mk (Kd.R_elder' att19_0_5 (Kd.R_base ho0) hb); have n2_ := Aside0.mk (Kd.R_elder' att19_0_3 (Kd.R_base ho0) hb); have n2_L := Aside0.mk (Kd.R_elder' att19_0_11 (Kd.R_base ho0) hb); have n3_ := Aside0.mk (Kd.R_lower (Kd.R_new' (Kd.R_new' ho0 (Kd.R_lt att19_0_5)) (Kd.R_lt att19_0_3)) (below_size atgB_)); have n4_ := Aside0.mk (below_step atgB_ hb); clear HO_3; clear HO_6; clear HO_33; clear HL501_0; clear HB; have HO_3 := n0_; have HO_6 := n1_; have HO_33 := n2_; have HL501_0 := n2_L; clear n2_L; have HO506 := n3_; have HB := n4_; clear n0_ n1_ n2_ n3_ n4_; (try clear hb); (try clear hb2); (try clear hk); (try clear hi); (try clear ho0); obtain ⟨Ao36, co36, eo36⟩ := Kd.R_slice HO506.out; subst eo36) | ((with_reducible refine gate_callee (f := 84) rfl ?_); refine goesL_ (some 54) rfl rfl Try.func84 (by kernel_rfl) rfl #[.slice Ao36 t504.length co36, .int .i64 (rd (rd_L7 x3_2 (rd t497 x35_3)) x44_4)] rfl atgM_ ?_; (with_reducible refine (slices_Contains_int_int.calls k4 _ _ t504 (rd (rd_L7 x3_2 (rd t497 x35_3)) x44_4) true _ ?side1 ?side2 A33.out).mono ?_); (case side1 => repeat (first | exact (Kd.R_reads' HO506.out).2.2 | (with_reducible refine Kd.C_alloc ?_ _) | (with_reducible refine Kd.C_drewN ?_ _) | (with_reducible refine Kd.C_drew ?_))); (case side2 => exact (Kd.R_reads' HO506.out).2.1); rintro e w' ⟨rfl, ⟨nd, rfl⟩⟩; refine ⟨_, rfl, ?_⟩))
                           go_roundg k4
                           case measure => have := HK1.out; have := HK2.out; have := HK3.out; have := HK4.out; omega
                           case rel => exact ⟨(x6_4), (wrap64 (x44_4 + 1)), atgR_, H', ⟨att19_0_9⟩, ⟨by exact toS_ (Kd.S_mono HO_3.out (fun _ hk => ⟨hk.1.1, hk.1.2⟩))⟩, ⟨by exact toR_ (Kd.R_mono HO_6.out (fun _ hk => hk.1))⟩, ⟨by exact toR_ (Kd.R_mono HO_33.out (fun _ hk => hk.1))⟩, ⟨by exact toR_ (Kd.R_mono HL501_0.out (fun _ hk => hk.1))⟩, ⟨atgB_⟩⟩
                          ·replace c34 := Bool.eq_false_iff.mpr c34
                           subst c34
                           rw [if_neg (show ¬ (false = true) by decide)] at H
                           by_cases c37 : x6_4.length < 17592186044416
                           ·rw [if_pos c37] at H
                            have LMc37 := Aside0.mk c37
                            clear c37
                            obtain ⟨y508, hy508⟩ : ∃ y_ : List Int, y_ = (x6_4 ++ [rd (rd_L7 x3_2 (rd t497 x35_3)) x44_4]) := ⟨_, rfl⟩
                            replace H : (impl_LiveAt.l3 k4 l0 x3_2 x4_2 x5_2 y508 t497 (t497.length : Int) x35_3 (rd_L7 x3_2 (rd t497 x35_3)) ((rd_L7 x3_2 (rd t497 x35_3)).length : Int) (wrap64 (x44_4 + 1))) = some r := by rw [hy508]; exact H
                            have Ny508 := Aside0.mk hy508
                            clear hy508
                            have H' := Aside0.mk H
                            clear H
                            have p502 : 0 ≤ (x44_4 : Int) := of_decide_eq_true atgA_
                            have q502 : x44_4 < ((rd_L7 x3_2 (rd t497 x35_3)).length : Int) := of_decide_eq_true atgA_
                            obtain ⟨ad502, e502, hx502_0⟩ := Kd.at_int (Kd.R_reads' HL501_0.out).2.2 x44_4 p502 q502
                            cases e502
                            skip
                            replace p502 := eq_true p502
                            replace q502 := eq_true q502
                            have p503 : 0 ≤ (x5_2 : Int) := of_decide_eq_true atgA_
                            have q503 : x5_2 < (l0.length : Int) := of_decide_eq_true atgA_
                            obtain ⟨ad503, e503, hx503_0, hx503_1, hx503_2, hx503_3, hx503_4⟩ := at_T63 HR0.out x5_2 p503 q503
                            obtain rfl : ad490 = ad503 := (by injection e503)
                            replace hx503_0 := blc_ HB hx503_0
                            replace hx503_1 := blc_ HB hx503_1
                            replace hx503_2 := blc_ HB hx503_2
                            replace hx503_3 := blc_ HB hx503_3
                            replace hx503_4 := blc_ HB hx503_4
                            replace p503 := eq_true p503
                            replace q503 := eq_true q503
                            go_wp2_with (first | ((with_reducible refine gate_callee (f := 85) rfl ?_); refine goesL_ (some 52) rfl rfl Try.func85 (by kernel_rfl) rfl #[.agg #[.int .i64 ((rd_T63 l0 x5_2).f0), .int .i64 ((rd_T63 l0 x5_2).f1), .int .i64 ((rd_T63 l0 x5_2).f2), .int .i64 ((rd_T63 l0 x5_2).f3), .int .i64 ((rd_T63 l0 x5_2).f4)]] rfl atgM_ ?_; (with_reducible refine (impl_Sets.calls k4 ((rd_T63 l0 x5_2).f0) ((rd_T63 l0 x5_2).f1) ((rd_T63 l0 x5_2).f2) ((rd_T63 l0 x5_2).f3) ((rd_T63 l0 x5_2).f4) t504 _ A32.out).mono ?_); rintro e w38 ⟨v505, rfl, ho0, hb⟩; refine ⟨_, rfl, ?_⟩; have n0_ := Aside0.mk (Kd.S_elder' att19_0_4 (Kd.R_base ho0) hb); have n1_ := Aside0.mk (Kd.R_elder' att19_0_5 (Kd.R_base ho0) hb); have n2_ := Aside0.mk (Kd.R_elder' att19_0_3 (Kd.R_base ho0) hb); have n2_L := Aside0.mk (Kd.R_elder' att19_0_11 (Kd.R_base ho0) hb); have n3_ := Aside0.mk (Kd.R_lower (Kd.R_new' (Kd.R_new' ho0 (Kd.R_lt att19_0_5)) (Kd.R_lt att19_0_3)) (below_size atgB_)); have n4_ := Aside0.mk (below_step atgB_ hb); clear HO_3; clear HO_6; clear HO_33; clear HL501_0; clear HB; have HO_3 := n0_; have HO_6 := n1_; have HO_33 := n2_; have HL501_0 := n2_L; clear n2_L; have HO506 := n3_; have HB := n4_; clear n0_ n1_ n2_ n3_ n4_; (try clear hb); (try clear hb2); (try clear hk); (try clear hi); (try clear ho0); obtain ⟨Ao39, co39, eo39⟩ := Kd.R_slice HO506.out; subst eo39) | ((with_reducible refine gate_callee (f := 84) rfl ?_); refine goesL_ (some 54) rfl rfl Try.func84 (by kernel_rfl) rfl #[.slice Ao39 t504.length co39, .int .i64 (rd (rd_L7 x3_2 (rd t497 x35_3)) x44_4)] rfl atgM_ ?_; (with_reducible refine (slices_Contains_int_int.calls k4 _ _ t504 (rd (rd_L7 x3_2 (rd t497 x35_3)) x44_4) false _ ?side1 ?side2 A33.out).mono ?_); (case side1 => repeat (first | exact (Kd.R_reads' HO506.out).2.2 | (with_reducible refine Kd.C_alloc ?_ _) | (with_reducible refine Kd.C_drewN ?_ _) | (with_reducible refine Kd.C_drew ?_))); (case side2 => exact (Kd.R_reads' HO506.out).2.1); rintro e w' ⟨rfl, ⟨nd, rfl⟩⟩; refine ⟨_, rfl, ?_⟩) | ((with_reducible refine gate_builtin (b := .append) (xs := #[.tmp 56, .tmp 58]) rfl ?_); at_builtin; refine Kd.R_append (Kd.int .i64) (w0 := w) w.heap.size rfl (.tmp 56) (.tmp 58) 34 3 (.int .i64 0) 8 rfl Try.underlying34 info3 rfl (by decide) (by omega) u6 x6_4 (rd (rd_L7 x3_2 (rd t497 x35_3)) x44_4) [.int .i64 (rd (rd_L7 x3_2 (rd t497 x35_3)) x44_4)] (fun k_ => some k_ ≠ (.slice (some ad500) t497.length co20 : Value).ownBlock ∧ some k_ ≠ (.slice Ao39 t504.length co39 : Value).ownBlock) (fun _ => False) rfl rfl ?aP (fun _ hk => hk.elim) ?aF ?aO ?aB ?aS ?aL ?_; (case aP => exact rfl); (case aB => exact atgB_); (case aF => exact (fun k_ hk => ⟨Kd.fresh' (Kd.R_lt att19_0_3) k_ hk, Kd.fresh' (Kd.R_lt (by exact toR_ (HO506.out))) k_ hk⟩)); (case aO => exact att19_0_5); (case aS => exact (below_size atgB_)); (case aL => have := LMc37.out; omega); intro v509 w40 ho hb hg hat; rw [← Ny508.out] at ho; have n0_ := Aside0.mk (Kd.S_after (ok := (fun k_ => some k_ ≠ (.slice (some ad500) t497.length co20 : Value).ownBlock ∧ some k_ ≠ (.slice Ao39 t504.length co39 : Value).ownBlock)) (by exact toS_ (Kd.S_mono HO_3.out (fun _ hk => ⟨⟨hk.1.2, hk.2⟩, hk.1.1⟩))) hg hat); have n1_ := Aside0.mk (Kd.R_after (ok := (fun k_ => some k_ ≠ (.slice Ao39 t504.length co39 : Value).ownBlock)) (by exact toR_ (Kd.R_mono HO_33.out (fun _ hk => ⟨hk.2, hk.1⟩))) hg hat); have n1_L := Aside0.mk (Kd.R_after (ok := (fun k_ => some k_ ≠ (.slice Ao39 t504.length co39 : Value).ownBlock)) (by exact toR_ (Kd.R_mono HL501_0.out (fun _ hk => ⟨hk.2, hk.1⟩))) hg hat); have n2_ := Aside0.mk (Kd.R_after (ok := (fun k_ => some k_ ≠ (.slice (some ad500) t497.length co20 : Value).ownBlock)) (by exact toR_ (Kd.R_mono HO506.out (fun _ hk => ⟨hk.2, hk.1.2⟩))) hg hat); have n3_ := Aside0.mk (hb); have n4_ := Aside0.mk (ho); clear HO_3; clear HO_33; clear HL501_0; clear HO506; clear HB; clear HO_6; have HO_3 := n0_; have HO_33 := n1_; have HL501_0 := n1_L; clear n1_L; have HO506 := n2_; have HB := n3_; have HO510 := n4_; clear n0_ n1_ n2_ n3_ n4_; clear ho hb hg hat))
                            go_roundg k4
                            case measure => have := HK1.out; have := HK2.out; have := HK3.out; have := HK4.out; omega
                            case rel => exact ⟨(y508), (wrap64 (x44_4 + 1)), atgR_, H', ⟨att19_0_9⟩, ⟨by exact toS_ (Kd.S_mono HO_3.out (fun _ hk => ⟨hk.2, hk.1.1⟩))⟩, ⟨by exact toR_ (Kd.R_mono HO510.out (fun _ hk => hk.1))⟩, ⟨by exact toR_ (Kd.R_mono HO_33.out (fun _ hk => hk.2))⟩, ⟨by exact toR_ (Kd.R_mono HL501_0.out (fun _ hk => hk.2))⟩, ⟨atgB_⟩⟩
                           ·rw [if_neg c37] at H
                            exact absurd H (by simp)
                         ·rw [if_neg c31] at H
                          exact absurd H (by simp)
                        ·rw [if_neg c30] at H
                         exact absurd H (by simp)
                       ·rw [if_neg c29] at H
                        exact absurd H (by simp)
                      ·rw [if_neg c28] at H
                       exact absurd H (by simp)
                     ·rw [if_neg c27] at H
                      have c27b0 := decide_eq_false c27
                      clear c27
                      have H' := Aside0.mk H
                      clear H
                      go_wp2
                      go_roundg k4
                      case measure => have := HK1.out; have := HK2.out; have := HK3.out; have := HK4.out; omega
                      case rel => exact ⟨(x6_4), (wrap64 (x35_3 + 1)), atgR_, H', ⟨att19_0_9⟩, ⟨att19_0_4⟩, ⟨att19_0_5⟩, ⟨att19_0_3⟩, ⟨atgB_⟩⟩
                  ·rw [if_neg c25] at H
                   exact absurd H (by simp)
                 ·rw [if_neg c24] at H
                  exact absurd H (by simp)
                ·rw [if_neg c23] at H
                 exact absurd H (by simp)
               ·rw [if_neg c22] at H
                exact absurd H (by simp)
              ·rw [if_neg c21] at H
               have c21b0 := decide_eq_false c21
               clear c21
               replace H := Option.bind_eq_some_iff.mp H
               obtain ⟨t511, A410, H⟩ := H
               (try dsimp only at H)
               have A41 := Aside0.mk A410
               clear A410
               replace H := Option.bind_eq_some_iff.mp H
               obtain ⟨t512, A420, H⟩ := H
               (try dsimp only at H)
               have A42 := Aside0.mk A420
               clear A420
               by_cases c43 : 0 ≤ x5_2
               ·rw [if_pos c43] at H
                have c43b0 := decide_eq_true c43
                clear c43
                by_cases c44 : x5_2 < (x3_2.length : Int)
                ·rw [if_pos c44] at H
                 have c44b0 := decide_eq_true c44
                 clear c44
                 replace H := Option.bind_eq_some_iff.mp H
                 obtain ⟨t516, A450, H⟩ := H
                 (try dsimp only at H)
                 have A45 := Aside0.mk A450
                 clear A450
                 by_cases c46 : t516 = true
                 ·subst c46
                  rw [if_pos rfl] at H
                  have H' := Aside0.mk H
                  clear H
                  obtain ⟨Ao47, co47, eo47⟩ := Kd.R_slice HO_6.out
                  subst eo47
                  go_wp2_with (first | ((with_reducible refine gate_callee (f := 86) rfl ?_); refine goesL_ (some 63) rfl rfl Try.func86 (by kernel_rfl) rfl #[.slice Ao47 x6_3.length co47] rfl atgM_ ?_; (with_reducible refine (slices_Sort_int_int.calls (fun k_ => some k_ = (.slice Ao47 x6_3.length co47 : Value).ownBlock) (.slice Ao47 x6_3.length co47) x6_3 t511 w _ ?side1 ?side2 A41.out).mono ?_); (case side1 => repeat (first | (with_reducible first | exact HB.out | apply below_alloc | apply pw_below_drewN | apply below_drew1) | exact HB.out)); (case side2 => exact Kd.R_tight rfl HO_6.out); rintro e w48 ⟨rfl, hy0, hb, hkp⟩; refine ⟨_, rfl, ?_⟩; refine swap4_ (Kd.S_mono (ok' := fun k_ => some k_ ≠ (.slice Ao47 x6_3.length co47 : Value).ownBlock ∧ some k_ ≠ (.slice Ao20 t497.length co20 : Value).ownBlock) (Kd.S_keptB (HO_3.out) hkp (fun k_ hk_ hs_ => (hk_.1) hs_)) (fun k_ hk_ => ⟨hk_.1.1, hk_.1.2⟩)) (Kd.R_reok rfl hy0 (fun k_ e_ => HO_6.out.1 k_ e_)) (Kd.R_mono (ok' := fun k_ => some k_ ≠ (.slice Ao47 x6_3.length co47 : Value).ownBlock) (Kd.R_keptB (HO_33.out) hkp (fun k_ hk_ hs_ => (hk_) hs_)) (fun k_ hk_ => hk_.1)) (hb) ?_; clear HO_3 HO_6 HO_33 HB; intro HO_3 HO_6 HO_33 HB; (try clear hb); (try clear hkp); (try clear hy0)) | ((with_reducible refine gate_callee (f := 87) rfl ?_); refine goesL_ (some 65) rfl rfl Try.func87 (by kernel_rfl) rfl #[.slice Ao47 x6_3.length co47] rfl atgM_ ?_; (with_reducible refine (slices_Compact_int_int.calls (fun k_ => some k_ = (.slice Ao47 x6_3.length co47 : Value).ownBlock) (.slice Ao47 x6_3.length co47) t511 t512 w _ ?side1 ?side2 A42.out).mono ?_); (case side1 => repeat (first | (with_reducible first | exact HB.out | apply below_alloc | apply pw_below_drewN | apply below_drew1) | exact HB.out)); (case side2 => exact Kd.R_tight rfl HO_6.out); rintro e w49 ⟨v513, rfl, ho0, hb, hkp⟩; refine ⟨_, rfl, ?_⟩; refine swap4_ (Kd.S_mono (ok' := fun k_ => some k_ ≠ (.slice Ao20 t497.length co20 : Value).ownBlock ∧ some k_ ≠ (v513 : Value).ownBlock) (Kd.S_keptB (HO_3.out) hkp (fun k_ hk_ hs_ => (hk_.1) hs_)) (fun k_ hk_ => ⟨hk_.1.2, fun e_ => Or.elim (ho0.1 k_ e_.symm) (fun hs_ => hk_.2.1 hs_) (fun hn_ => Nat.not_le.2 hk_.2.2 hn_)⟩)) (Kd.R_mono (ok' := fun k_ => some k_ ≠ (v513 : Value).ownBlock) (Kd.R_keptB (HO_33.out) hkp (fun k_ hk_ hs_ => (hk_) hs_)) (fun k_ hk_ => fun e_ => Or.elim (ho0.1 k_ e_.symm) (fun hs_ => hk_.2.1 hs_) (fun hn_ => Nat.not_le.2 hk_.2.2 hn_))) (Kd.R_mono (ok' := fun k_ => some k_ ≠ (.slice Ao20 t497.length co20 : Value).ownBlock) ho0 (fun k_ hk_ => Or.elim hk_ (fun hs_ => fun e_ => (((HO_33.out).1 k_ e_.symm)) hs_) (fun hn_ => (Kd.fresh' (Kd.R_lt att19_0_3) k_ hn_)))) (hb) ?_; clear HO_3 HO_33 HB HO_6; intro HO_3 HO_33 HO514 HB; (try clear hb); (try clear hkp); (try clear ho0); obtain ⟨Ao50, co50, eo50⟩ := Kd.S_slice HO_3.out; subst eo50; have p515 : 0 ≤ (x5_2 : Int) := of_decide_eq_true atgA_; have q515 : x5_2 < (x3_2.length : Int) := of_decide_eq_true atgA_; obtain ⟨ad515, A515_0, c515_0, e515, hx515_0, HC515_0, HR515_0, HL515_0⟩ := rowS_ HO_3.out (rd_L7 x3_2 x5_2) x5_2 rfl p515 att19_1_1; cases e515; replace p515 := eq_true p515; replace q515 := eq_true q515; obtain ⟨Ao51, co51, eo51⟩ := Kd.R_slice HO514.out; subst eo51) | ((with_reducible refine gate_callee (f := 88) rfl ?_); refine goesL_ (some 71) rfl rfl Try.func88 (by kernel_rfl) rfl #[.slice Ao51 t512.length co51, .slice A515_0 (rd_L7 x3_2 x5_2).length c515_0] rfl atgM_ ?_; (with_reducible refine (slices_Equal_int_int.calls k3 _ _ t512 _ _ (rd_L7 x3_2 x5_2) true _ ?side1 ?side2 ?side3 ?side4 A45.out).mono ?_); (case side1 => repeat (first | exact (Kd.R_reads' HO514.out).2.2 | (with_reducible refine Kd.C_alloc ?_ _) | (with_reducible refine Kd.C_drewN ?_ _) | (with_reducible refine Kd.C_drew ?_))); (case side2 => exact (Kd.R_reads' HO514.out).2.1); (case side3 => repeat (first | exact att19_0_7 | (with_reducible refine Kd.C_alloc ?_ _) | (with_reducible refine Kd.C_drewN ?_ _) | (with_reducible refine Kd.C_drew ?_))); (case side4 => exact HC515_0.out); rintro e w' ⟨rfl, ⟨nd, rfl⟩⟩; refine ⟨_, rfl, ?_⟩))
                  go_roundg k3
                  case measure => have := HK1.out; have := HK2.out; have := HK3.out; omega
                  case rel => exact ⟨(x3_2), (x4_2), (wrap64 (x5_2 - 1)), atgR_, atgR_, H', ⟨by have := HK1.out; have := HK2.out; have := HK3.out; omega⟩, ⟨att19_0_10⟩, ⟨atgB_⟩⟩
                 ·replace c46 := Bool.eq_false_iff.mpr c46
                  subst c46
                  rw [if_neg (show ¬ (false = true) by decide)] at H
                  obtain ⟨y517, hy517⟩ : ∃ y_ : List (List Int), y_ = (x3_2.set (x5_2 : Int).toNat t512) := ⟨_, rfl⟩
                  replace H : (impl_LiveAt.l1 k3 l0 y517 true (wrap64 (x5_2 - 1))) = some r := by rw [hy517]; exact H
                  have Ny517 := Aside0.mk hy517
                  clear hy517
                  have H' := Aside0.mk H
                  clear H
                  obtain ⟨Ao53, co53, eo53⟩ := Kd.R_slice HO_6.out
                  subst eo53
                  go_wp2_with (first | ((with_reducible refine gate_callee (f := 86) rfl ?_); refine goesL_ (some 63) rfl rfl Try.func86 (by kernel_rfl) rfl #[.slice Ao53 x6_3.length co53] rfl atgM_ ?_; (with_reducible refine (slices_Sort_int_int.calls (fun k_ => some k_ = (.slice Ao53 x6_3.length co53 : Value).ownBlock) (.slice Ao53 x6_3.length co53) x6_3 t511 w _ ?side1 ?side2 A41.out).mono ?_); (case side1 => repeat (first | (with_reducible first | exact HB.out | apply below_alloc | apply pw_below_drewN | apply below_drew1) | exact HB.out)); (case side2 => exact Kd.R_tight rfl HO_6.out); rintro e w54 ⟨rfl, hy0, hb, hkp⟩; refine ⟨_, rfl, ?_⟩; refine swap4_ (Kd.S_mono (ok' := fun k_ => some k_ ≠ (.slice Ao53 x6_3.length co53 : Value).ownBlock ∧ some k_ ≠ (.slice Ao20 t497.length co20 : Value).ownBlock) (Kd.S_keptB (HO_3.out) hkp (fun k_ hk_ hs_ => (hk_.1) hs_)) (fun k_ hk_ => ⟨hk_.1.1, hk_.1.2⟩)) (Kd.R_reok rfl hy0 (fun k_ e_ => HO_6.out.1 k_ e_)) (Kd.R_mono (ok' := fun k_ => some k_ ≠ (.slice Ao53 x6_3.length co53 : Value).ownBlock) (Kd.R_keptB (HO_33.out) hkp (fun k_ hk_ hs_ => (hk_) hs_)) (fun k_ hk_ => hk_.1)) (hb) ?_; clear HO_3 HO_6 HO_33 HB; intro HO_3 HO_6 HO_33 HB; (try clear hb); (try clear hkp); (try clear hy0)) | ((with_reducible refine gate_callee (f := 87) rfl ?_); refine goesL_ (some 65) rfl rfl Try.func87 (by kernel_rfl) rfl #[.slice Ao53 x6_3.length co53] rfl atgM_ ?_; (with_reducible refine (slices_Compact_int_int.calls (fun k_ => some k_ = (.slice Ao53 x6_3.length co53 : Value).ownBlock) (.slice Ao53 x6_3.length co53) t511 t512 w _ ?side1 ?side2 A42.out).mono ?_); (case side1 => repeat (first | (with_reducible first | exact HB.out | apply below_alloc | apply pw_below_drewN | apply below_drew1) | exact HB.out)); (case side2 => exact Kd.R_tight rfl HO_6.out); rintro e w55 ⟨v513, rfl, ho0, hb, hkp⟩; refine ⟨_, rfl, ?_⟩; refine swap4_ (Kd.S_mono (ok' := fun k_ => some k_ ≠ (.slice Ao20 t497.length co20 : Value).ownBlock ∧ some k_ ≠ (v513 : Value).ownBlock) (Kd.S_keptB (HO_3.out) hkp (fun k_ hk_ hs_ => (hk_.1) hs_)) (fun k_ hk_ => ⟨hk_.1.2, fun e_ => Or.elim (ho0.1 k_ e_.symm) (fun hs_ => hk_.2.1 hs_) (fun hn_ => Nat.not_le.2 hk_.2.2 hn_)⟩)) (Kd.R_mono (ok' := fun k_ => some k_ ≠ (v513 : Value).ownBlock) (Kd.R_keptB (HO_33.out) hkp (fun k_ hk_ hs_ => (hk_) hs_)) (fun k_ hk_ => fun e_ => Or.elim (ho0.1 k_ e_.symm) (fun hs_ => hk_.2.1 hs_) (fun hn_ => Nat.not_le.2 hk_.2.2 hn_))) (Kd.R_mono (ok' := fun k_ => some k_ ≠ (.slice Ao20 t497.length co20 : Value).ownBlock) ho0 (fun k_ hk_ => Or.elim hk_ (fun hs_ => fun e_ => (((HO_33.out).1 k_ e_.symm)) hs_) (fun hn_ => (Kd.fresh' (Kd.R_lt att19_0_3) k_ hn_)))) (hb) ?_; clear HO_3 HO_33 HB HO_6; intro HO_3 HO_33 HO514 HB; (try clear hb); (try clear hkp); (try clear ho0); obtain ⟨Ao56, co56, eo56⟩ := Kd.S_slice HO_3.out; subst eo56; have p515 : 0 ≤ (x5_2 : Int) := of_decide_eq_true atgA_; have q515 : x5_2 < (x3_2.length : Int) := of_decide_eq_true atgA_; obtain ⟨ad515, A515_0, c515_0, e515, hx515_0, HC515_0, HR515_0, HL515_0⟩ := rowS_ HO_3.out (rd_L7 x3_2 x5_2) x5_2 rfl p515 att19_1_1; cases e515; replace p515 := eq_true p515; replace q515 := eq_true q515; obtain ⟨Ao57, co57, eo57⟩ := Kd.R_slice HO514.out; subst eo57) | ((with_reducible refine gate_callee (f := 88) rfl ?_); refine goesL_ (some 71) rfl rfl Try.func88 (by kernel_rfl) rfl #[.slice Ao57 t512.length co57, .slice A515_0 (rd_L7 x3_2 x5_2).length c515_0] rfl atgM_ ?_; (with_reducible refine (slices_Equal_int_int.calls k3 _ _ t512 _ _ (rd_L7 x3_2 x5_2) false _ ?side1 ?side2 ?side3 ?side4 A45.out).mono ?_); (case side1 => repeat (first | exact (Kd.R_reads' HO514.out).2.2 | (with_reducible refine Kd.C_alloc ?_ _) | (with_reducible refine Kd.C_drewN ?_ _) | (with_reducible refine Kd.C_drew ?_))); (case side2 => exact (Kd.R_reads' HO514.out).2.1); (case side3 => repeat (first | exact att19_0_7 | (with_reducible refine Kd.C_alloc ?_ _) | (with_reducible refine Kd.C_drewN ?_ _) | (with_reducible refine Kd.C_drew ?_))); (case side4 => exact HC515_0.out); rintro e w' ⟨rfl, ⟨nd, rfl⟩⟩; refine ⟨_, rfl, ?_⟩; (try (rw [drewN_self w55]; generalize hq_ : World.drewN w55 _ = w55; refine swap6_ (show (Kd.R (Kd.int .i64) 3 w55 w.heap.size (fun k_ => some k_ ≠ (.slice Ao57 t512.length co57 : Value).ownBlock ∧ some k_ ≠ (.slice (some ad515) x3_2.length co56 : Value).ownBlock ∧ some k_ ≠ (.slice Ao20 t497.length co20 : Value).ownBlock) (.slice A515_0 (rd_L7 x3_2 x5_2).length c515_0) (rd_L7 x3_2 x5_2)) from by rw [← hq_]; exact (by exact toR_ (Kd.R_mono HL515_0.out (fun _ hk => ⟨hk.1.2, ⟨hk.2, hk.1.1⟩⟩)))) (show (Kd.R (Kd.int .i64) 3 w55 w.heap.size (fun k_ => some k_ ≠ (.slice Ao20 t497.length co20 : Value).ownBlock) (.slice Ao57 t512.length co57) t512) from by rw [← hq_]; exact (by exact toR_ (HO514.out))) (show (Kd.S (Kd.slice 3 (Kd.int .i64)) 34 w55 w.heap.size (fun k_ => some k_ ≠ (.slice Ao57 t512.length co57 : Value).ownBlock ∧ some k_ ≠ (.slice Ao20 t497.length co20 : Value).ownBlock) (.slice (some ad515) x3_2.length co56) x3_2) from by rw [← hq_]; exact (by exact toS_ (Kd.S_mono HO_3.out (fun _ hk => ⟨hk.2, hk.1⟩)))) (show (Kd.R (Kd.int .i64) 3 w55 w.heap.size (fun k_ => some k_ ≠ (.slice Ao57 t512.length co57 : Value).ownBlock) (.slice Ao20 t497.length co20) t497) from by rw [← hq_]; exact att19_0_3) (show (Below w.heap.size w w55) from by rw [← hq_]; exact atgB_) (show (Kd.C (Kd.int .i64) w55 A515_0 (rd_L7 x3_2 x5_2).length (rd_L7 x3_2 x5_2)) from by rw [← hq_]; exact att19_0_7) ?_; clear HL515_0 HO514 HO_3 HO_33 HB HR515_0 hq_; intro HL515_0 HO514 HO_3 HO_33 HB HR515_0)); have p52 : 0 ≤ (x5_2 : Int) := of_decide_eq_true atgA_; have q52 : (x5_2 : Int) < ((x3_2.length : Int) : Int) := of_decide_eq_true atgA_; obtain ⟨go52, co52, eo52, gb52, gl52, cl52, HG52⟩ := Kd.S_form HO_3.out (by omega); (first | cases eo52 | (injection eo52 with ea_ en_ ec_; (first | subst ea_ | (injection ea_ with ea_; subst ea_)); subst ec_; clear en_)); have GB52 := Aside0.mk gb52; have GG52 := Aside0.mk HG52; clear gb52 gl52 HG52; (first | simp only [add_plain] at hx515_0 | skip); obtain ⟨_, ce52, hcl52, hM52, hcc52, hfr52, _, _⟩ := Kd.S_elem HO_3.out [] (x5_2 : Int) p52 q52; obtain ⟨ve52_0, rfl, ge52_0⟩ := hM52; have hx52_0 := hcc52 0 _ rfl; have hf52_0 := hfr52 0; (try simp only [show ((Kd.slice 3 (Kd.int .i64))).sz = 1 from rfl, Nat.mul_one, Nat.add_zero] at hx52_0); (try simp only [show ((Kd.slice 3 (Kd.int .i64))).sz = 1 from rfl, Nat.mul_one, Nat.add_zero] at hf52_0); clear hcl52 hcc52 hfr52 ; replace p52 := eq_true p52; replace q52 := eq_true q52; have HX58 := Aside0.mk (show Kd.S (Kd.slice 3 (Kd.int .i64)) 34 w55 w.heap.size (fun k_ => ((fun k_ => some k_ ≠ (.slice Ao20 t497.length co20 : Value).ownBlock)) k_ ∧ ¬ ((fun k_ => some k_ = (.slice Ao57 t512.length co57 : Value).ownBlock)) k_) (.slice (some ⟨go52, 0, none⟩) x3_2.length co56) x3_2 from (by exact toS_ (Kd.S_mono HO_3.out (fun k_ hk => by first | exact ⟨hk.1, fun e_ => hk.2 e_⟩ | exact ⟨hk.2, fun e_ => hk.1 e_⟩)))); obtain ⟨oki58, ce58, hcl58, hM58, hcc58, hfr58, hoki58, hH58⟩ := Kd.S_elem HX58.out [] (x5_2 : Int) (of_decide_eq_true atgA_) att19_1_0; obtain ⟨ve58_0, rfl, ge58_0⟩ := hM58; have HP58 := Kd.S_seg hH58 (of_decide_eq_true atgA_) att19_1_0 (seg := [.slice Ao57 t512.length co57]) (j := 0) (show 1 ≤ 1 from by decide) (x' := t512) (Kd.M_row (Kd.R_mono (Kd.R_tight rfl (Kd.R_mono (ok' := fun k_ => ((fun k_ => some k_ ≠ (.slice Ao20 t497.length co20 : Value).ownBlock)) k_ ∧ k_ ≠ go52) (Kd.R_apart' (HO514.out) (Kd.S_typed HO_3.out) (by decide)) (fun k_ hk => ⟨hk.1, fun e_ => (hk.2) (by rw [e_]; rfl)⟩))) (fun _ h_ => Or.inr (h_)))) (fun _ hk => hk) (fun k_ hk_ => ((Kd.R_mono (ok' := fun k_ => ((fun k_ => some k_ ≠ (.slice Ao20 t497.length co20 : Value).ownBlock)) k_ ∧ k_ ≠ go52) (Kd.R_apart' (HO514.out) (Kd.S_typed HO_3.out) (by decide)) (fun k_ hk => ⟨hk.1, fun e_ => (hk.2) (by rw [e_]; rfl)⟩))).1 k_ hk_.symm); have hx58_0 := hcc58 0 _ rfl; (try simp only [show ((Kd.slice 3 (Kd.int .i64))).sz = 1 from rfl, Nat.mul_one, Nat.add_zero] at hx58_0); have hf58_0 := hfr58 0; (try simp only [show ((Kd.slice 3 (Kd.int .i64))).sz = 1 from rfl, Nat.mul_one, Nat.add_zero] at hf58_0); clear hcl58 hcc58 hfr58 hoki58 hH58; (try simp only [show ((Kd.slice 3 (Kd.int .i64))).sz = 1 from rfl, Nat.mul_one, Nat.add_zero] at HP58); obtain ⟨av_sl, cv_sl, ev_sl⟩ := Kd.R_slice HO514.out) | ((with_reducible refine gate_store (t := 34) (p := 76) rfl ?_); refine store_event (t := 34) (p := 76) (v := ?vo_w59) (w1 := (w55.setCell ⟨go52, (x5_2 : Int).toNat, none⟩ (.slice Ao57 t512.length co57))) ?hg ?ho ?hn ?hr ?_; (case ho => rfl); (case hg => rfl); (case hn => rfl); (case hr => first | (go_simp; done) | (go_simp; rfl)); intro w59 hw; have hg : w55.grownBy w59 (some go52) := (by rw [hw]; exact HP58.2); have hp_ : Kd.S (Kd.slice 3 (Kd.int .i64)) 34 w59 w.heap.size (fun k_ => some k_ ≠ (.slice Ao20 t497.length co20 : Value).ownBlock) (.slice (some ⟨go52, 0, none⟩) x3_2.length co56) y517 := (by rw [hw, Ny517.out]; exact HP58.1); clear HP58; refine swap4_ (hp_) (Kd.R_over' (v := (.slice (some ⟨go52, 0, none⟩) x3_2.length co56)) att19_0_3 (Kd.S_typed HO_3.out) (by decide) hg) (Kd.R_after (v := (.slice (some ⟨go52, 0, none⟩) x3_2.length co56)) (v1 := (.slice (some ⟨go52, 0, none⟩) x3_2.length co56)) (ok := (fun k_ => some k_ ≠ (.slice Ao20 t497.length co20 : Value).ownBlock ∧ some k_ ≠ (.slice Ao57 t512.length co57 : Value).ownBlock)) (by (with_reducible repeat (first | apply Kd.R_alloc | apply Kd.R_drewN | apply Kd.R_drew)); first | exact HL515_0.out | exact Kd.R_mono HL515_0.out (fun _ hk => ⟨⟨hk.2.2, hk.1⟩, hk.2.1⟩)) hg (.inl rfl)) ((by rw [hw]; exact below_set (HB.out) GB52.out : Below w.heap.size w w59)) ?_; clear HO_3 HO_33 HL515_0 HB HO514; intro HO_3 HO_33 HL515_0 HB; clear hg hw hp_))
                  go_roundg k3
                  case measure => have := HK1.out; have := HK2.out; have := HK3.out; omega
                  case rel => exact ⟨(y517), (true), (wrap64 (x5_2 - 1)), atgR_, atgR_, H', ⟨by have := HK1.out; have := HK2.out; have := HK3.out; omega⟩, ⟨att19_0_10⟩, ⟨atgB_⟩⟩
                ·rw [if_neg c44] at H
                 exact absurd H (by simp)
               ·rw [if_neg c43] at H
                exact absurd H (by simp)
           ·rw [if_neg c12] at H
            exact absurd H (by simp)
          ·rw [if_neg c11] at H
           exact absurd H (by simp)
         ·rw [if_neg c10] at H
          have c10b0 := decide_eq_false c10
          clear c10
          have H' := Aside0.mk H
          clear H
          go_wp2
          go_roundg k2
          case measure => have := HK1.out; have := HK2.out; omega
          case rel => exact ⟨(x3_2), (x4_2), atgR_, H', ⟨by have := HK1.out; have := HK2.out; omega⟩, ⟨att19_0_4⟩, ⟨atgB_⟩⟩
      ·replace c9 := Bool.eq_false_iff.mpr c9
       subst c9
       rw [if_neg (show ¬ (false = true) by decide)] at H
       obtain rfl := Option.some.inj H
       go_wp2
       go_ret
       exact ⟨_, retT_, by exact toS_ (HO_3.out), atgB_⟩
   ·rw [if_neg c5] at H
    exact absurd H (by simp)
  ·rw [if_neg c4] at H
   exact absurd H (by simp)
 ·replace c3 := Bool.eq_false_iff.mpr c3
  subst c3
  rw [if_neg (show ¬ (false = true) by decide)] at H
  obtain rfl := Option.some.inj H
  go_enter Try.func36, Try.ntmps36
  go_wp2_with (first | ((with_reducible refine gate_callee (f := 34) rfl ?_); refine goesL_ (some 12) rfl rfl Try.func34 (by kernel_rfl) rfl #[.slice A0 l0.length c0, .int .i64 3] rfl atgM_ ?_; (with_reducible refine (impl_BodyOk.calls k _ _ l0 3 false _ ?side1 ?side2 A2.out).mono ?_); (case side1 => repeat (first | exact HR0.out | (with_reducible refine Kd.C_alloc ?_ _) | (with_reducible refine Kd.C_drewN ?_ _) | (with_reducible refine Kd.C_drew ?_))); (case side2 => exact HC0.out); rintro e w60 ⟨rfl, hb⟩; refine ⟨_, rfl, ?_⟩; refine swap1_ (below_step atgB_ hb) ?_; clear HB; intro HB; (try clear hb); (try clear hb2); (try clear hk); (try clear hi)))
  go_ret
  exact ⟨_, retT_, by first | exact Kd.S_nil _ _ _ _ _ | exact Kd.N_nil _ _ _ _ _ | exact Kd.V_nil _ _ _ _ _ | exact Kd.Q_nil _ _ _ _ _ | exact Kd.R_nil _ _ _ _ _, atgB_⟩

end Go.Proofs.Ytocimkpafakiaaa.XFnExactTrimProg
