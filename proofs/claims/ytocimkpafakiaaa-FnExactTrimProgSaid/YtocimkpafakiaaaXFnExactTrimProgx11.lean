/- Each Go function that the law reaches as a Lean function, and that Go comes to just its answer; written by this session's xprint.py over the kit's printer. -/
import Derived.Test.YtocimkpafakiaaaXFnExactTrimProgx0
import Derived.Test.YtocimkpafakiaaaXFnExactTrimProgx7
import Derived.Test.YtocimkpafakiaaaXFnExactTrimProgx10
namespace Go.Proofs.Ytocimkpafakiaaa.XFnExactTrimProg
open Go.RowKit Go.Proofs.YtocimkpafakiaaaW.PrintWords Go.Proofs.YtocimkpafakiaaaW.PrintLast Go.Proofs.YtocimkpafakiaaaW.PrintMore
attribute [local go_sem] max2_int min2_int max_two min_two max_three min_three max_four min_four   -- for this text's walks alone
set_option linter.unusedVariables false
set_option linter.unusedSimpArgs false

theorem att12_0_0 {p : Prop} (h : p := by rw [hw]; exact (by (with_reducible repeat (first | refine blk_drewN ?_ _ | refine blk_drew ?_ | refine blk_alloc ?_ _)); refine blk_put (cs := #[.int .i64 ((rd_T63 l0 x6_1).f0), .int .i64 ((rd_T63 l0 x6_1).f1), .int .i64 ((rd_T63 l0 x6_1).f2), .int .i64 ((rd_T63 l0 x6_1).f3), .int .i64 0]) ?_ 4 _ rfl; (with_reducible repeat (first | refine blk_drewN ?_ _ | refine blk_drew ?_ | refine blk_alloc ?_ _)); refine blk_put (cs := #[.int .i64 ((rd_T63 l0 x6_1).f0), .int .i64 ((rd_T63 l0 x6_1).f1), .int .i64 ((rd_T63 l0 x6_1).f2), .int .i64 0, .int .i64 0]) ?_ 3 _ rfl; (with_reducible repeat (first | refine blk_drewN ?_ _ | refine blk_drew ?_ | refine blk_alloc ?_ _)); refine blk_put (cs := #[.int .i64 ((rd_T63 l0 x6_1).f0), .int .i64 ((rd_T63 l0 x6_1).f1), .int .i64 0, .int .i64 0, .int .i64 0]) ?_ 2 _ rfl; (with_reducible repeat (first | refine blk_drewN ?_ _ | refine blk_drew ?_ | refine blk_alloc ?_ _)); refine blk_put (cs := #[.int .i64 ((rd_T63 l0 x6_1).f0), .int .i64 0, .int .i64 0, .int .i64 0, .int .i64 0]) ?_ 1 _ rfl; (with_reducible repeat (first | refine blk_drewN ?_ _ | refine blk_drew ?_ | refine blk_alloc ?_ _)); refine blk_put (cs := #[.int .i64 0, .int .i64 0, .int .i64 0, .int .i64 0, .int .i64 0]) ?_ 0 _ rfl; (with_reducible repeat (first | refine blk_drewN ?_ _ | refine blk_drew ?_ | refine blk_alloc ?_ _)); exact BK362.out)) : p := h
theorem att12_0_2 {p : Prop} (h : p := by exact toR_ (Kd.R_mono (farR5_ (Kd.R_types HO_5.out BK362.out (by decide))) (fun _ hk => trivial))) : p := h
theorem att12_0_3 {p : Prop} (h : p := by exact toR_ (Kd.R_mono (farR5_ (Kd.R_types HO_3.out BK362.out (by decide))) (fun _ hk => trivial))) : p := h
theorem att12_0_4 {p : Prop} (h : p := by exact toS_ (Kd.S_mono (farS5_ (Kd.S_types HO_4.out BK362.out (by decide))) (fun _ hk => hk.1))) : p := h
theorem att12_0_5 {p : Prop} (h : p := by repeat (first | (with_reducible first | exact HB.out | apply below_alloc | apply pw_below_drewN | apply below_drew1 | refine below_set ?_ GE362.out) | exact HB.out)) : p := h
theorem att12_0_7 {p : Prop} (h : p := by exact toR_ (HO_3.out)) : p := h
theorem att12_0_8 {p : Prop} (h : p := by exact toR_ (HO_5.out)) : p := h
theorem att12_0_9 {p : Prop} (h : p := by exact toR_ (HO351.out)) : p := h
theorem att12_0_10 {p : Prop} (h : p := by exact toS_ (HO_4.out)) : p := h
theorem att12_0_11 {p : Prop} (h : p := by repeat (first | (with_reducible exact HR370_0.out) | (with_reducible refine Kd.C_alloc ?_ _) | (with_reducible refine Kd.C_drewN ?_ _) | (with_reducible refine Kd.C_drew ?_) | exact HR370_0.out)) : p := h
theorem att12_0_12 {p : Prop} (h : p := by repeat (first | (with_reducible exact HR364_0.out) | (with_reducible refine Kd.C_alloc ?_ _) | (with_reducible refine Kd.C_drewN ?_ _) | (with_reducible refine Kd.C_drew ?_) | exact HR364_0.out)) : p := h
theorem att12_0_13 {p : Prop} (h : p := by exact toS_ (Kd.S_mono HO_4.out (fun _ hk => ⟨trivial, hk⟩))) : p := h
theorem att12_0_14 {p : Prop} (h : p := by (with_reducible repeat (first | refine blk_drewN ?_ _ | refine blk_drew ?_ | refine blk_alloc ?_ _)); exact BK362.out) : p := h
theorem att12_0_15 {p : Prop} (h : p := by exact toS_ (HO354.out)) : p := h
theorem att12_0_17 {p : Prop} (h : p := by exact toR_ (Kd.R_mono HL370_0.out (fun _ hk => ⟨hk.2, hk.1⟩))) : p := h
theorem att12_0_18 {p : Prop} (h : p := by exact toR_ (Kd.R_mono HL364_0.out (fun _ hk => ⟨hk.2, hk.1⟩))) : p := h
theorem att12_0_19 {p : Prop} (h : p := by exact toS_ (Kd.S_mono HO_4.out (fun _ hk => hk.2))) : p := h
theorem att12_0_21 {p : Prop} (h : p := by exact toR_ (HO380.out)) : p := h
theorem att12_0_22 {p : Prop} (h : p := by exact toR_ (HO357.out)) : p := h
theorem att12_0_23 {p : Prop} (h : p := by first | rfl | (simp; done) | (simp only [← hji43] <;> (first | rfl | simp)) | (simp [*]; done)) : p := h
theorem att12_0_24 {p : Prop} (h : p := by first | rfl | (simp; done) | (simp only [← hji24] <;> (first | rfl | simp)) | (simp [*]; done)) : p := h
theorem att12_1_0 {p : Prop} (h : p := by first | exact q370 | exact of_decide_eq_true atgA_ | (have e_ := (Kd.S_reads' HO_4.out).1; omega)) : p := h
theorem att12_1_1 {p : Prop} (h : p := by first | exact q364 | exact of_decide_eq_true atgA_ | (have e_ := (Kd.S_reads' HO_4.out).1; omega)) : p := h
theorem att12_1_2 {p : Prop} (h : p := by have h_ : ((rd t381 x5_1) : Int) < ((x3_1.length : Int) : Int) := of_decide_eq_true atgA_; first | exact h_ | (have e_ := (Kd.R_reads' HO_3.out).1; omega) | simpa using h_) : p := h
theorem att12_1_3 {p : Prop} (h : p := by rw [hw]; exact att12_0_5) : p := h
theorem att12_1_4 {p : Prop} (h : p := by rw [hw]; exact att12_0_4) : p := h
theorem att12_1_5 {p : Prop} (h : p := by rw [hw]; exact att12_0_3) : p := h
theorem att12_1_6 {p : Prop} (h : p := by rw [hw]; exact att12_0_2) : p := h
/-! ### spec_DeadAt: function 40 -/
def spec_DeadAt.l0 : Nat → List (S63) → List Int → List (List Int) → List Bool → Int → Option (List Int)
 | 0, _, _, _, _, _ => none
 | k + 1, x0, x3, x4, x5, x6 => if (wrap64 (x6 + 1)) < (x0.length : Int) then (if 0 ≤ x6 then (if x6 < (x0.length : Int) then (if x6 < (x5.length : Int) then (if rdOf false x5 x6 = true then (if ((rd_T63 x0 x6).f0) = 1 then (if 0 ≤ (wrap64 (x6 + 1)) then (if (wrap64 (x6 + 1)) < (x4.length : Int) then ((spec_l18In.f k (rd_L7 x4 (wrap64 (x6 + 1))) ((rd_T63 x0 x6).f1)).bind fun t365 => (if t365 = true then (spec_DeadAt.l0 k x0 x3 x4 x5 (wrap64 (x6 + 1))) else (if x3.length < 17592186044416 then (spec_DeadAt.l0 k x0 (x3 ++ [x6]) x4 x5 (wrap64 (x6 + 1))) else (none)))) else (none)) else (none)) else ((spec_l19Three.f ((rd_T63 x0 x6).f0)).bind fun t369 => (if t369 = true then (if 0 ≤ (wrap64 (x6 + 1)) then (if (wrap64 (x6 + 1)) < (x4.length : Int) then ((spec_l18In.f k (rd_L7 x4 (wrap64 (x6 + 1))) ((rd_T63 x0 x6).f1)).bind fun t371 => (if t371 = true then (spec_DeadAt.l0 k x0 x3 x4 x5 (wrap64 (x6 + 1))) else (if x3.length < 17592186044416 then (spec_DeadAt.l0 k x0 (x3 ++ [x6]) x4 x5 (wrap64 (x6 + 1))) else (none)))) else (none)) else (none)) else (spec_DeadAt.l0 k x0 x3 x4 x5 (wrap64 (x6 + 1)))))) else (spec_DeadAt.l0 k x0 x3 x4 x5 (wrap64 (x6 + 1)))) else (none)) else (none)) else (none)) else (some x3)
def spec_DeadAt.f (k : Nat) (l0 : List (S63)) : Option (List Int) := (some (([] : List Int) : List Int)).bind fun y349 => ((spec_LiveAt.f k l0).bind fun t352 => (if (t352.length : Int) = 0 then (some y349) else ((spec_l18Marks.f k l0 (([0] : List Int))).bind fun t358 => (spec_DeadAt.l0 k l0 y349 t352 t358 0))))
theorem spec_DeadAt.mono_l : ∀ k, (∀ y0 y1 y2 y3 y4, LeO (spec_DeadAt.l0 k y0 y1 y2 y3 y4) (spec_DeadAt.l0 (k + 1) y0 y1 y2 y3 y4))
 | 0 => fun _ _ _ _ _ r h => by simp [spec_DeadAt.l0] at h
 | k + 1 => by
  have ih0 := spec_DeadAt.mono_l k
  ·intro y0 y1 y2 y3 y4
   unfold spec_DeadAt.l0
   repeat' (with_reducible first | exact ih0 .. | exact spec_LiveAt.mono _ _ | exact spec_l18In.mono .. | exact spec_l18Marks.mono .. | exact LeO.refl _ | exact LeO.none _ | refine LeO.ite ?_ ?_ | refine LeO.bind ?_ (fun _ => ?_))
theorem spec_DeadAt.mono : ∀ a0 k, LeO (spec_DeadAt.f k a0) (spec_DeadAt.f (k + 1) a0) := by
 intro a0 k
 have ih0 := spec_DeadAt.mono_l k
 unfold spec_DeadAt.f
 repeat' (with_reducible first | exact ih0 .. | exact spec_LiveAt.mono _ _ | exact spec_l18In.mono .. | exact spec_l18Marks.mono .. | exact LeO.refl _ | exact LeO.none _ | refine LeO.ite ?_ ?_ | refine LeO.bind ?_ (fun _ => ?_))
set_option maxHeartbeats 80000000 in
set_option maxRecDepth 100000 in
theorem spec_DeadAt.calls (k : Nat) (A0 : Option Addr) (c0 : Nat) (l0 : List (S63)) (r : List Int) (w : World) (hr0 : Kd.C k63 w A0 l0.length l0) (hc0 : l0.length ≤ c0) (h : spec_DeadAt.f k l0 = some r) :
  Calls Try.prog 40 #[.slice A0 l0.length c0] w fun e w' => ∃ v0_ : Value, e = .returned (v0_) ∧ Kd.R (Kd.int .i64) 3 w' w.heap.size (fun _ => True) v0_ r ∧ Below w.heap.size w w' := by
 have hu63 := Try.underlying63
 have HR0 := Aside0.mk hr0
 have HC0 := Aside0.mk hc0
 clear hr0 hc0
 have HB := Aside0.mk (Below.refl w.heap.size w)
 have H : ((some (([] : List Int) : List Int)).bind fun y349 => ((spec_LiveAt.f k l0).bind fun t352 => (if (t352.length : Int) = 0 then (some y349) else ((spec_l18Marks.f k l0 (([0] : List Int))).bind fun t358 => (spec_DeadAt.l0 k l0 y349 t352 t358 0))))) = some r := h
 clear h
 obtain ⟨y349, hy349⟩ : ∃ y_ : List Int, y_ = (([] : List Int)) := ⟨_, rfl⟩
 replace H := yy_ H hy349
 have Ny349 := Aside0.mk hy349
 clear hy349
 replace H := Option.bind_eq_some_iff.mp H
 obtain ⟨t352, A20, H⟩ := H
 (try dsimp only at H)
 have A2 := Aside0.mk A20
 clear A20
 by_cases c3 : (t352.length : Int) = 0
 ·rw [if_pos c3] at H
  have c3b0 := beq_iff_eq.mpr c3
  have c3b1 := bne_eq_false_iff_eq.mpr c3
  clear c3
  obtain rfl := Option.some.inj H
  go_enter Try.func40, Try.ntmps40
  have tk0_ : True := trivial
  repeat ((first | clear tk0_ | go_quiet (fail)); try go_wp2_with (first | ((with_reducible refine gate_dst (N := 8) rfl ?_); refine Kd.R_lit (Kd.int .i64) _ 3 ?hg (N := 8) ?hd (xs := ([] : List Int)) (inner := []) (ok := fun _ => True) (okp := fun _ => True) ?hr ?hp (fun _ hk => hk) trivial (Below.refl _ _) (Nat.le_refl _) (by simp) ?_; (case hd => rfl); (case hg => rfl); (case hr => first | (go_simp; done) | (go_simp; rfl)); (case hp => exact (Reps.none _ _)); intro v350 w4 ho5 hb hg_ hnew_; clear hg_ hnew_; (first | rw [← Ny349.out] at ho5 | (simp only [Int.reduceToNat] at ho5; rw [← Ny349.out] at ho5)); refine swap2_ (Kd.R_lower ho5 (below_size atgB_)) (below_step atgB_ hb) ?_; clear HB; intro HO351 HB; clear hb ho5) | (go_at_call 35; (with_reducible refine (spec_LiveAt.calls k _ _ l0 t352 _ ?side1 ?side2 A2.out).mono ?_); (case side1 => repeat (first | exact (Kd.C_below HR0.out HB.out) | (with_reducible refine Kd.C_alloc ?_ _) | (with_reducible refine Kd.C_drewN ?_ _) | (with_reducible refine Kd.C_drew ?_))); (case side2 => exact HC0.out); rintro e w6 ⟨v353, rfl, ho0, hb⟩; refine swap3_ (Kd.R_below att12_0_9 hb) (Kd.S_lower (Kd.S_new' ho0 (Kd.R_lt att12_0_9)) (below_size atgB_)) (below_step atgB_ hb) ?_; clear HO351 HB; intro HO351 HO354 HB; (try clear hb); (try clear hb2); (try clear hk); (try clear hi); (try clear ho0); obtain ⟨Ao7, co7, eo7⟩ := Kd.S_slice HO354.out; subst eo7)))
  go_ret
  exact ⟨_, retT_, by exact toR_ (HO351.out), atgB_⟩
 ·rw [if_neg c3] at H
  have c3b0 := beq_eq_false_iff_ne.mpr c3
  have c3b1 := bne_iff_ne.mpr c3
  have c3b2 : ¬ (t352 = []) := fun h_ => c3 (by rw [h_]; rfl)
  obtain ⟨y355, hy355⟩ : ∃ y_ : List Int, y_ = (([0] : List Int)) := ⟨_, rfl⟩
  replace H : ((spec_l18Marks.f k l0 y355).bind fun t358 => (spec_DeadAt.l0 k l0 y349 t352 t358 0)) = some r := by rw [hy355]; exact H
  have Ny355 := Aside0.mk hy355
  clear hy355
  replace H := Option.bind_eq_some_iff.mp H
  obtain ⟨t358, A80, H⟩ := H
  (try dsimp only at H)
  have A8 := Aside0.mk A80
  clear A80
  have H' := Aside0.mk H
  clear H
  go_enter Try.func40, Try.ntmps40
  have tk0_ : True := trivial
  repeat ((first | clear tk0_ | go_quiet (fail)); try go_wp2_with (first | ((with_reducible refine gate_dst (N := 8) rfl ?_); refine Kd.R_lit (Kd.int .i64) _ 3 ?hg (N := 8) ?hd (xs := ([] : List Int)) (inner := []) (ok := fun _ => True) (okp := fun _ => True) ?hr ?hp (fun _ hk => hk) trivial (Below.refl _ _) (Nat.le_refl _) (by simp) ?_; (case hd => rfl); (case hg => rfl); (case hr => first | (go_simp; done) | (go_simp; rfl)); (case hp => exact (Reps.none _ _)); intro v350 w9 ho10 hb hg_ hnew_; clear hg_ hnew_; (first | rw [← Ny349.out] at ho10 | (simp only [Int.reduceToNat] at ho10; rw [← Ny349.out] at ho10)); refine swap2_ (Kd.R_lower ho10 (below_size atgB_)) (below_step atgB_ hb) ?_; clear HB; intro HO351 HB; clear hb ho10) | (go_at_call 35; (with_reducible refine (spec_LiveAt.calls k _ _ l0 t352 _ ?side1 ?side2 A2.out).mono ?_); (case side1 => repeat (first | exact (Kd.C_below HR0.out HB.out) | (with_reducible refine Kd.C_alloc ?_ _) | (with_reducible refine Kd.C_drewN ?_ _) | (with_reducible refine Kd.C_drew ?_))); (case side2 => exact HC0.out); rintro e w11 ⟨v353, rfl, ho0, hb⟩; refine swap3_ (Kd.R_below att12_0_9 hb) (Kd.S_lower (Kd.S_new' ho0 (Kd.R_lt att12_0_9)) (below_size atgB_)) (below_step atgB_ hb) ?_; clear HO351 HB; intro HO351 HO354 HB; (try clear hb); (try clear hb2); (try clear hk); (try clear hi); (try clear ho0); obtain ⟨Ao12, co12, eo12⟩ := Kd.S_slice HO354.out; subst eo12) | ((with_reducible refine gate_dst (N := 16) rfl ?_); refine Kd.R_lit (Kd.int .i64) _ 3 ?hg (N := 16) ?hd (xs := ([0] : List Int)) (inner := [.int .i64 0]) (ok := fun _ => True) (okp := fun _ => True) ?hr ?hp (fun _ hk => hk) trivial (Below.refl _ _) (Nat.le_refl _) (by simp) ?_; (case hd => rfl); (case hg => rfl); (case hr => first | (go_simp; done) | (go_simp; rfl)); (case hp => exact (Reps.one (show Kd.M (Kd.int .i64) _ _ _ 0 [.int .i64 0] from rfl) (Reps.none _ _))); intro v356 w13 ho14 hb hg_ hnew_; clear hg_ hnew_; (first | rw [← Ny355.out] at ho14 | (simp only [Int.reduceToNat] at ho14; rw [← Ny355.out] at ho14)); refine swap4_ (Kd.R_elder' att12_0_9 (Kd.R_base ho14) hb) (Kd.S_elder' att12_0_15 (Kd.R_base ho14) hb) (Kd.R_lower (Kd.R_new' ho14 (Kd.R_lt att12_0_9)) (below_size atgB_)) (below_step atgB_ hb) ?_; clear HO351 HO354 HB; intro HO351 HO354 HO357 HB; clear hb ho14; obtain ⟨Ao15, co15, eo15⟩ := Kd.R_slice HO357.out; subst eo15) | (go_at_call 77; (with_reducible refine (spec_l18Marks.calls k _ _ l0 _ _ y355 t358 _ ?side1 ?side2 ?side3 ?side4 A8.out).mono ?_); (case side1 => repeat (first | exact (Kd.C_below HR0.out HB.out) | (with_reducible refine Kd.C_alloc ?_ _) | (with_reducible refine Kd.C_drewN ?_ _) | (with_reducible refine Kd.C_drew ?_))); (case side2 => exact HC0.out); (case side3 => repeat (first | exact (Kd.R_reads' HO357.out).2.2 | (with_reducible refine Kd.C_alloc ?_ _) | (with_reducible refine Kd.C_drewN ?_ _) | (with_reducible refine Kd.C_drew ?_))); (case side4 => exact (Kd.R_reads' HO357.out).2.1); rintro e w16 ⟨v359, rfl, ho0, hb⟩; refine swap5_ (Kd.R_below att12_0_9 hb) (Kd.S_below att12_0_15 hb) (Kd.R_below att12_0_22 hb) (Kd.R_lower ho0 (below_size atgB_)) (below_step atgB_ hb) ?_; clear HO351 HO354 HO357 HB; intro HO351 HO354 HO357 HO360 HB; (try clear hb); (try clear hb2); (try clear hk); (try clear hi); (try clear ho0))))
  go_loopg [3, 6] k (fun kq v3 v6 w' => ∃ (x3_1 : List Int) (x6_1 : Int), v6 = .int .i64 x6_1 ∧ Aside0 (spec_DeadAt.l0 kq l0 x3_1 t352 t358 x6_1 = some r) ∧ Aside0 (kq ≤ k) ∧ Aside0 (Kd.R (Kd.int .i64) 3 w' w.heap.size (fun _ => True) v3 x3_1) ∧ Aside0 (Kd.S (Kd.slice 3 (Kd.int .i64)) 34 w' w.heap.size (fun k_ => some k_ ≠ (v3 : Value).ownBlock) (.slice Ao12 t352.length co12) t352) ∧ Aside0 (Kd.R Kd.bool 4 w' w.heap.size (fun _ => True) v359 t358) ∧ Aside0 (Below w.heap.size w w'))
  case atStart => exact ⟨(y349), (0), atgR_, H', ⟨Nat.le_refl _⟩, ⟨by exact toR_ (Kd.R_mono HO351.out (fun _ hk => trivial))⟩, ⟨by exact toS_ (Kd.S_mono HO354.out (fun _ hk => hk.1.2))⟩, ⟨by exact toR_ (HO360.out)⟩, ⟨atgB_⟩⟩
  case round =>
   clear H'
   try clear p2
   try clear c3
   try clear c3b0
   try clear c3b1
   try clear c3b2
   try clear c4
   obtain ⟨x3_1, x6_1, rfl, HA, HK1, HO_3, HO_4, HO_5, HB⟩ := hrel
   cases gk with
   | zero => exact absurd HA.out (by simp [spec_DeadAt.l0])
   | succ k1 =>
    have H := HA.out
    clear HA
    simp only [spec_DeadAt.l0] at H
    by_cases c17 : (wrap64 (x6_1 + 1)) < (l0.length : Int)
    ·rw [if_pos c17] at H
     have c17b0 := decide_eq_true c17
     clear c17
     by_cases c18 : 0 ≤ x6_1
     ·rw [if_pos c18] at H
      have c18b0 := decide_eq_true c18
      clear c18
      by_cases c19 : x6_1 < (l0.length : Int)
      ·rw [if_pos c19] at H
       have c19b0 := decide_eq_true c19
       clear c19
       by_cases c20 : x6_1 < (t358.length : Int)
       ·rw [if_pos c20] at H
        have c20b0 := decide_eq_true c20
        clear c20
        obtain ⟨bq21, hbq21⟩ : ∃ b_ : Bool, b_ = (rdOf false t358 x6_1) := ⟨_, rfl⟩
        replace H : (if bq21 = true then (if ((rd_T63 l0 x6_1).f0) = 1 then (if 0 ≤ (wrap64 (x6_1 + 1)) then (if (wrap64 (x6_1 + 1)) < (t352.length : Int) then ((spec_l18In.f k1 (rd_L7 t352 (wrap64 (x6_1 + 1))) ((rd_T63 l0 x6_1).f1)).bind fun t365 => (if t365 = true then (spec_DeadAt.l0 k1 l0 x3_1 t352 t358 (wrap64 (x6_1 + 1))) else (if x3_1.length < 17592186044416 then (spec_DeadAt.l0 k1 l0 (x3_1 ++ [x6_1]) t352 t358 (wrap64 (x6_1 + 1))) else (none)))) else (none)) else (none)) else ((spec_l19Three.f ((rd_T63 l0 x6_1).f0)).bind fun t369 => (if t369 = true then (if 0 ≤ (wrap64 (x6_1 + 1)) then (if (wrap64 (x6_1 + 1)) < (t352.length : Int) then ((spec_l18In.f k1 (rd_L7 t352 (wrap64 (x6_1 + 1))) ((rd_T63 l0 x6_1).f1)).bind fun t371 => (if t371 = true then (spec_DeadAt.l0 k1 l0 x3_1 t352 t358 (wrap64 (x6_1 + 1))) else (if x3_1.length < 17592186044416 then (spec_DeadAt.l0 k1 l0 (x3_1 ++ [x6_1]) t352 t358 (wrap64 (x6_1 + 1))) else (none)))) else (none)) else (none)) else (spec_DeadAt.l0 k1 l0 x3_1 t352 t358 (wrap64 (x6_1 + 1)))))) else (spec_DeadAt.l0 k1 l0 x3_1 t352 t358 (wrap64 (x6_1 + 1)))) = some r := by rw [← hbq21] at H; exact H
        have Nbq21 := Aside0.mk hbq21
        clear hbq21
        by_cases c22 : bq21 = true
        ·subst c22
         rw [if_pos rfl] at H
         by_cases c23 : ((rd_T63 l0 x6_1).f0) = 1
         ·rw [if_pos c23] at H
          have c23b0 := beq_iff_eq.mpr c23
          have c23b1 := bne_eq_false_iff_eq.mpr c23
          clear c23
          obtain ⟨ji24, hji24⟩ : ∃ j_ : Int, (wrap64 (x6_1 + 1)) = j_ := ⟨_, rfl⟩
          replace H : (if 0 ≤ (ji24) then (if (ji24) < (t352.length : Int) then ((spec_l18In.f k1 (rd_L7 t352 (ji24)) ((rd_T63 l0 x6_1).f1)).bind fun t365 => (if t365 = true then (spec_DeadAt.l0 k1 l0 x3_1 t352 t358 ji24) else (if x3_1.length < 17592186044416 then (spec_DeadAt.l0 k1 l0 (x3_1 ++ [x6_1]) t352 t358 ji24) else (none)))) else (none)) else (none)) = some r := by first | (rw [hji24] at H; exact H) | (simp only [hji24] at H ⊢; exact H)
          (try rw [hji24] at c17b0)
          have hji24w : (IntKind.i64.wrap (x6_1 + 1)) = ji24 := (i64_w _).trans hji24
          by_cases c25 : 0 ≤ (ji24)
          ·rw [if_pos c25] at H
           have c25b0 := decide_eq_true c25
           clear c25
           by_cases c26 : (ji24) < (t352.length : Int)
           ·rw [if_pos c26] at H
            have c26b0 := decide_eq_true c26
            clear c26
            replace H := Option.bind_eq_some_iff.mp H
            obtain ⟨t365, A270, H⟩ := H
            (try dsimp only at H)
            have A27 := Aside0.mk A270
            clear A270
            by_cases c28 : t365 = true
            ·subst c28
             rw [if_pos rfl] at H
             have H' := Aside0.mk H
             clear H
             have p361 : 0 ≤ (x6_1 : Int) := of_decide_eq_true atgA_
             have q361 : x6_1 < (l0.length : Int) := of_decide_eq_true atgA_
             obtain ⟨ad361, e361, hx361_0, hx361_1, hx361_2, hx361_3, hx361_4⟩ := at5B_ HB (at_T63 HR0.out x6_1 p361 q361)
             cases e361
             replace p361 := eq_true p361
             replace q361 := eq_true q361
             have tk0_ : True := trivial
             repeat ((first | clear tk0_ | go_quiet (first | (go_at_call 90; (with_reducible refine (spec_l18In.calls k1 _ _ (rd_L7 t352 (ji24)) ((rd_T63 l0 x6_1).f1) true _ ?side1 ?side2 A27.out).mono ?_); (case side1 => repeat (first | exact att12_0_12 | (with_reducible refine Kd.C_alloc ?_ _) | (with_reducible refine Kd.C_drewN ?_ _) | (with_reducible refine Kd.C_drew ?_))); (case side2 => exact HC364_0.out); rintro e w' ⟨rfl, ⟨nd, rfl⟩⟩; (try first | exact ⟨rfl, _, World.drewN_drewN _ _ _⟩ | exact ⟨rfl, _, Eq.trans (World.drewN_drewN _ _ _) (congrArg (World.drewN _) (Nat.add_assoc _ _ _))⟩)))); try go_wp2_with (first | ((with_reducible refine gate_dst (N := 7) rfl ?_); refine box_event ?hg (N := 7) ?hd (cs := #[.int .i64 0, .int .i64 0, .int .i64 0, .int .i64 0, .int .i64 0]) (t := 63) ?hr ?_; (case hd => rfl); (case hg => rfl); (case hr => first | (go_simp; done) | (go_simp; rfl)); intro gb362 hg w29 hbox hb; refine swap7_ (Kd.R_below att12_0_7 hb) (Kd.S_below att12_0_10 hb) (Kd.R_below att12_0_8 hb) (below_step atgB_ hb) (hbox) ((by rw [hg]; exact (below_size atgB_) : w.heap.size ≤ gb362)) ((by rw [hg]; exact (below_size atgB_) : w.heap.size ≤ gb362)) ?_; clear HO_3 HO_4 HO_5 HB; intro HO_3 HO_4 HO_5 HB BK362 GW362 GE362; clear hb hbox hg; obtain ⟨hcz30_0, hcz30_1, hcz30_2, hcz30_3, hcz30_4, hfz30_0, hfz30_1, hfz30_2, hfz30_3, hfz30_4⟩ := blkB5_ BK362) | ((with_reducible refine gate_store (t := 63) (p := 7) rfl ?_); (try (rw [drewN_self w29]; generalize hq_ : World.drewN w29 _ = w29; refine swap5_ (Kd.R_at hq_ HO_3.out) (Kd.S_at hq_ HO_4.out) (Kd.R_at hq_ HO_5.out) (blk_at hq_ BK362.out) (below_at hq_ HB.out) ?_; clear hq_ HO_3 HO_4 HO_5 BK362 HB; intro HO_3 HO_4 HO_5 BK362 HB)); refine store_event (t := 63) (p := 7) (v := ?vo_w31) (w1 := (((((w29.setCell ⟨gb362, 0, none⟩ (.int .i64 ((rd_T63 l0 x6_1).f0))).setCell ⟨gb362, 1, none⟩ (.int .i64 ((rd_T63 l0 x6_1).f1))).setCell ⟨gb362, 2, none⟩ (.int .i64 ((rd_T63 l0 x6_1).f2))).setCell ⟨gb362, 3, none⟩ (.int .i64 ((rd_T63 l0 x6_1).f3))).setCell ⟨gb362, 4, none⟩ (.int .i64 ((rd_T63 l0 x6_1).f4)))) ?hg ?ho ?hn ?hr ?_; (case ho => rfl); (case hg => rfl); (case hn => rfl); (case hr => first | (go_simp; done) | (go_simp; rfl)); intro w31 hw; refine swap5_ (show (Kd.R (Kd.int .i64) 3 w31 w.heap.size (fun _ => True) u3 x3_1) from att12_1_5) (show (Kd.S (Kd.slice 3 (Kd.int .i64)) 34 w31 w.heap.size (fun k_ => some k_ ≠ (u3 : Value).ownBlock) (.slice Ao12 t352.length co12) t352) from att12_1_4) (show (Kd.R Kd.bool 4 w31 w.heap.size (fun _ => True) v359 t358) from att12_1_6) (show (w31.heap[gb362]? = some (.cells #[.int .i64 ((rd_T63 l0 x6_1).f0), .int .i64 ((rd_T63 l0 x6_1).f1), .int .i64 ((rd_T63 l0 x6_1).f2), .int .i64 ((rd_T63 l0 x6_1).f3), .int .i64 ((rd_T63 l0 x6_1).f4)] 63 (0, 0))) from att12_0_0) (show (Below w.heap.size w w31) from att12_1_3) ?_; clear hw HO_3 HO_4 HO_5 BK362 HB; intro HO_3 HO_4 HO_5 BK362 HB; obtain ⟨Ao32, co32, eo32⟩ := Kd.R_slice HO_5.out; subst eo32; have p363 : 0 ≤ (x6_1 : Int) := of_decide_eq_true atgA_; have q363 : x6_1 < (t358.length : Int) := of_decide_eq_true atgA_; obtain ⟨ad363, e363, hx363_0⟩ := Kd.at_bool (Kd.R_reads' HO_5.out).2.2 x6_1 p363 q363; (try rw [← Nbq21.out] at hx363_0); cases e363; replace p363 := eq_true p363; replace q363 := eq_true q363; obtain ⟨hcz33_0, hcz33_1, hcz33_2, hcz33_3, hcz33_4, hfz33_0, hfz33_1, hfz33_2, hfz33_3, hfz33_4⟩ := blkB5_ BK362; have p364 : 0 ≤ ((ji24) : Int) := of_decide_eq_true atgA_; have q364 : (ji24) < (t352.length : Int) := of_decide_eq_true atgA_; obtain ⟨ad364, A364_0, c364_0, e364, hx364_0, HC364_0, HR364_0, HL364_0⟩ := rowS_ HO_4.out (rd_L7 t352 (ji24)) (ji24) rfl p364 att12_1_1; cases e364; replace p364 := eq_true p364; replace q364 := eq_true q364) | (go_at_call 90; (with_reducible refine (spec_l18In.calls k1 _ _ (rd_L7 t352 (ji24)) ((rd_T63 l0 x6_1).f1) true _ ?side1 ?side2 A27.out).mono ?_); (case side1 => repeat (first | exact att12_0_12 | (with_reducible refine Kd.C_alloc ?_ _) | (with_reducible refine Kd.C_drewN ?_ _) | (with_reducible refine Kd.C_drew ?_))); (case side2 => exact HC364_0.out); rintro e w' ⟨rfl, ⟨nd, rfl⟩⟩; (try first | exact ⟨rfl, _, World.drewN_drewN _ _ _⟩ | exact ⟨rfl, _, Eq.trans (World.drewN_drewN _ _ _) (congrArg (World.drewN _) (Nat.add_assoc _ _ _))⟩))))
             go_roundg k1
             case measure => have := HK1.out; omega
             case rel => exact ⟨(x3_1), (ji24), att12_0_24, H', ⟨atgK_⟩, ⟨att12_0_7⟩, ⟨att12_0_10⟩, ⟨att12_0_8⟩, ⟨att12_0_5⟩⟩
            ·replace c28 := Bool.eq_false_iff.mpr c28
             subst c28
             rw [if_neg (show ¬ (false = true) by decide)] at H
             by_cases c34 : x3_1.length < 17592186044416
             ·rw [if_pos c34] at H
              have LMc34 := Aside0.mk c34
              clear c34
              obtain ⟨y366, hy366⟩ : ∃ y_ : List Int, y_ = (x3_1 ++ [x6_1]) := ⟨_, rfl⟩
              replace H : (spec_DeadAt.l0 k1 l0 y366 t352 t358 ji24) = some r := by rw [hy366]; exact H
              have Ny366 := Aside0.mk hy366
              clear hy366
              have H' := Aside0.mk H
              clear H
              have p361 : 0 ≤ (x6_1 : Int) := of_decide_eq_true atgA_
              have q361 : x6_1 < (l0.length : Int) := of_decide_eq_true atgA_
              obtain ⟨ad361, e361, hx361_0, hx361_1, hx361_2, hx361_3, hx361_4⟩ := at5B_ HB (at_T63 HR0.out x6_1 p361 q361)
              cases e361
              replace p361 := eq_true p361
              replace q361 := eq_true q361
              have tk0_ : True := trivial
              repeat ((first | clear tk0_ | go_quiet (first | (go_at_call 90; (with_reducible refine (spec_l18In.calls k1 _ _ (rd_L7 t352 (ji24)) ((rd_T63 l0 x6_1).f1) false _ ?side1 ?side2 A27.out).mono ?_); (case side1 => repeat (first | exact att12_0_12 | (with_reducible refine Kd.C_alloc ?_ _) | (with_reducible refine Kd.C_drewN ?_ _) | (with_reducible refine Kd.C_drew ?_))); (case side2 => exact HC364_0.out); rintro e w' ⟨rfl, ⟨nd, rfl⟩⟩; (try first | exact ⟨rfl, _, World.drewN_drewN _ _ _⟩ | exact ⟨rfl, _, Eq.trans (World.drewN_drewN _ _ _) (congrArg (World.drewN _) (Nat.add_assoc _ _ _))⟩)))); try go_wp2_with (first | ((with_reducible refine gate_dst (N := 7) rfl ?_); refine box_event ?hg (N := 7) ?hd (cs := #[.int .i64 0, .int .i64 0, .int .i64 0, .int .i64 0, .int .i64 0]) (t := 63) ?hr ?_; (case hd => rfl); (case hg => rfl); (case hr => first | (go_simp; done) | (go_simp; rfl)); intro gb362 hg w35 hbox hb; refine swap7_ (Kd.R_below att12_0_7 hb) (Kd.S_below att12_0_10 hb) (Kd.R_below att12_0_8 hb) (below_step atgB_ hb) (hbox) ((by rw [hg]; exact (below_size atgB_) : w.heap.size ≤ gb362)) ((by rw [hg]; exact (below_size atgB_) : w.heap.size ≤ gb362)) ?_; clear HO_3 HO_4 HO_5 HB; intro HO_3 HO_4 HO_5 HB BK362 GW362 GE362; clear hb hbox hg; obtain ⟨hcz36_0, hcz36_1, hcz36_2, hcz36_3, hcz36_4, hfz36_0, hfz36_1, hfz36_2, hfz36_3, hfz36_4⟩ := blkB5_ BK362) | ((with_reducible refine gate_store (t := 63) (p := 7) rfl ?_); (try (rw [drewN_self w35]; generalize hq_ : World.drewN w35 _ = w35; refine swap5_ (Kd.R_at hq_ HO_3.out) (Kd.S_at hq_ HO_4.out) (Kd.R_at hq_ HO_5.out) (blk_at hq_ BK362.out) (below_at hq_ HB.out) ?_; clear hq_ HO_3 HO_4 HO_5 BK362 HB; intro HO_3 HO_4 HO_5 BK362 HB)); refine store_event (t := 63) (p := 7) (v := ?vo_w37) (w1 := (((((w35.setCell ⟨gb362, 0, none⟩ (.int .i64 ((rd_T63 l0 x6_1).f0))).setCell ⟨gb362, 1, none⟩ (.int .i64 ((rd_T63 l0 x6_1).f1))).setCell ⟨gb362, 2, none⟩ (.int .i64 ((rd_T63 l0 x6_1).f2))).setCell ⟨gb362, 3, none⟩ (.int .i64 ((rd_T63 l0 x6_1).f3))).setCell ⟨gb362, 4, none⟩ (.int .i64 ((rd_T63 l0 x6_1).f4)))) ?hg ?ho ?hn ?hr ?_; (case ho => rfl); (case hg => rfl); (case hn => rfl); (case hr => first | (go_simp; done) | (go_simp; rfl)); intro w37 hw; refine swap5_ (show (Kd.R (Kd.int .i64) 3 w37 w.heap.size (fun _ => True) u3 x3_1) from att12_1_5) (show (Kd.S (Kd.slice 3 (Kd.int .i64)) 34 w37 w.heap.size (fun k_ => some k_ ≠ (u3 : Value).ownBlock) (.slice Ao12 t352.length co12) t352) from att12_1_4) (show (Kd.R Kd.bool 4 w37 w.heap.size (fun _ => True) v359 t358) from att12_1_6) (show (w37.heap[gb362]? = some (.cells #[.int .i64 ((rd_T63 l0 x6_1).f0), .int .i64 ((rd_T63 l0 x6_1).f1), .int .i64 ((rd_T63 l0 x6_1).f2), .int .i64 ((rd_T63 l0 x6_1).f3), .int .i64 ((rd_T63 l0 x6_1).f4)] 63 (0, 0))) from att12_0_0) (show (Below w.heap.size w w37) from att12_1_3) ?_; clear hw HO_3 HO_4 HO_5 BK362 HB; intro HO_3 HO_4 HO_5 BK362 HB; obtain ⟨Ao38, co38, eo38⟩ := Kd.R_slice HO_5.out; subst eo38; have p363 : 0 ≤ (x6_1 : Int) := of_decide_eq_true atgA_; have q363 : x6_1 < (t358.length : Int) := of_decide_eq_true atgA_; obtain ⟨ad363, e363, hx363_0⟩ := Kd.at_bool (Kd.R_reads' HO_5.out).2.2 x6_1 p363 q363; (try rw [← Nbq21.out] at hx363_0); cases e363; replace p363 := eq_true p363; replace q363 := eq_true q363; obtain ⟨hcz39_0, hcz39_1, hcz39_2, hcz39_3, hcz39_4, hfz39_0, hfz39_1, hfz39_2, hfz39_3, hfz39_4⟩ := blkB5_ BK362; have p364 : 0 ≤ ((ji24) : Int) := of_decide_eq_true atgA_; have q364 : (ji24) < (t352.length : Int) := of_decide_eq_true atgA_; obtain ⟨ad364, A364_0, c364_0, e364, hx364_0, HC364_0, HR364_0, HL364_0⟩ := rowS_ HO_4.out (rd_L7 t352 (ji24)) (ji24) rfl p364 att12_1_1; cases e364; replace p364 := eq_true p364; replace q364 := eq_true q364) | (go_at_call 90; (with_reducible refine (spec_l18In.calls k1 _ _ (rd_L7 t352 (ji24)) ((rd_T63 l0 x6_1).f1) false _ ?side1 ?side2 A27.out).mono ?_); (case side1 => repeat (first | exact att12_0_12 | (with_reducible refine Kd.C_alloc ?_ _) | (with_reducible refine Kd.C_drewN ?_ _) | (with_reducible refine Kd.C_drew ?_))); (case side2 => exact HC364_0.out); rintro e w' ⟨rfl, ⟨nd, rfl⟩⟩; (try first | exact ⟨rfl, _, World.drewN_drewN _ _ _⟩ | exact ⟨rfl, _, Eq.trans (World.drewN_drewN _ _ _) (congrArg (World.drewN _) (Nat.add_assoc _ _ _))⟩)) | ((with_reducible refine gate_builtin (b := .append) (xs := #[.tmp 54, .tmp 56]) rfl ?_); at_builtin; refine Kd.R_append (Kd.int .i64) (w0 := w) w.heap.size rfl (.tmp 54) (.tmp 56) 34 3 (.int .i64 0) 8 rfl Try.underlying34 info3 rfl (by decide) (by omega) u3 x3_1 x6_1 [.int .i64 x6_1] (fun _ => True) (fun _ => False) rfl rfl ?aP (fun _ hk => hk.elim) ?aF ?aO ?aB ?aS ?aL ?_; (case aP => exact rfl); (case aB => exact att12_0_5); (case aF => exact (fun _ _ => trivial)); (case aO => exact att12_0_7); (case aS => exact (below_size att12_0_5)); (case aL => have := LMc34.out; omega); intro v367 w40 ho hb hg hat; rw [← Ny366.out] at ho; refine swap6_ (Kd.S_after (ok := (fun _ => True)) att12_0_13 hg hat) (Kd.R_over' att12_0_8 (Kd.R_typed att12_0_7) (by decide) hg) (blk_grown (g := gb362) (o := .cells #[.int .i64 ((rd_T63 l0 x6_1).f0), .int .i64 ((rd_T63 l0 x6_1).f1), .int .i64 ((rd_T63 l0 x6_1).f2), .int .i64 ((rd_T63 l0 x6_1).f3), .int .i64 ((rd_T63 l0 x6_1).f4)] 63 (0, 0)) att12_0_14 hg (Kd.R_ne HO_3.out BK362.out (by decide))) (Kd.R_after (ok := (fun k_ => some k_ ≠ (.slice (some ad364) t352.length co12 : Value).ownBlock)) att12_0_18 hg hat) (hb) (ho) ?_; clear HO_4 HO_5 BK362 HL364_0 HB HO_3; intro HO_4 HO_5 BK362 HL364_0 HB HO368; clear ho hb hg hat)))
              go_roundg k1
              case measure => have := HK1.out; omega
              case rel => exact ⟨(y366), (ji24), att12_0_24, H', ⟨atgK_⟩, ⟨by exact toR_ (HO368.out)⟩, ⟨att12_0_19⟩, ⟨att12_0_8⟩, ⟨att12_0_5⟩⟩
             ·rw [if_neg c34] at H
              exact absurd H (by simp)
           ·rw [if_neg c26] at H
            exact absurd H (by simp)
          ·rw [if_neg c25] at H
           exact absurd H (by simp)
         ·rw [if_neg c23] at H
          have c23b0 := beq_eq_false_iff_ne.mpr c23
          have c23b1 := bne_iff_ne.mpr c23
          replace H := Option.bind_eq_some_iff.mp H
          obtain ⟨t369, A410, H⟩ := H
          (try dsimp only at H)
          have A41 := Aside0.mk A410
          clear A410
          by_cases c42 : t369 = true
          ·subst c42
           rw [if_pos rfl] at H
           obtain ⟨ji43, hji43⟩ : ∃ j_ : Int, (wrap64 (x6_1 + 1)) = j_ := ⟨_, rfl⟩
           replace H : (if 0 ≤ (ji43) then (if (ji43) < (t352.length : Int) then ((spec_l18In.f k1 (rd_L7 t352 (ji43)) ((rd_T63 l0 x6_1).f1)).bind fun t371 => (if t371 = true then (spec_DeadAt.l0 k1 l0 x3_1 t352 t358 ji43) else (if x3_1.length < 17592186044416 then (spec_DeadAt.l0 k1 l0 (x3_1 ++ [x6_1]) t352 t358 ji43) else (none)))) else (none)) else (none)) = some r := by first | (rw [hji43] at H; exact H) | (simp only [hji43] at H ⊢; exact H)
           (try rw [hji43] at c17b0)
           (try rw [hji43] at A41)
           have hji43w : (IntKind.i64.wrap (x6_1 + 1)) = ji43 := (i64_w _).trans hji43
           by_cases c44 : 0 ≤ (ji43)
           ·rw [if_pos c44] at H
            have c44b0 := decide_eq_true c44
            clear c44
            by_cases c45 : (ji43) < (t352.length : Int)
            ·rw [if_pos c45] at H
             have c45b0 := decide_eq_true c45
             clear c45
             replace H := Option.bind_eq_some_iff.mp H
             obtain ⟨t371, A460, H⟩ := H
             (try dsimp only at H)
             have A46 := Aside0.mk A460
             clear A460
             by_cases c47 : t371 = true
             ·subst c47
              rw [if_pos rfl] at H
              have H' := Aside0.mk H
              clear H
              have p361 : 0 ≤ (x6_1 : Int) := of_decide_eq_true atgA_
              have q361 : x6_1 < (l0.length : Int) := of_decide_eq_true atgA_
              obtain ⟨ad361, e361, hx361_0, hx361_1, hx361_2, hx361_3, hx361_4⟩ := at5B_ HB (at_T63 HR0.out x6_1 p361 q361)
              cases e361
              replace p361 := eq_true p361
              replace q361 := eq_true q361
              have tk0_ : True := trivial
              repeat ((first | clear tk0_ | go_quiet (first | (go_at_call 89; (with_reducible refine (spec_l19Three.calls ((rd_T63 l0 x6_1).f0) true _ A41.out).mono ?_); rintro e w' ⟨rfl, ⟨nd, rfl⟩⟩; (try first | exact ⟨rfl, _, World.drewN_drewN _ _ _⟩ | exact ⟨rfl, _, Eq.trans (World.drewN_drewN _ _ _) (congrArg (World.drewN _) (Nat.add_assoc _ _ _))⟩); have p370 : 0 ≤ ((ji43) : Int) := of_decide_eq_true atgA_; have q370 : (ji43) < (t352.length : Int) := of_decide_eq_true atgA_; obtain ⟨ad370, A370_0, c370_0, e370, hx370_0, HC370_0, HR370_0, HL370_0⟩ := rowS_ HO_4.out (rd_L7 t352 (ji43)) (ji43) rfl p370 att12_1_0; cases e370; replace p370 := eq_true p370; replace q370 := eq_true q370) | (go_at_call 90; (with_reducible refine (spec_l18In.calls k1 _ _ (rd_L7 t352 (ji43)) ((rd_T63 l0 x6_1).f1) true _ ?side1 ?side2 A46.out).mono ?_); (case side1 => repeat (first | exact att12_0_11 | (with_reducible refine Kd.C_alloc ?_ _) | (with_reducible refine Kd.C_drewN ?_ _) | (with_reducible refine Kd.C_drew ?_))); (case side2 => exact HC370_0.out); rintro e w' ⟨rfl, ⟨nd, rfl⟩⟩; (try first | exact ⟨rfl, _, World.drewN_drewN _ _ _⟩ | exact ⟨rfl, _, Eq.trans (World.drewN_drewN _ _ _) (congrArg (World.drewN _) (Nat.add_assoc _ _ _))⟩)))); try go_wp2_with (first | ((with_reducible refine gate_dst (N := 7) rfl ?_); refine box_event ?hg (N := 7) ?hd (cs := #[.int .i64 0, .int .i64 0, .int .i64 0, .int .i64 0, .int .i64 0]) (t := 63) ?hr ?_; (case hd => rfl); (case hg => rfl); (case hr => first | (go_simp; done) | (go_simp; rfl)); intro gb362 hg w48 hbox hb; refine swap7_ (Kd.R_below att12_0_7 hb) (Kd.S_below att12_0_10 hb) (Kd.R_below att12_0_8 hb) (below_step atgB_ hb) (hbox) ((by rw [hg]; exact (below_size atgB_) : w.heap.size ≤ gb362)) ((by rw [hg]; exact (below_size atgB_) : w.heap.size ≤ gb362)) ?_; clear HO_3 HO_4 HO_5 HB; intro HO_3 HO_4 HO_5 HB BK362 GW362 GE362; clear hb hbox hg; obtain ⟨hcz49_0, hcz49_1, hcz49_2, hcz49_3, hcz49_4, hfz49_0, hfz49_1, hfz49_2, hfz49_3, hfz49_4⟩ := blkB5_ BK362) | ((with_reducible refine gate_store (t := 63) (p := 7) rfl ?_); (try (rw [drewN_self w48]; generalize hq_ : World.drewN w48 _ = w48; refine swap5_ (Kd.R_at hq_ HO_3.out) (Kd.S_at hq_ HO_4.out) (Kd.R_at hq_ HO_5.out) (blk_at hq_ BK362.out) (below_at hq_ HB.out) ?_; clear hq_ HO_3 HO_4 HO_5 BK362 HB; intro HO_3 HO_4 HO_5 BK362 HB)); refine store_event (t := 63) (p := 7) (v := ?vo_w50) (w1 := (((((w48.setCell ⟨gb362, 0, none⟩ (.int .i64 ((rd_T63 l0 x6_1).f0))).setCell ⟨gb362, 1, none⟩ (.int .i64 ((rd_T63 l0 x6_1).f1))).setCell ⟨gb362, 2, none⟩ (.int .i64 ((rd_T63 l0 x6_1).f2))).setCell ⟨gb362, 3, none⟩ (.int .i64 ((rd_T63 l0 x6_1).f3))).setCell ⟨gb362, 4, none⟩ (.int .i64 ((rd_T63 l0 x6_1).f4)))) ?hg ?ho ?hn ?hr ?_; (case ho => rfl); (case hg => rfl); (case hn => rfl); (case hr => first | (go_simp; done) | (go_simp; rfl)); intro w50 hw; refine swap5_ (show (Kd.R (Kd.int .i64) 3 w50 w.heap.size (fun _ => True) u3 x3_1) from att12_1_5) (show (Kd.S (Kd.slice 3 (Kd.int .i64)) 34 w50 w.heap.size (fun k_ => some k_ ≠ (u3 : Value).ownBlock) (.slice Ao12 t352.length co12) t352) from att12_1_4) (show (Kd.R Kd.bool 4 w50 w.heap.size (fun _ => True) v359 t358) from att12_1_6) (show (w50.heap[gb362]? = some (.cells #[.int .i64 ((rd_T63 l0 x6_1).f0), .int .i64 ((rd_T63 l0 x6_1).f1), .int .i64 ((rd_T63 l0 x6_1).f2), .int .i64 ((rd_T63 l0 x6_1).f3), .int .i64 ((rd_T63 l0 x6_1).f4)] 63 (0, 0))) from att12_0_0) (show (Below w.heap.size w w50) from att12_1_3) ?_; clear hw HO_3 HO_4 HO_5 BK362 HB; intro HO_3 HO_4 HO_5 BK362 HB; obtain ⟨Ao51, co51, eo51⟩ := Kd.R_slice HO_5.out; subst eo51; have p363 : 0 ≤ (x6_1 : Int) := of_decide_eq_true atgA_; have q363 : x6_1 < (t358.length : Int) := of_decide_eq_true atgA_; obtain ⟨ad363, e363, hx363_0⟩ := Kd.at_bool (Kd.R_reads' HO_5.out).2.2 x6_1 p363 q363; (try rw [← Nbq21.out] at hx363_0); cases e363; replace p363 := eq_true p363; replace q363 := eq_true q363; obtain ⟨hcz52_0, hcz52_1, hcz52_2, hcz52_3, hcz52_4, hfz52_0, hfz52_1, hfz52_2, hfz52_3, hfz52_4⟩ := blkB5_ BK362) | (go_at_call 89; (with_reducible refine (spec_l19Three.calls ((rd_T63 l0 x6_1).f0) true _ A41.out).mono ?_); rintro e w' ⟨rfl, ⟨nd, rfl⟩⟩; (try first | exact ⟨rfl, _, World.drewN_drewN _ _ _⟩ | exact ⟨rfl, _, Eq.trans (World.drewN_drewN _ _ _) (congrArg (World.drewN _) (Nat.add_assoc _ _ _))⟩); have p370 : 0 ≤ ((ji43) : Int) := of_decide_eq_true atgA_; have q370 : (ji43) < (t352.length : Int) := of_decide_eq_true atgA_; obtain ⟨ad370, A370_0, c370_0, e370, hx370_0, HC370_0, HR370_0, HL370_0⟩ := rowS_ HO_4.out (rd_L7 t352 (ji43)) (ji43) rfl p370 att12_1_0; cases e370; replace p370 := eq_true p370; replace q370 := eq_true q370) | (go_at_call 90; (with_reducible refine (spec_l18In.calls k1 _ _ (rd_L7 t352 (ji43)) ((rd_T63 l0 x6_1).f1) true _ ?side1 ?side2 A46.out).mono ?_); (case side1 => repeat (first | exact att12_0_11 | (with_reducible refine Kd.C_alloc ?_ _) | (with_reducible refine Kd.C_drewN ?_ _) | (with_reducible refine Kd.C_drew ?_))); (case side2 => exact HC370_0.out); rintro e w' ⟨rfl, ⟨nd, rfl⟩⟩; (try first | exact ⟨rfl, _, World.drewN_drewN _ _ _⟩ | exact ⟨rfl, _, Eq.trans (World.drewN_drewN _ _ _) (congrArg (World.drewN _) (Nat.add_assoc _ _ _))⟩))))
              go_roundg k1
              case measure => have := HK1.out; omega
              case rel => exact ⟨(x3_1), (ji43), att12_0_23, H', ⟨atgK_⟩, ⟨att12_0_7⟩, ⟨att12_0_10⟩, ⟨att12_0_8⟩, ⟨att12_0_5⟩⟩
             ·replace c47 := Bool.eq_false_iff.mpr c47
              subst c47
              rw [if_neg (show ¬ (false = true) by decide)] at H
              by_cases c53 : x3_1.length < 17592186044416
              ·rw [if_pos c53] at H
               have LMc53 := Aside0.mk c53
               clear c53
               obtain ⟨y372, hy372⟩ : ∃ y_ : List Int, y_ = (x3_1 ++ [x6_1]) := ⟨_, rfl⟩
               replace H : (spec_DeadAt.l0 k1 l0 y372 t352 t358 ji43) = some r := by rw [hy372]; exact H
               have Ny372 := Aside0.mk hy372
               clear hy372
               have H' := Aside0.mk H
               clear H
               have p361 : 0 ≤ (x6_1 : Int) := of_decide_eq_true atgA_
               have q361 : x6_1 < (l0.length : Int) := of_decide_eq_true atgA_
               obtain ⟨ad361, e361, hx361_0, hx361_1, hx361_2, hx361_3, hx361_4⟩ := at5B_ HB (at_T63 HR0.out x6_1 p361 q361)
               cases e361
               replace p361 := eq_true p361
               replace q361 := eq_true q361
               have tk0_ : True := trivial
               repeat ((first | clear tk0_ | go_quiet (first | (go_at_call 89; (with_reducible refine (spec_l19Three.calls ((rd_T63 l0 x6_1).f0) true _ A41.out).mono ?_); rintro e w' ⟨rfl, ⟨nd, rfl⟩⟩; (try first | exact ⟨rfl, _, World.drewN_drewN _ _ _⟩ | exact ⟨rfl, _, Eq.trans (World.drewN_drewN _ _ _) (congrArg (World.drewN _) (Nat.add_assoc _ _ _))⟩); have p370 : 0 ≤ ((ji43) : Int) := of_decide_eq_true atgA_; have q370 : (ji43) < (t352.length : Int) := of_decide_eq_true atgA_; obtain ⟨ad370, A370_0, c370_0, e370, hx370_0, HC370_0, HR370_0, HL370_0⟩ := rowS_ HO_4.out (rd_L7 t352 (ji43)) (ji43) rfl p370 att12_1_0; cases e370; replace p370 := eq_true p370; replace q370 := eq_true q370) | (go_at_call 90; (with_reducible refine (spec_l18In.calls k1 _ _ (rd_L7 t352 (ji43)) ((rd_T63 l0 x6_1).f1) false _ ?side1 ?side2 A46.out).mono ?_); (case side1 => repeat (first | exact att12_0_11 | (with_reducible refine Kd.C_alloc ?_ _) | (with_reducible refine Kd.C_drewN ?_ _) | (with_reducible refine Kd.C_drew ?_))); (case side2 => exact HC370_0.out); rintro e w' ⟨rfl, ⟨nd, rfl⟩⟩; (try first | exact ⟨rfl, _, World.drewN_drewN _ _ _⟩ | exact ⟨rfl, _, Eq.trans (World.drewN_drewN _ _ _) (congrArg (World.drewN _) (Nat.add_assoc _ _ _))⟩)))); try go_wp2_with (first | ((with_reducible refine gate_dst (N := 7) rfl ?_); refine box_event ?hg (N := 7) ?hd (cs := #[.int .i64 0, .int .i64 0, .int .i64 0, .int .i64 0, .int .i64 0]) (t := 63) ?hr ?_; (case hd => rfl); (case hg => rfl); (case hr => first | (go_simp; done) | (go_simp; rfl)); intro gb362 hg w54 hbox hb; refine swap7_ (Kd.R_below att12_0_7 hb) (Kd.S_below att12_0_10 hb) (Kd.R_below att12_0_8 hb) (below_step atgB_ hb) (hbox) ((by rw [hg]; exact (below_size atgB_) : w.heap.size ≤ gb362)) ((by rw [hg]; exact (below_size atgB_) : w.heap.size ≤ gb362)) ?_; clear HO_3 HO_4 HO_5 HB; intro HO_3 HO_4 HO_5 HB BK362 GW362 GE362; clear hb hbox hg; obtain ⟨hcz55_0, hcz55_1, hcz55_2, hcz55_3, hcz55_4, hfz55_0, hfz55_1, hfz55_2, hfz55_3, hfz55_4⟩ := blkB5_ BK362) | ((with_reducible refine gate_store (t := 63) (p := 7) rfl ?_); (try (rw [drewN_self w54]; generalize hq_ : World.drewN w54 _ = w54; refine swap5_ (Kd.R_at hq_ HO_3.out) (Kd.S_at hq_ HO_4.out) (Kd.R_at hq_ HO_5.out) (blk_at hq_ BK362.out) (below_at hq_ HB.out) ?_; clear hq_ HO_3 HO_4 HO_5 BK362 HB; intro HO_3 HO_4 HO_5 BK362 HB)); refine store_event (t := 63) (p := 7) (v := ?vo_w56) (w1 := (((((w54.setCell ⟨gb362, 0, none⟩ (.int .i64 ((rd_T63 l0 x6_1).f0))).setCell ⟨gb362, 1, none⟩ (.int .i64 ((rd_T63 l0 x6_1).f1))).setCell ⟨gb362, 2, none⟩ (.int .i64 ((rd_T63 l0 x6_1).f2))).setCell ⟨gb362, 3, none⟩ (.int .i64 ((rd_T63 l0 x6_1).f3))).setCell ⟨gb362, 4, none⟩ (.int .i64 ((rd_T63 l0 x6_1).f4)))) ?hg ?ho ?hn ?hr ?_; (case ho => rfl); (case hg => rfl); (case hn => rfl); (case hr => first | (go_simp; done) | (go_simp; rfl)); intro w56 hw; refine swap5_ (show (Kd.R (Kd.int .i64) 3 w56 w.heap.size (fun _ => True) u3 x3_1) from att12_1_5) (show (Kd.S (Kd.slice 3 (Kd.int .i64)) 34 w56 w.heap.size (fun k_ => some k_ ≠ (u3 : Value).ownBlock) (.slice Ao12 t352.length co12) t352) from att12_1_4) (show (Kd.R Kd.bool 4 w56 w.heap.size (fun _ => True) v359 t358) from att12_1_6) (show (w56.heap[gb362]? = some (.cells #[.int .i64 ((rd_T63 l0 x6_1).f0), .int .i64 ((rd_T63 l0 x6_1).f1), .int .i64 ((rd_T63 l0 x6_1).f2), .int .i64 ((rd_T63 l0 x6_1).f3), .int .i64 ((rd_T63 l0 x6_1).f4)] 63 (0, 0))) from att12_0_0) (show (Below w.heap.size w w56) from att12_1_3) ?_; clear hw HO_3 HO_4 HO_5 BK362 HB; intro HO_3 HO_4 HO_5 BK362 HB; obtain ⟨Ao57, co57, eo57⟩ := Kd.R_slice HO_5.out; subst eo57; have p363 : 0 ≤ (x6_1 : Int) := of_decide_eq_true atgA_; have q363 : x6_1 < (t358.length : Int) := of_decide_eq_true atgA_; obtain ⟨ad363, e363, hx363_0⟩ := Kd.at_bool (Kd.R_reads' HO_5.out).2.2 x6_1 p363 q363; (try rw [← Nbq21.out] at hx363_0); cases e363; replace p363 := eq_true p363; replace q363 := eq_true q363; obtain ⟨hcz58_0, hcz58_1, hcz58_2, hcz58_3, hcz58_4, hfz58_0, hfz58_1, hfz58_2, hfz58_3, hfz58_4⟩ := blkB5_ BK362) | (go_at_call 89; (with_reducible refine (spec_l19Three.calls ((rd_T63 l0 x6_1).f0) true _ A41.out).mono ?_); rintro e w' ⟨rfl, ⟨nd, rfl⟩⟩; (try first | exact ⟨rfl, _, World.drewN_drewN _ _ _⟩ | exact ⟨rfl, _, Eq.trans (World.drewN_drewN _ _ _) (congrArg (World.drewN _) (Nat.add_assoc _ _ _))⟩); have p370 : 0 ≤ ((ji43) : Int) := of_decide_eq_true atgA_; have q370 : (ji43) < (t352.length : Int) := of_decide_eq_true atgA_; obtain ⟨ad370, A370_0, c370_0, e370, hx370_0, HC370_0, HR370_0, HL370_0⟩ := rowS_ HO_4.out (rd_L7 t352 (ji43)) (ji43) rfl p370 att12_1_0; cases e370; replace p370 := eq_true p370; replace q370 := eq_true q370) | (go_at_call 90; (with_reducible refine (spec_l18In.calls k1 _ _ (rd_L7 t352 (ji43)) ((rd_T63 l0 x6_1).f1) false _ ?side1 ?side2 A46.out).mono ?_); (case side1 => repeat (first | exact att12_0_11 | (with_reducible refine Kd.C_alloc ?_ _) | (with_reducible refine Kd.C_drewN ?_ _) | (with_reducible refine Kd.C_drew ?_))); (case side2 => exact HC370_0.out); rintro e w' ⟨rfl, ⟨nd, rfl⟩⟩; (try first | exact ⟨rfl, _, World.drewN_drewN _ _ _⟩ | exact ⟨rfl, _, Eq.trans (World.drewN_drewN _ _ _) (congrArg (World.drewN _) (Nat.add_assoc _ _ _))⟩)) | ((with_reducible refine gate_builtin (b := .append) (xs := #[.tmp 54, .tmp 56]) rfl ?_); at_builtin; refine Kd.R_append (Kd.int .i64) (w0 := w) w.heap.size rfl (.tmp 54) (.tmp 56) 34 3 (.int .i64 0) 8 rfl Try.underlying34 info3 rfl (by decide) (by omega) u3 x3_1 x6_1 [.int .i64 x6_1] (fun _ => True) (fun _ => False) rfl rfl ?aP (fun _ hk => hk.elim) ?aF ?aO ?aB ?aS ?aL ?_; (case aP => exact rfl); (case aB => exact att12_0_5); (case aF => exact (fun _ _ => trivial)); (case aO => exact att12_0_7); (case aS => exact (below_size att12_0_5)); (case aL => have := LMc53.out; omega); intro v373 w59 ho hb hg hat; rw [← Ny372.out] at ho; refine swap6_ (Kd.S_after (ok := (fun _ => True)) att12_0_13 hg hat) (Kd.R_over' att12_0_8 (Kd.R_typed att12_0_7) (by decide) hg) (blk_grown (g := gb362) (o := .cells #[.int .i64 ((rd_T63 l0 x6_1).f0), .int .i64 ((rd_T63 l0 x6_1).f1), .int .i64 ((rd_T63 l0 x6_1).f2), .int .i64 ((rd_T63 l0 x6_1).f3), .int .i64 ((rd_T63 l0 x6_1).f4)] 63 (0, 0)) att12_0_14 hg (Kd.R_ne HO_3.out BK362.out (by decide))) (Kd.R_after (ok := (fun k_ => some k_ ≠ (.slice (some ad370) t352.length co12 : Value).ownBlock)) att12_0_17 hg hat) (hb) (ho) ?_; clear HO_4 HO_5 BK362 HL370_0 HB HO_3; intro HO_4 HO_5 BK362 HL370_0 HB HO374; clear ho hb hg hat)))
               go_roundg k1
               case measure => have := HK1.out; omega
               case rel => exact ⟨(y372), (ji43), att12_0_23, H', ⟨atgK_⟩, ⟨by exact toR_ (HO374.out)⟩, ⟨att12_0_19⟩, ⟨att12_0_8⟩, ⟨att12_0_5⟩⟩
              ·rw [if_neg c53] at H
               exact absurd H (by simp)
            ·rw [if_neg c45] at H
             exact absurd H (by simp)
           ·rw [if_neg c44] at H
            exact absurd H (by simp)
          ·replace c42 := Bool.eq_false_iff.mpr c42
           subst c42
           rw [if_neg (show ¬ (false = true) by decide)] at H
           have H' := Aside0.mk H
           clear H
           have p361 : 0 ≤ (x6_1 : Int) := of_decide_eq_true atgA_
           have q361 : x6_1 < (l0.length : Int) := of_decide_eq_true atgA_
           obtain ⟨ad361, e361, hx361_0, hx361_1, hx361_2, hx361_3, hx361_4⟩ := at5B_ HB (at_T63 HR0.out x6_1 p361 q361)
           cases e361
           replace p361 := eq_true p361
           replace q361 := eq_true q361
           have tk0_ : True := trivial
           repeat ((first | clear tk0_ | go_quiet (first | (go_at_call 89; (with_reducible refine (spec_l19Three.calls ((rd_T63 l0 x6_1).f0) false _ A41.out).mono ?_); rintro e w' ⟨rfl, ⟨nd, rfl⟩⟩; (try first | exact ⟨rfl, _, World.drewN_drewN _ _ _⟩ | exact ⟨rfl, _, Eq.trans (World.drewN_drewN _ _ _) (congrArg (World.drewN _) (Nat.add_assoc _ _ _))⟩)))); try go_wp2_with (first | ((with_reducible refine gate_dst (N := 7) rfl ?_); refine box_event ?hg (N := 7) ?hd (cs := #[.int .i64 0, .int .i64 0, .int .i64 0, .int .i64 0, .int .i64 0]) (t := 63) ?hr ?_; (case hd => rfl); (case hg => rfl); (case hr => first | (go_simp; done) | (go_simp; rfl)); intro gb362 hg w60 hbox hb; refine swap7_ (Kd.R_below att12_0_7 hb) (Kd.S_below att12_0_10 hb) (Kd.R_below att12_0_8 hb) (below_step atgB_ hb) (hbox) ((by rw [hg]; exact (below_size atgB_) : w.heap.size ≤ gb362)) ((by rw [hg]; exact (below_size atgB_) : w.heap.size ≤ gb362)) ?_; clear HO_3 HO_4 HO_5 HB; intro HO_3 HO_4 HO_5 HB BK362 GW362 GE362; clear hb hbox hg; obtain ⟨hcz61_0, hcz61_1, hcz61_2, hcz61_3, hcz61_4, hfz61_0, hfz61_1, hfz61_2, hfz61_3, hfz61_4⟩ := blkB5_ BK362; obtain ⟨Ao62, co62, eo62⟩ := Kd.R_slice HO_5.out; subst eo62; have p363 : 0 ≤ (x6_1 : Int) := of_decide_eq_true atgA_; have q363 : x6_1 < (t358.length : Int) := of_decide_eq_true atgA_; obtain ⟨ad363, e363, hx363_0⟩ := Kd.at_bool (Kd.R_reads' HO_5.out).2.2 x6_1 p363 q363; (try rw [← Nbq21.out] at hx363_0); cases e363; have hn363_0 : ad363.block ≠ gb362 := Kd.own_blk (Kd.R_ne HO_5.out BK362.out (by decide)); have hn363_1 : ad363.block ≠ gb362 := Kd.own_blk (Kd.R_ne HO_5.out BK362.out (by decide)); have hn363_2 : ad363.block ≠ gb362 := Kd.own_blk (Kd.R_ne HO_5.out BK362.out (by decide)); have hn363_3 : ad363.block ≠ gb362 := Kd.own_blk (Kd.R_ne HO_5.out BK362.out (by decide)); have hn363_4 : ad363.block ≠ gb362 := Kd.own_blk (Kd.R_ne HO_5.out BK362.out (by decide)); replace hx363_0 := (cell_far (p := ⟨gb362, 0, none⟩) (by first | (rw [add_block]; exact hn363_0) | (show (Addr.add _ _).block ≠ _; rw [add_block]; exact hn363_0) | exact hn363_0) (.int .i64 ((rd_T63 l0 x6_1).f0))).trans hx363_0; replace hx363_0 := (cell_far (p := ⟨gb362, 1, none⟩) (by first | (rw [add_block]; exact hn363_1) | (show (Addr.add _ _).block ≠ _; rw [add_block]; exact hn363_1) | exact hn363_1) (.int .i64 ((rd_T63 l0 x6_1).f1))).trans hx363_0; replace hx363_0 := (cell_far (p := ⟨gb362, 2, none⟩) (by first | (rw [add_block]; exact hn363_2) | (show (Addr.add _ _).block ≠ _; rw [add_block]; exact hn363_2) | exact hn363_2) (.int .i64 ((rd_T63 l0 x6_1).f2))).trans hx363_0; replace hx363_0 := (cell_far (p := ⟨gb362, 3, none⟩) (by first | (rw [add_block]; exact hn363_3) | (show (Addr.add _ _).block ≠ _; rw [add_block]; exact hn363_3) | exact hn363_3) (.int .i64 ((rd_T63 l0 x6_1).f3))).trans hx363_0; replace hx363_0 := (cell_far (p := ⟨gb362, 4, none⟩) (by first | (rw [add_block]; exact hn363_4) | (show (Addr.add _ _).block ≠ _; rw [add_block]; exact hn363_4) | exact hn363_4) (.int .i64 ((rd_T63 l0 x6_1).f4))).trans hx363_0; (try have hy363_0 := fun (n_ : Nat) => (show (((((((w60.drewN n_).setCell ⟨gb362, 0, none⟩ (.int .i64 ((rd_T63 l0 x6_1).f0))).setCell ⟨gb362, 1, none⟩ (.int .i64 ((rd_T63 l0 x6_1).f1))).setCell ⟨gb362, 2, none⟩ (.int .i64 ((rd_T63 l0 x6_1).f2))).setCell ⟨gb362, 3, none⟩ (.int .i64 ((rd_T63 l0 x6_1).f3))).setCell ⟨gb362, 4, none⟩ (.int .i64 ((rd_T63 l0 x6_1).f4)))).cell? _ = some _ from hx363_0)); clear hn363_0; clear hn363_1; clear hn363_2; clear hn363_3; clear hn363_4; replace p363 := eq_true p363; replace q363 := eq_true q363) | (go_at_call 89; (with_reducible refine (spec_l19Three.calls ((rd_T63 l0 x6_1).f0) false _ A41.out).mono ?_); rintro e w' ⟨rfl, ⟨nd, rfl⟩⟩; (try first | exact ⟨rfl, _, World.drewN_drewN _ _ _⟩ | exact ⟨rfl, _, Eq.trans (World.drewN_drewN _ _ _) (congrArg (World.drewN _) (Nat.add_assoc _ _ _))⟩))))
           go_roundg k1
           case measure => have := HK1.out; omega
           case rel => exact ⟨(x3_1), (wrap64 (x6_1 + 1)), atgR_, H', ⟨atgK_⟩, ⟨att12_0_3⟩, ⟨att12_0_4⟩, ⟨att12_0_2⟩, ⟨att12_0_5⟩⟩
        ·replace c22 := Bool.eq_false_iff.mpr c22
         subst c22
         rw [if_neg (show ¬ (false = true) by decide)] at H
         have H' := Aside0.mk H
         clear H
         have p361 : 0 ≤ (x6_1 : Int) := of_decide_eq_true atgA_
         have q361 : x6_1 < (l0.length : Int) := of_decide_eq_true atgA_
         obtain ⟨ad361, e361, hx361_0, hx361_1, hx361_2, hx361_3, hx361_4⟩ := at5B_ HB (at_T63 HR0.out x6_1 p361 q361)
         cases e361
         replace p361 := eq_true p361
         replace q361 := eq_true q361
         have tk0_ : True := trivial
         repeat ((first | clear tk0_ | go_quiet (fail)); try go_wp2_with (first | ((with_reducible refine gate_dst (N := 7) rfl ?_); refine box_event ?hg (N := 7) ?hd (cs := #[.int .i64 0, .int .i64 0, .int .i64 0, .int .i64 0, .int .i64 0]) (t := 63) ?hr ?_; (case hd => rfl); (case hg => rfl); (case hr => first | (go_simp; done) | (go_simp; rfl)); intro gb362 hg w63 hbox hb; refine swap7_ (Kd.R_below att12_0_7 hb) (Kd.S_below att12_0_10 hb) (Kd.R_below att12_0_8 hb) (below_step atgB_ hb) (hbox) ((by rw [hg]; exact (below_size atgB_) : w.heap.size ≤ gb362)) ((by rw [hg]; exact (below_size atgB_) : w.heap.size ≤ gb362)) ?_; clear HO_3 HO_4 HO_5 HB; intro HO_3 HO_4 HO_5 HB BK362 GW362 GE362; clear hb hbox hg; obtain ⟨hcz64_0, hcz64_1, hcz64_2, hcz64_3, hcz64_4, hfz64_0, hfz64_1, hfz64_2, hfz64_3, hfz64_4⟩ := blkB5_ BK362; obtain ⟨Ao65, co65, eo65⟩ := Kd.R_slice HO_5.out; subst eo65; have p363 : 0 ≤ (x6_1 : Int) := of_decide_eq_true atgA_; have q363 : x6_1 < (t358.length : Int) := of_decide_eq_true atgA_; obtain ⟨ad363, e363, hx363_0⟩ := Kd.at_bool (Kd.R_reads' HO_5.out).2.2 x6_1 p363 q363; (try rw [← Nbq21.out] at hx363_0); cases e363; have hn363_0 : ad363.block ≠ gb362 := Kd.own_blk (Kd.R_ne HO_5.out BK362.out (by decide)); have hn363_1 : ad363.block ≠ gb362 := Kd.own_blk (Kd.R_ne HO_5.out BK362.out (by decide)); have hn363_2 : ad363.block ≠ gb362 := Kd.own_blk (Kd.R_ne HO_5.out BK362.out (by decide)); have hn363_3 : ad363.block ≠ gb362 := Kd.own_blk (Kd.R_ne HO_5.out BK362.out (by decide)); have hn363_4 : ad363.block ≠ gb362 := Kd.own_blk (Kd.R_ne HO_5.out BK362.out (by decide)); replace hx363_0 := (cell_far (p := ⟨gb362, 0, none⟩) (by first | (rw [add_block]; exact hn363_0) | (show (Addr.add _ _).block ≠ _; rw [add_block]; exact hn363_0) | exact hn363_0) (.int .i64 ((rd_T63 l0 x6_1).f0))).trans hx363_0; replace hx363_0 := (cell_far (p := ⟨gb362, 1, none⟩) (by first | (rw [add_block]; exact hn363_1) | (show (Addr.add _ _).block ≠ _; rw [add_block]; exact hn363_1) | exact hn363_1) (.int .i64 ((rd_T63 l0 x6_1).f1))).trans hx363_0; replace hx363_0 := (cell_far (p := ⟨gb362, 2, none⟩) (by first | (rw [add_block]; exact hn363_2) | (show (Addr.add _ _).block ≠ _; rw [add_block]; exact hn363_2) | exact hn363_2) (.int .i64 ((rd_T63 l0 x6_1).f2))).trans hx363_0; replace hx363_0 := (cell_far (p := ⟨gb362, 3, none⟩) (by first | (rw [add_block]; exact hn363_3) | (show (Addr.add _ _).block ≠ _; rw [add_block]; exact hn363_3) | exact hn363_3) (.int .i64 ((rd_T63 l0 x6_1).f3))).trans hx363_0; replace hx363_0 := (cell_far (p := ⟨gb362, 4, none⟩) (by first | (rw [add_block]; exact hn363_4) | (show (Addr.add _ _).block ≠ _; rw [add_block]; exact hn363_4) | exact hn363_4) (.int .i64 ((rd_T63 l0 x6_1).f4))).trans hx363_0; (try have hy363_0 := fun (n_ : Nat) => (show (((((((w63.drewN n_).setCell ⟨gb362, 0, none⟩ (.int .i64 ((rd_T63 l0 x6_1).f0))).setCell ⟨gb362, 1, none⟩ (.int .i64 ((rd_T63 l0 x6_1).f1))).setCell ⟨gb362, 2, none⟩ (.int .i64 ((rd_T63 l0 x6_1).f2))).setCell ⟨gb362, 3, none⟩ (.int .i64 ((rd_T63 l0 x6_1).f3))).setCell ⟨gb362, 4, none⟩ (.int .i64 ((rd_T63 l0 x6_1).f4)))).cell? _ = some _ from hx363_0)); clear hn363_0; clear hn363_1; clear hn363_2; clear hn363_3; clear hn363_4; replace p363 := eq_true p363; replace q363 := eq_true q363)))
         go_roundg k1
         case measure => have := HK1.out; omega
         case rel => exact ⟨(x3_1), (wrap64 (x6_1 + 1)), atgR_, H', ⟨atgK_⟩, ⟨att12_0_3⟩, ⟨att12_0_4⟩, ⟨att12_0_2⟩, ⟨att12_0_5⟩⟩
       ·rw [if_neg c20] at H
        exact absurd H (by simp)
      ·rw [if_neg c19] at H
       exact absurd H (by simp)
     ·rw [if_neg c18] at H
      exact absurd H (by simp)
    ·rw [if_neg c17] at H
     have c17b0 := decide_eq_false c17
     clear c17
     obtain rfl := Option.some.inj H
     go_wp2
     repeat (go_quiet (fail); try go_wp2)
     go_ret
     exact ⟨_, retT_, by exact toR_ (HO_3.out), atgB_⟩

/-! ### spec_TrimBody: function 50 -/
def spec_TrimBody.l0 : Nat → List (S63) → List Int → Int → Option ((List (S63)))
 | 0, _, _, _ => none
 | k + 1, x3, x4, x5 => if x5 < (x4.length : Int) then (if 0 ≤ x5 then (if 0 ≤ (rd x4 x5) then (if (rd x4 x5) < (x3.length : Int) then (spec_TrimBody.l0 k (x3.set ((rd x4 x5) : Int).toNat (⟨11, 0, 0, 0, wrap64 ((rd x4 x5) + 1)⟩ : S63)) x4 (wrap64 (x5 + 1))) else (none)) else (none)) else (none)) else (some x3)
def spec_TrimBody.f (k : Nat) (l0 : List (S63)) : Option ((List (S63))) := (some (([] : List (S63)) : List (S63))).bind fun y375 => (if y375.length + l0.length < 3518437208883 then ((spec_DeadAt.f k l0).bind fun t381 => (spec_TrimBody.l0 k (y375 ++ l0) t381 0)) else (none))
theorem spec_TrimBody.mono_l : ∀ k, (∀ y0 y1 y2, LeO (spec_TrimBody.l0 k y0 y1 y2) (spec_TrimBody.l0 (k + 1) y0 y1 y2))
 | 0 => fun _ _ _ r h => by simp [spec_TrimBody.l0] at h
 | k + 1 => by
  have ih0 := spec_TrimBody.mono_l k
  ·intro y0 y1 y2
   unfold spec_TrimBody.l0
   repeat' (with_reducible first | exact ih0 .. | exact spec_DeadAt.mono _ _ | exact LeO.refl _ | exact LeO.none _ | refine LeO.ite ?_ ?_ | refine LeO.bind ?_ (fun _ => ?_))
theorem spec_TrimBody.mono : ∀ a0 k, LeO (spec_TrimBody.f k a0) (spec_TrimBody.f (k + 1) a0) := by
 intro a0 k
 have ih0 := spec_TrimBody.mono_l k
 unfold spec_TrimBody.f
 repeat' (with_reducible first | exact ih0 .. | exact spec_DeadAt.mono _ _ | exact LeO.refl _ | exact LeO.none _ | refine LeO.ite ?_ ?_ | refine LeO.bind ?_ (fun _ => ?_))
def spec_TrimBody.T6 : Bool × List (List Nat × List Nat) := (true, [([], []), ([], []), ([], []), ([1, 2], [1, 2]), ([3], [3]), ([], []), ([], []), ([5, 6], [5, 6]), ([7], [7]), ([8], [8]), ([9], [9]), ([0, 4, 0, 1, 2, 3, 4, 5, 6, 7, 8, 9, 10], [0, 4]), ([11, 10, 0, 1, 2, 3, 4, 5, 6, 7, 8, 9, 10], [10, 11])])
def spec_TrimBody.B6 : List Nat := [0, 0, 0, 6, 14, 0, 0, 96, 224, 480, 992, 2047, 4095]
theorem spec_TrimBody.tab6 : rtab .any (opsOf Try.f50 6) = spec_TrimBody.T6 := by kernel_rfl
theorem spec_TrimBody.bits6 : waitsOk spec_TrimBody.T6.2 spec_TrimBody.B6 = true := by kernel_rfl
set_option maxHeartbeats 80000000 in
set_option maxRecDepth 100000 in
theorem spec_TrimBody.calls (k : Nat) (A0 : Option Addr) (c0 : Nat) (l0 : List (S63)) (r : List (S63)) (w : World) (hr0 : Kd.C k63 w A0 l0.length l0) (hc0 : l0.length ≤ c0) (h : spec_TrimBody.f k l0 = some r) :
  Calls Try.prog 50 #[.slice A0 l0.length c0] w fun e w' => ∃ v0_ : Value, e = .returned (v0_) ∧ Kd.R k63 63 w' w.heap.size (fun _ => True) v0_ r ∧ Below w.heap.size w w' := by
 have hu63 := Try.underlying63
 have HR0 := Aside0.mk hr0
 have HC0 := Aside0.mk hc0
 clear hr0 hc0
 have HB := Aside0.mk (Below.refl w.heap.size w)
 have H : ((some (([] : List (S63)) : List (S63))).bind fun y375 => (if y375.length + l0.length < 3518437208883 then ((spec_DeadAt.f k l0).bind fun t381 => (spec_TrimBody.l0 k (y375 ++ l0) t381 0)) else (none))) = some r := h
 clear h
 obtain ⟨y375, hy375⟩ : ∃ y_ : List (S63), y_ = (([] : List (S63))) := ⟨_, rfl⟩
 replace H := yy_ H hy375
 have Ny375 := Aside0.mk hy375
 clear hy375
 by_cases c2 : y375.length + l0.length < 3518437208883
 ·rw [if_pos c2] at H
  have LMc2 := Aside0.mk c2
  clear c2
  obtain ⟨y378, hy378⟩ : ∃ y_ : List (S63), y_ = (y375 ++ l0) := ⟨_, rfl⟩
  replace H : ((spec_DeadAt.f k l0).bind fun t381 => (spec_TrimBody.l0 k y378 t381 0)) = some r := by rw [hy378]; exact H
  have Ny378 := Aside0.mk hy378
  clear hy378
  replace H := Option.bind_eq_some_iff.mp H
  obtain ⟨t381, A30, H⟩ := H
  (try dsimp only at H)
  have A3 := Aside0.mk A30
  clear A30
  have H' := Aside0.mk H
  clear H
  go_enter Try.func50, Try.ntmps50
  go_wp2_with (first | ((with_reducible refine gate_dst (N := 6) rfl ?_); refine Kd.R_lit k63 _ 63 ?hg (N := 6) ?hd (xs := ([] : List (S63))) (inner := []) (ok := fun _ => True) (okp := fun _ => True) ?hr ?hp (fun _ hk => hk) trivial (Below.refl _ _) (Nat.le_refl _) (by simp) ?_; (case hd => rfl); (case hg => rfl); (case hr => first | (go_simp; done) | (go_simp; rfl)); (case hp => exact (Reps.none _ _)); intro v376 w4 ho5 hb hg_ hnew_; clear hg_ hnew_; (first | rw [← Ny375.out] at ho5 | (simp only [Int.reduceToNat] at ho5; rw [← Ny375.out] at ho5)); refine swap2_ (Kd.R_lower ho5 (below_size atgB_)) (below_step atgB_ hb) ?_; clear HB; intro HO377 HB; clear hb ho5) | ((with_reducible refine gate_builtin (b := .append) (xs := #[.tmp 6, .tmp 7]) rfl ?_); at_builtin; refine Kd.R_append_rows k63 (w0 := w) w.heap.size rfl (.tmp 6) (.tmp 7) 24 63 (.agg #[(.int .i64 0), (.int .i64 0), (.int .i64 0), (.int .i64 0), (.int .i64 0)]) 40 rfl Try.underlying24 info63 rfl (by decide) (by omega) v376 y375 l0 _ _ _ (fun _ => True) (fun _ => False) rfl rfl ?aO ?aR (fun _ _ h => h) (fun _ h => h.elim) ?aF ?aB ?aS ?aL ?_; (case aR => repeat (first | exact (Kd.C_below HR0.out HB.out) | (with_reducible refine Kd.C_alloc ?_ _) | (with_reducible refine Kd.C_drewN ?_ _) | (with_reducible refine Kd.C_drew ?_))); (case aB => exact atgB_); (case aF => exact (fun _ _ => trivial)); (case aO => exact (by exact toR_ (HO377.out))); (case aS => exact (below_size atgB_)); (case aL => have := LMc2.out; omega); intro v379 w6 ho hb hg hat; rw [← Ny378.out] at ho; refine swap2_ (hb) (ho) ?_; clear HB HO377; intro HB HO380; clear ho hb hg hat) | ((with_reducible refine gate_callee (f := 40) rfl ?_); refine goesL_ (some 10) rfl rfl Try.func40 (by kernel_rfl) rfl #[.slice A0 l0.length c0] rfl (by (try simp only [List.map_toArray, List.map_cons, List.map_nil]); first | done | rfl | (simp only [List.length_drop, List.length_take]; rfl)) ?_; (with_reducible refine (spec_DeadAt.calls k _ _ l0 t381 _ ?side1 ?side2 A3.out).mono ?_); (case side1 => repeat (first | exact (Kd.C_below HR0.out HB.out) | (with_reducible refine Kd.C_alloc ?_ _) | (with_reducible refine Kd.C_drewN ?_ _) | (with_reducible refine Kd.C_drew ?_))); (case side2 => exact HC0.out); rintro e w7 ⟨v382, rfl, ho0, hb⟩; refine ⟨_, rfl, ?_⟩; refine swap3_ (Kd.R_below att12_0_21 hb) (Kd.R_lower ho0 (below_size atgB_)) (below_step atgB_ hb) ?_; clear HO380 HB; intro HO380 HO383 HB; (try clear hb); (try clear hb2); (try clear hk); (try clear hi); (try clear ho0)))
  go_loopg [5] k (fun kq v5 w' => ∃ (x3_1 : List (S63)) (x5_1 : Int), v5 = .int .i64 x5_1 ∧ Aside0 (spec_TrimBody.l0 kq x3_1 t381 x5_1 = some r) ∧ Aside0 (kq ≤ k) ∧ Aside0 (Kd.R k63 63 w' w.heap.size (fun _ => True) v379 x3_1) ∧ Aside0 (Kd.R (Kd.int .i64) 3 w' w.heap.size (fun _ => True) v382 t381) ∧ Aside0 (Below w.heap.size w w'))
  case atStart => exact ⟨(y378), (0), atgR_, H', ⟨Nat.le_refl _⟩, ⟨att12_0_21⟩, ⟨by exact toR_ (HO383.out)⟩, ⟨atgB_⟩⟩
  case round =>
   clear H'
   try clear c2
   try clear p2
   try clear c4
   try clear c5
   obtain ⟨x3_1, x5_1, rfl, HA, HK1, HO_3, HO_4, HB⟩ := hrel
   cases gk with
   | zero => exact absurd HA.out (by simp [spec_TrimBody.l0])
   | succ k1 =>
    have H := HA.out
    clear HA
    simp only [spec_TrimBody.l0] at H
    by_cases c8 : x5_1 < (t381.length : Int)
    ·rw [if_pos c8] at H
     have c8b0 := decide_eq_true c8
     clear c8
     by_cases c9 : 0 ≤ x5_1
     ·rw [if_pos c9] at H
      have c9b0 := decide_eq_true c9
      clear c9
      by_cases c10 : 0 ≤ (rd t381 x5_1)
      ·rw [if_pos c10] at H
       have c10b0 := decide_eq_true c10
       clear c10
       by_cases c11 : (rd t381 x5_1) < (x3_1.length : Int)
       ·rw [if_pos c11] at H
        have c11b0 := decide_eq_true c11
        clear c11
        obtain ⟨y386, hy386⟩ : ∃ y_ : List (S63), y_ = (x3_1.set ((rd t381 x5_1) : Int).toNat (⟨11, 0, 0, 0, wrap64 ((rd t381 x5_1) + 1)⟩ : S63)) := ⟨_, rfl⟩
        replace H : (spec_TrimBody.l0 k1 y386 t381 (wrap64 (x5_1 + 1))) = some r := by rw [hy386]; exact H
        have Ny386 := Aside0.mk hy386
        clear hy386
        have H' := Aside0.mk H
        clear H
        obtain ⟨Ao13, co13, eo13⟩ := Kd.R_slice HO_4.out
        subst eo13
        try go_wp2
        have n0_ := Aside0.mk (Kd.R_drew HO_3.out)
        have n1_ := Aside0.mk (Kd.R_drew HO_4.out)
        have n2_ := Aside0.mk (below_drew1 HB.out)
        clear HO_3
        clear HO_4
        clear HB
        have HO_3 := n0_
        have HO_4 := n1_
        have HB := n2_
        clear n0_ n1_ n2_
        have p384 : 0 ≤ (x5_1 : Int) := of_decide_eq_true atgA_
        have q384 : x5_1 < (t381.length : Int) := of_decide_eq_true atgA_
        obtain ⟨ad384, e384, hx384_0⟩ := Kd.at_int (Kd.R_reads' HO_4.out).2.2 x5_1 p384 q384
        cases e384
        replace p384 := eq_true p384
        replace q384 := eq_true q384
        have p385 : 0 ≤ (x5_1 : Int) := of_decide_eq_true atgA_
        have q385 : x5_1 < (t381.length : Int) := of_decide_eq_true atgA_
        obtain ⟨ad385, e385, hx385_0⟩ := Kd.at_int (Kd.R_reads' HO_4.out).2.2 x5_1 p385 q385
        obtain rfl : ad384 = ad385 := (by injection e385)
        replace p385 := eq_true p385
        replace q385 := eq_true q385
        have p12 : 0 ≤ ((rd t381 x5_1) : Int) := of_decide_eq_true atgA_
        have q12 : ((rd t381 x5_1) : Int) < ((x3_1.length : Int) : Int) := of_decide_eq_true atgA_
        obtain ⟨go12, co12, eo12, gb12, gl12, cl12, HG12⟩ := Kd.R_form HO_3.out (by omega)
        (first | cases eo12 | (injection eo12 with ea_ en_ ec_; (first | subst ea_ | (injection ea_ with ea_; subst ea_)); subst ec_; clear en_))
        have GB12 := Aside0.mk gb12
        have GG12 := Aside0.mk HG12
        clear gb12 gl12 HG12
        obtain ⟨ce12, hcl12, hM12, hcc12, hfr12⟩ := Kd.R_elem HO_3.out z63 ((rd t381 x5_1) : Int) p12 q12
        obtain rfl := k63_openM hM12
        have hx12_0 : World.cell? _ ⟨go12, ((rd t381 x5_1) : Int).toNat * 5, none⟩ = some (.int .i64 ((rd_T63 x3_1 (rd t381 x5_1)).f0)) := hcc12 0 _ rfl
        have hx12_1 : World.cell? _ ⟨go12, ((rd t381 x5_1) : Int).toNat * 5 + 1, none⟩ = some (.int .i64 ((rd_T63 x3_1 (rd t381 x5_1)).f1)) := hcc12 1 _ rfl
        have hx12_2 : World.cell? _ ⟨go12, ((rd t381 x5_1) : Int).toNat * 5 + 2, none⟩ = some (.int .i64 ((rd_T63 x3_1 (rd t381 x5_1)).f2)) := hcc12 2 _ rfl
        have hx12_3 : World.cell? _ ⟨go12, ((rd t381 x5_1) : Int).toNat * 5 + 3, none⟩ = some (.int .i64 ((rd_T63 x3_1 (rd t381 x5_1)).f3)) := hcc12 3 _ rfl
        have hx12_4 : World.cell? _ ⟨go12, ((rd t381 x5_1) : Int).toNat * 5 + 4, none⟩ = some (.int .i64 ((rd_T63 x3_1 (rd t381 x5_1)).f4)) := hcc12 4 _ rfl
        have hf12_0 : World.frozen? _ ⟨go12, ((rd t381 x5_1) : Int).toNat * 5, none⟩ = false := hfr12 0
        have hf12_1 : World.frozen? _ ⟨go12, ((rd t381 x5_1) : Int).toNat * 5 + 1, none⟩ = false := hfr12 1
        have hf12_2 : World.frozen? _ ⟨go12, ((rd t381 x5_1) : Int).toNat * 5 + 2, none⟩ = false := hfr12 2
        have hf12_3 : World.frozen? _ ⟨go12, ((rd t381 x5_1) : Int).toNat * 5 + 3, none⟩ = false := hfr12 3
        have hf12_4 : World.frozen? _ ⟨go12, ((rd t381 x5_1) : Int).toNat * 5 + 4, none⟩ = false := hfr12 4
        clear hcl12 hcc12 hfr12 hM12
        replace p12 := eq_true p12
        replace q12 := eq_true q12
        obtain ⟨ce15, hcl15, hM15, hcc15, hfr15⟩ := Kd.R_elem HO_3.out z63 ((rd t381 x5_1) : Int) (of_decide_eq_true atgA_) att12_1_2
        obtain rfl := k63_openM hM15
        have HP15 := (Kd.R_seg HO_3.out ((rd t381 x5_1) : Int) (of_decide_eq_true atgA_) att12_1_2 (seg := [.int .i64 11, .int .i64 0, .int .i64 0, .int .i64 0, .int .i64 (wrap64 ((rd t381 x5_1) + 1))]) (j := 0) hcl15 hcc15 (show 5 ≤ 5 from by decide) (x' := (⟨11, 0, 0, 0, wrap64 ((rd t381 x5_1) + 1)⟩ : S63)) (k63_mkM _ _ _ (⟨11, 0, 0, 0, wrap64 ((rd t381 x5_1) + 1)⟩ : S63) ) (fun _ hk => hk)).1
        rw [← Ny386.out] at HP15
        have HQ15 := Aside0.mk HP15
        clear hcl15 hcc15 hfr15 hM15 HP15
        refine start_ (n := 13) (S := fun w' => w'.cell? (ad384.add (x5_1).toNat) = some (.int .i64 (rd t381 x5_1)) ∧ w'.cell? (ad384.add (x5_1).toNat) = some (.int .i64 (rd t381 x5_1))) (ds := [12]) (tf_ 0 13) (by kernel_rfl) rfl rfl ⟨hx384_0, hx385_0⟩ (fun hHeld => ?_); refine with_tabW spec_TrimBody.tab6 spec_TrimBody.bits6 (fun HT_ HW_ => ?_)
        generalize wr.drew = w14 at HO_3 HO_4 HB GG12 HQ15 hf12_0 hf12_1 hf12_2 hf12_3 hf12_4 hx12_0 hx12_1 hx12_2 hx12_3 hx12_4 hx384_0 hx385_0 hHeld ⊢
        refine pureQ_ (i := 0) (N := some 17) (tf_ 1 12) (h := ?_)
        refine pureQ_ (i := 1) (N := some 18) (tf_ 2 11) (h := ?_)
        refine pureQ_ (i := 2) (N := some 19) (tf_ 3 10) (h := ?_)
        refine pureQ_ (i := 3) (N := some 20) (tf_ 4 9) (h := ?_)
        refine pureQ_ (i := 5) (N := some 22) #[true, true, true, true, false, true, false, false, false, false, false, false, false] (h := ?_)
        refine pureQ_ (i := 6) (N := some 23) #[true, true, true, true, false, true, true, false, false, false, false, false, false] (h := ?_)
        refine pureQ_ (i := 7) (N := some 24) #[true, true, true, true, false, true, true, true, false, false, false, false, false] (h := ?_)
        refine takeQ_ (i := 4) (N := some 21) (tf_ 8 5) hHeld (hy := Or.inl ⟨by rfl, by rintro w' ⟨s0, s1⟩; go_simp; with_reducible rfl⟩) (h := ?_)
        refine takeQ_ (i := 8) (N := some 25) (tf_ 9 4) hHeld (hy := Or.inl ⟨by rfl, by rintro w' ⟨s0, s1⟩; go_simp; with_reducible rfl⟩) (h := ?_)
        refine pureQ_ (i := 9) (N := some 26) (tf_ 10 3) (h := ?_)
        refine pureQ_ (i := 10) (N := some 27) (tf_ 11 2) (h := ?_)
        refine pureQ_ (i := 11) (N := some 28) (tf_ 12 1) (h := ?_)
        refine last_ (i := 12) (N := none) (tf_ 13 0) rfl rfl (one_of HT_.out (by kernel_rfl)) (by decide) (fun K hK => ?_)
        refine skip_ (w1 := ?_) (by rfl) rfl ?_ ?_
        rotate_left
        ·go_simp
         rfl
        refine hK.out _ _ ?_
        clear hK K
        refine done_ (done_of HT_.out (by kernel_rfl)) ?_
        try go_wp2
        go_roundg k1
        case measure => have := HK1.out; omega
        case rel => exact ⟨(y386), (wrap64 (x5_1 + 1)), atgR_, H', ⟨atgK_⟩, ⟨by exact toR_ (HQ15.out)⟩, ⟨by exact toR_ (Kd.R_mono (Kd.R_far (p := ⟨go12, ((rd t381 x5_1) : Int).toNat * 5 + 4, none⟩) (Kd.R_far (p := ⟨go12, ((rd t381 x5_1) : Int).toNat * 5 + 3, none⟩) (Kd.R_far (p := ⟨go12, ((rd t381 x5_1) : Int).toNat * 5 + 2, none⟩) (Kd.R_far (p := ⟨go12, ((rd t381 x5_1) : Int).toNat * 5 + 1, none⟩) (Kd.R_far (p := ⟨go12, ((rd t381 x5_1) : Int).toNat * 5, none⟩) (Kd.R_types HO_4.out GG12.out (by decide)) (fun _ hk => hk.2) (.int .i64 11)) (fun _ hk => hk.2) (.int .i64 0)) (fun _ hk => hk.2) (.int .i64 0)) (fun _ hk => hk.2) (.int .i64 0)) (fun _ hk => hk.2) (.int .i64 (wrap64 ((rd t381 x5_1) + 1)))) (fun _ hk => trivial))⟩, ⟨by repeat (first | (with_reducible first | exact HB.out | apply below_alloc | apply pw_below_drewN | apply below_drew1 | refine below_set ?_ GB12.out | refine below_set ?_ GB12.out | refine below_set ?_ GB12.out | refine below_set ?_ GB12.out | refine below_set ?_ GB12.out) | exact HB.out)⟩⟩
       ·rw [if_neg c11] at H
        exact absurd H (by simp)
      ·rw [if_neg c10] at H
       exact absurd H (by simp)
     ·rw [if_neg c9] at H
      exact absurd H (by simp)
    ·rw [if_neg c8] at H
     have c8b0 := decide_eq_false c8
     clear c8
     obtain rfl := Option.some.inj H
     obtain ⟨Ao16, co16, eo16⟩ := Kd.R_slice HO_4.out
     subst eo16
     go_wp2
     go_ret
     exact ⟨_, retT_, by exact toR_ (HO_3.out), atgB_⟩
 ·rw [if_neg c2] at H
  exact absurd H (by simp)

end Go.Proofs.Ytocimkpafakiaaa.XFnExactTrimProg
