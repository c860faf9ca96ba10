/- Each Go function that the law reaches as a Lean function, and that Go comes to just its answer; written by this session's xprint.py over the kit's printer. -/
import Derived.Test.YtocimkpafakiaaaXFnExactTrimProgx0
import Derived.Test.YtocimkpafakiaaaXFnExactTrimProgx7
import Derived.Test.YtocimkpafakiaaaXFnExactTrimProgx9
namespace Go.Proofs.Ytocimkpafakiaaa.XFnExactTrimProg
open Go.RowKit Go.Proofs.YtocimkpafakiaaaW.PrintWords Go.Proofs.YtocimkpafakiaaaW.PrintLast Go.Proofs.YtocimkpafakiaaaW.PrintMore
attribute [local go_sem] max2_int min2_int max_two min_two max_three min_three max_four min_four   -- for this text's walks alone
set_option linter.unusedVariables false
set_option linter.unusedSimpArgs false

theorem att11_0_1 {p : Prop} (h : p := by exact toR_ (HO_6.out)) : p := h
theorem att11_0_2 {p : Prop} (h : p := by exact toS_ (HO_3.out)) : p := h
theorem att11_0_3 {p : Prop} (h : p := by exact toS_ (HO_4.out)) : p := h
theorem att11_0_5 {p : Prop} (h : p := by exact toR_ (HO_5.out)) : p := h
theorem att11_0_8 {p : Prop} (h : p := by exact toR_ (HO340.out)) : p := h
theorem att11_0_9 {p : Prop} (h : p := by repeat (first | (with_reducible exact HR337.out) | (with_reducible refine Kd.C_alloc ?_ _) | (with_reducible refine Kd.C_drewN ?_ _) | (with_reducible refine Kd.C_drew ?_) | exact HR337.out)) : p := h
theorem att11_0_10 {p : Prop} (h : p := by exact toS_ (HO301.out)) : p := h
theorem att11_0_11 {p : Prop} (h : p := by exact toR_ (Kd.R_mono HO_6.out (fun _ hk => ⟨hk.2, hk.1.2⟩))) : p := h
theorem att11_0_12 {p : Prop} (h : p := by exact toR_ (HO323.out)) : p := h
theorem att11_0_13 {p : Prop} (h : p := by repeat (first | (with_reducible exact HR314_0.out) | (with_reducible refine Kd.C_alloc ?_ _) | (with_reducible refine Kd.C_drewN ?_ _) | (with_reducible refine Kd.C_drew ?_) | exact HR314_0.out)) : p := h
theorem att11_0_14 {p : Prop} (h : p := by have := HK1.out; have := HK2.out; have := HK3.out; omega) : p := h
theorem att11_0_15 {p : Prop} (h : p := by exact toR_ (Kd.R_mono HO333.out (fun _ hk => hk.2))) : p := h
theorem att11_0_17 {p : Prop} (h : p := by exact toR_ (HL314_0.out)) : p := h
theorem att11_0_18 {p : Prop} (h : p := by exact toR_ (HO333.out)) : p := h
theorem att11_0_19 {p : Prop} (h : p := by exact toR_ (HO326.out)) : p := h
/-! ### spec_LiveAt: function 35 -/
/-- The blocks of an own row of rows, by their types. -/
def blksS {α : Type} {d : Kd α} {e : Nat} {w : World} {base : Nat} {ok : Nat → Prop} {v : Value} {xs : List α} (h : Kd.S d e w base ok v xs) : Nat → Prop := fun k => ok k ∧ base ≤ k ∧ k < w.heap.size ∧ ∃ q, q ∈ e :: d.E ∧ ∃ cells, w.heap[k]? = some (.cells cells q (0, 0))
theorem apart_blksS {α β : Type} {d : Kd α} {d' : Kd β} {e e' : Nat} {w : World} {base base' : Nat} {ok ok' : Nat → Prop} {v v' : Value} {xs : List α} {ys : List β} (hz : Kd.S d' e' w base' ok' v' ys) (h : Kd.S d e w base ok v xs) (hd : ∀ q, q ∈ e' :: d'.E → ¬ q ∈ e :: d.E) : Kd.S d' e' w base' (fun k => ok' k ∧ ¬ blksS h k) v' ys :=
Kd.S_mono (Kd.S_bound hz) (fun k hk => ⟨hk.1, fun hb => by
 obtain ⟨_, _, _, q, hq, cells, hc⟩ := hk
 obtain ⟨_, _, _, q2, hq2, cells2, hc2⟩ := hb
 rw [hc] at hc2
 injection hc2 with hc2
 injection hc2 with _ hc2
 exact hd q hq (hc2 ▸ hq2)⟩)
mutual
def spec_LiveAt.l0 : Nat → List (S63) → List (List Int) → List (List Bool) → Int → Option ((List (List Int)))
 | 0, _, _, _, _ => none
 | k + 1, x0, x3, x4, x5 => if x5 < (x0.length : Int) then (if 4 ≤ 281474976710656 then (if x4.length < 5864062014805 then (spec_LiveAt.l0 k x0 x3 (x4 ++ [(List.replicate 4 false)]) (wrap64 (x5 + 1))) else (none)) else (none)) else (spec_LiveAt.l1 k x0 x3 x4 true)
def spec_LiveAt.l1 : Nat → List (S63) → List (List Int) → List (List Bool) → Bool → Option ((List (List Int)))
 | 0, _, _, _, _ => none
 | k + 1, x0, x3, x4, x6 => if x6 = true then (spec_LiveAt.l2 k x0 x3 x4 false (wrap64 ((x0.length : Int) - 1))) else (spec_LiveAt.l3 k x0 x3 x4 0)
def spec_LiveAt.l2 : Nat → List (S63) → List (List Int) → List (List Bool) → Bool → Int → Option ((List (List Int)))
 | 0, _, _, _, _, _ => none
 | k + 1, x0, x3, x4, x6, x7 => if x7 ≥ 0 then ((spec_l18Round.f k x0 x4 x7).bind fun bt312 => (if bt312.1 = true then (spec_LiveAt.l2 k x0 x3 bt312.2 true (wrap64 (x7 - 1))) else (spec_LiveAt.l2 k x0 x3 bt312.2 x6 (wrap64 (x7 - 1))))) else (spec_LiveAt.l1 k x0 x3 x4 x6)
def spec_LiveAt.l3 : Nat → List (S63) → List (List Int) → List (List Bool) → Int → Option ((List (List Int)))
 | 0, _, _, _, _ => none
 | k + 1, x0, x3, x4, x8 => if x8 < (x0.length : Int) then (if 0 ≤ x8 then (if x8 < (x4.length : Int) then ((spec_l18Places.f k (rd_L6 x4 x8) true).bind fun t315 => (if x3.length < 5864062014805 then (spec_LiveAt.l3 k x0 (x3 ++ [t315]) x4 (wrap64 (x8 + 1))) else (none))) else (none)) else (none)) else (some x3)
end
def spec_LiveAt.f (k : Nat) (l0 : List (S63)) : Option ((List (List Int))) := (some (([] : List (List Int)) : List (List Int))).bind fun y299 => ((spec_BodyOk.f k l0 3).bind fun t302 => (if t302 = true then (spec_LiveAt.l0 k l0 y299 (([] : List (List Bool))) 0) else (some y299)))
theorem spec_LiveAt.mono_l : ∀ k, (∀ y0 y1 y2 y3, LeO (spec_LiveAt.l0 k y0 y1 y2 y3) (spec_LiveAt.l0 (k + 1) y0 y1 y2 y3)) ∧ (∀ y0 y1 y2 y3, LeO (spec_LiveAt.l1 k y0 y1 y2 y3) (spec_LiveAt.l1 (k + 1) y0 y1 y2 y3)) ∧ (∀ y0 y1 y2 y3 y4, LeO (spec_LiveAt.l2 k y0 y1 y2 y3 y4) (spec_LiveAt.l2 (k + 1) y0 y1 y2 y3 y4)) ∧ (∀ y0 y1 y2 y3, LeO (spec_LiveAt.l3 k y0 y1 y2 y3) (spec_LiveAt.l3 (k + 1) y0 y1 y2 y3))
 | 0 => ⟨fun _ _ _ _ r h => by simp [spec_LiveAt.l0] at h, fun _ _ _ _ r h => by simp [spec_LiveAt.l1] at h, fun _ _ _ _ _ r h => by simp [spec_LiveAt.l2] at h, fun _ _ _ _ r h => by simp [spec_LiveAt.l3] at h⟩
 | k + 1 => by
  obtain ⟨ih0, ih1, ih2, ih3⟩ := spec_LiveAt.mono_l k
  refine ⟨?_, ?_, ?_, ?_⟩
  all_goals intros
  all_goals first | unfold spec_LiveAt.l0 | unfold spec_LiveAt.l1 | unfold spec_LiveAt.l2 | unfold spec_LiveAt.l3
  all_goals repeat' (with_reducible first | exact ih0 .. | exact ih1 .. | exact ih2 .. | exact ih3 .. | exact spec_BodyOk.mono .. | exact spec_l18Places.mono .. | exact spec_l18Round.mono .. | exact LeO.refl _ | exact LeO.none _ | refine LeO.ite ?_ ?_ | refine LeO.bind ?_ (fun _ => ?_))
theorem spec_LiveAt.mono : ∀ a0 k, LeO (spec_LiveAt.f k a0) (spec_LiveAt.f (k + 1) a0) := by
 intro a0 k
 obtain ⟨ih0, ih1, ih2, ih3⟩ := spec_LiveAt.mono_l k
 unfold spec_LiveAt.f
 repeat' (with_reducible first | exact ih0 .. | exact ih1 .. | exact ih2 .. | exact ih3 .. | exact spec_BodyOk.mono .. | exact spec_l18Places.mono .. | exact spec_l18Round.mono .. | exact LeO.refl _ | exact LeO.none _ | refine LeO.ite ?_ ?_ | refine LeO.bind ?_ (fun _ => ?_))
set_option maxHeartbeats 80000000 in
set_option maxRecDepth 100000 in
theorem spec_LiveAt.calls (k : Nat) (A0 : Option Addr) (c0 : Nat) (l0 : List (S63)) (r : List (List Int)) (w : World) (hr0 : Kd.C k63 w A0 l0.length l0) (hc0 : l0.length ≤ c0) (h : spec_LiveAt.f k l0 = some r) :
  Calls Try.prog 35 #[.slice A0 l0.length c0] w fun e w' => ∃ v0_ : Value, e = .returned (v0_) ∧ Kd.S (Kd.slice 3 (Kd.int .i64)) 34 w' w.heap.size (fun _ => True) v0_ r ∧ Below w.heap.size w w' := by
 have HR0 := Aside0.mk hr0
 have HC0 := Aside0.mk hc0
 clear hr0 hc0
 have HB := Aside0.mk (Below.refl w.heap.size w)
 have H : ((some (([] : List (List Int)) : List (List Int))).bind fun y299 => ((spec_BodyOk.f k l0 3).bind fun t302 => (if t302 = true then (spec_LiveAt.l0 k l0 y299 (([] : List (List Bool))) 0) else (some y299)))) = some r := h
 clear h
 obtain ⟨y299, hy299⟩ : ∃ y_ : List (List Int), y_ = (([] : List (List Int))) := ⟨_, rfl⟩
 replace H := yy_ H hy299
 have Ny299 := Aside0.mk hy299
 clear hy299
 replace H := Option.bind_eq_some_iff.mp H
 obtain ⟨t302, A20, H⟩ := H
 (try dsimp only at H)
 have A2 := Aside0.mk A20
 clear A20
 by_cases c3 : t302 = true
 ·subst c3
  rw [if_pos rfl] at H
  obtain ⟨y303, hy303⟩ : ∃ y_ : List (List Bool), y_ = (([] : List (List Bool))) := ⟨_, rfl⟩
  replace H : (spec_LiveAt.l0 k l0 y299 y303 0) = some r := by rw [hy303]; exact H
  have Ny303 := Aside0.mk hy303
  clear hy303
  have H' := Aside0.mk H
  clear H
  go_enter Try.func35, Try.ntmps35
  go_wp2_with (first | ((with_reducible refine gate_dst (N := 9) rfl ?_); refine Kd.S_lit (Kd.slice 3 (Kd.int .i64)) _ 34 ?hg (N := 9) ?hd (xs := ([] : List (List Int))) (inner := []) (ok := fun _ => True) (okp := fun _ => True) ?hr ?hp (fun _ hk => hk) trivial (Below.refl _ _) (Nat.le_refl _) (by simp) ?_; (case hd => rfl); (case hg => rfl); (case hr => first | (go_simp; done) | (go_simp; rfl)); (case hp => exact (Reps.none _ _)); intro v300 w4 ho5 hb hg_ hnew_; clear hg_ hnew_; (first | rw [← Ny299.out] at ho5 | (simp only [Int.reduceToNat] at ho5; rw [← Ny299.out] at ho5)); refine swap2_ (Kd.S_lower ho5 (below_size atgB_)) (below_step atgB_ hb) ?_; clear HB; intro HO301 HB; clear hb ho5) | ((with_reducible refine gate_callee (f := 63) rfl ?_); refine goesL_ (some 11) rfl rfl Try.func63 (by kernel_rfl) rfl #[.slice A0 l0.length c0, .int .i64 3] rfl atgM_ ?_; (with_reducible refine (spec_BodyOk.calls k _ _ l0 3 true _ ?side1 ?side2 A2.out).mono ?_); (case side1 => repeat (first | exact (Kd.C_below HR0.out HB.out) | (with_reducible refine Kd.C_alloc ?_ _) | (with_reducible refine Kd.C_drewN ?_ _) | (with_reducible refine Kd.C_drew ?_))); (case side2 => exact HC0.out); rintro e w6 ⟨rfl, hb⟩; refine ⟨_, rfl, ?_⟩; refine swap2_ (Kd.S_below att11_0_10 hb) (below_step atgB_ hb) ?_; clear HO301 HB; intro HO301 HB; (try clear hb); (try clear hb2); (try clear hk); (try clear hi)) | ((with_reducible refine gate_dst (N := 14) rfl ?_); refine Kd.S_lit (Kd.slice 4 Kd.bool) _ 66 ?hg (N := 14) ?hd (xs := ([] : List (List Bool))) (inner := []) (ok := fun _ => True) (okp := fun _ => True) ?hr ?hp (fun _ hk => hk) trivial (Below.refl _ _) (Nat.le_refl _) (by simp) ?_; (case hd => rfl); (case hg => rfl); (case hr => first | (go_simp; done) | (go_simp; rfl)); (case hp => exact (Reps.none _ _)); intro v304 w7 ho8 hb hg_ hnew_; clear hg_ hnew_; (first | rw [← Ny303.out] at ho8 | (simp only [Int.reduceToNat] at ho8; rw [← Ny303.out] at ho8)); refine swap3_ (Kd.S_below att11_0_10 hb) (Kd.S_lower ho8 (below_size atgB_)) (below_step atgB_ hb) ?_; clear HO301 HB; intro HO301 HO305 HB; clear hb ho8))
  go_loopg [4, 5] k (fun kq v4 v5 w' => ∃ (x4_1 : List (List Bool)) (x5_1 : Int), v5 = .int .i64 x5_1 ∧ Aside0 (spec_LiveAt.l0 kq l0 y299 x4_1 x5_1 = some r) ∧ Aside0 (kq ≤ k) ∧ Aside0 (Kd.S (Kd.slice 3 (Kd.int .i64)) 34 w' w.heap.size (fun _ => True) v300 y299) ∧ Aside0 (Kd.S (Kd.slice 4 Kd.bool) 66 w' w.heap.size (fun _ => True) v4 x4_1) ∧ Aside0 (Below w.heap.size w w'))
  case atStart => exact ⟨(y303), (0), atgR_, H', ⟨Nat.le_refl _⟩, ⟨att11_0_10⟩, ⟨by exact toS_ (HO305.out)⟩, ⟨atgB_⟩⟩
  case round =>
   clear H'
   try clear p2
   try clear c3
   try clear c6
   obtain ⟨x4_1, x5_1, rfl, HA, HK1, HO_3, HO_4, HB⟩ := hrel
   cases gk with
   | zero => exact absurd HA.out (by simp [spec_LiveAt.l0])
   | succ k1 =>
    have H := HA.out
    clear HA
    simp only [spec_LiveAt.l0] at H
    by_cases c9 : x5_1 < (l0.length : Int)
    ·rw [if_pos c9] at H
     have c9b0 := decide_eq_true c9
     clear c9
     by_cases c10 : 4 ≤ 281474976710656
     ·rw [if_pos c10] at H
      have c10b0 := eq_true c10
      have c10b1 := decide_eq_true c10
      clear c10
      obtain ⟨y306, hy306⟩ : ∃ y_ : List Bool, y_ = (List.replicate 4 false) := ⟨_, rfl⟩
      replace H : (if x4_1.length < 5864062014805 then (spec_LiveAt.l0 k1 l0 y299 (x4_1 ++ [y306]) (wrap64 (x5_1 + 1))) else (none)) = some r := by rw [hy306]; exact H
      have Ny306 := Aside0.mk hy306
      clear hy306
      by_cases c11 : x4_1.length < 5864062014805
      ·rw [if_pos c11] at H
       have LMc11 := Aside0.mk c11
       clear c11
       obtain ⟨y309, hy309⟩ : ∃ y_ : List (List Bool), y_ = (x4_1 ++ [y306]) := ⟨_, rfl⟩
       replace H : (spec_LiveAt.l0 k1 l0 y299 y309 (wrap64 (x5_1 + 1))) = some r := by rw [hy309]; exact H
       have Ny309 := Aside0.mk hy309
       clear hy309
       have H' := Aside0.mk H
       clear H
       go_wp2_with (first | ((with_reducible refine gate_dst (N := 22) rfl ?_); refine Kd.R_make Kd.bool _ 4 rfl (N := 22) rfl 66 _ _ rfl 4 rfl rfl Try.underlying66 (.bool false) 1 info4 rfl (by decide) (by omega) false (ok := fun _ => True) (okp := fun _ => True) rfl (fun _ hk => hk) trivial (by omega) (by omega) (Below.refl _ _) (Nat.le_refl _) ?_; intro v307 w12 ho13 hb hg_ hnew_; clear hg_ hnew_; (first | rw [← Ny306.out] at ho13 | (simp only [Int.reduceToNat] at ho13; rw [← Ny306.out] at ho13)); refine swap4_ (Kd.S_below att11_0_2 hb) (Kd.S_elder' att11_0_3 (Kd.R_base ho13) hb) (Kd.R_lower ho13 (below_size atgB_)) (below_step atgB_ hb) ?_; clear HO_3 HO_4 HB; intro HO_3 HO_4 HO308 HB; clear hb ho13; obtain ⟨Ao15, co15, eo15⟩ := Kd.R_slice HO308.out; subst eo15) | ((with_reducible refine gate_builtin (b := .append) (xs := #[.tmp 21, .tmp 23]) rfl ?_); at_builtin; refine Kd.S_append (Kd.slice 4 Kd.bool) (w0 := w) w.heap.size rfl (.tmp 21) (.tmp 23) 75 66 (.slice none 0 0) 24 rfl Try.underlying75 info66 rfl (by decide) (by omega) u4 x4_1 y306 [.slice Ao15 y306.length co15] (fun _ => True) (fun k_ => some k_ = (.slice Ao15 y306.length co15 : Value).ownBlock) rfl rfl ?aP (fun k_ hk_ => ((Kd.R_mono (ok' := fun k_ => ((fun _ => True)) k_ ∧ some k_ ≠ (u4 : Value).ownBlock) (Kd.R_apart' (HO308.out) (Kd.S_typed HO_4.out) (by decide)) (fun k_ hk => ⟨trivial, hk.2⟩))).1 k_ hk_.symm) ?aF ?aO ?aB ?aS ?aL ?_; (case aP => exact Kd.M_row (Kd.R_mono (Kd.R_tight rfl (Kd.R_mono (ok' := fun k_ => ((fun _ => True)) k_ ∧ some k_ ≠ (u4 : Value).ownBlock) (Kd.R_apart' (HO308.out) (Kd.S_typed HO_4.out) (by decide)) (fun k_ hk => ⟨trivial, hk.2⟩))) (fun _ h_ => h_))); (case aB => exact atgB_); (case aF => exact (fun _ _ => trivial)); (case aO => exact (by exact toS_ (Kd.S_mono HO_4.out (fun k_ hk => ⟨trivial, fun e_ => hk.2 e_⟩)))); (case aS => exact (below_size atgB_)); (case aL => have := LMc11.out; omega); intro v310 w14 ho hb hg hat; rw [← Ny309.out] at ho; refine swap3_ (Kd.S_over' att11_0_2 (Kd.S_typed att11_0_3) (by decide) hg) (hb) (ho) ?_; clear HO_3 HB HO_4 HO308; intro HO_3 HB HO311; clear ho hb hg hat))
       go_roundg k1
       case measure => have := HK1.out; omega
       case rel => exact ⟨(y309), (wrap64 (x5_1 + 1)), atgR_, H', ⟨by have := HK1.out; omega⟩, ⟨att11_0_2⟩, ⟨by exact toS_ (HO311.out)⟩, ⟨atgB_⟩⟩
      ·rw [if_neg c11] at H
       exact absurd H (by simp)
     ·rw [if_neg c10] at H
      exact absurd H (by simp)
    ·rw [if_neg c9] at H
     have c9b0 := decide_eq_false c9
     clear c9
     have H' := Aside0.mk H
     clear H
     go_wp2
     go_loopg [6] k1 (fun kq v6 w' => ∃ (x4_2 : List (List Bool)) (x6_2 : Bool), v6 = .bool x6_2 ∧ Aside0 (spec_LiveAt.l1 kq l0 y299 x4_2 x6_2 = some r) ∧ Aside0 (kq ≤ k1) ∧ Aside0 (Kd.S (Kd.slice 3 (Kd.int .i64)) 34 w' w.heap.size (fun _ => True) v300 y299) ∧ Aside0 (Kd.S (Kd.slice 4 Kd.bool) 66 w' w.heap.size (fun _ => True) u4 x4_2) ∧ Aside0 (Below w.heap.size w w'))
     case atStart => exact ⟨(x4_1), (true), atgR_, H', ⟨Nat.le_refl _⟩, ⟨att11_0_2⟩, ⟨att11_0_3⟩, ⟨atgB_⟩⟩
     case round =>
      clear H'
      try clear c1
      try clear p2
      try clear c3
      try clear c6
      try clear p6
      try clear c9
      try clear c9b0
      try clear c10
      try clear c10b0
      try clear c10b1
      try clear c11
      try clear p2
      obtain ⟨x4_2, x6_2, rfl, HA, HK2, HO_3, HO_4, HB⟩ := hrel
      cases gk with
      | zero => exact absurd HA.out (by simp [spec_LiveAt.l1])
      | succ k2 =>
       have H := HA.out
       clear HA
       simp only [spec_LiveAt.l1] at H
       by_cases c16 : x6_2 = true
       ·subst c16
        rw [if_pos rfl] at H
        have H' := Aside0.mk H
        clear H
        go_wp2
        go_loopg [6, 7] k2 (fun kq v6 v7 w' => ∃ (x4_3 : List (List Bool)) (x6_3 : Bool) (x7_3 : Int), v6 = .bool x6_3 ∧ v7 = .int .i64 x7_3 ∧ Aside0 (spec_LiveAt.l2 kq l0 y299 x4_3 x6_3 x7_3 = some r) ∧ Aside0 (kq ≤ k2) ∧ Aside0 (Kd.S (Kd.slice 3 (Kd.int .i64)) 34 w' w.heap.size (fun _ => True) v300 y299) ∧ Aside0 (Kd.S (Kd.slice 4 Kd.bool) 66 w' w.heap.size (fun _ => True) u4 x4_3) ∧ Aside0 (Below w.heap.size w w'))
        case atStart => exact ⟨(x4_2), (false), (wrap64 ((l0.length : Int) - 1)), atgR_, atgR_, H', ⟨Nat.le_refl _⟩, ⟨att11_0_2⟩, ⟨att11_0_3⟩, ⟨atgB_⟩⟩
        case round =>
         clear H'
         try clear c1
         try clear p2
         try clear c3
         try clear c6
         try clear p6
         try clear c9
         try clear c9b0
         try clear c10
         try clear c10b0
         try clear c10b1
         try clear c11
         try clear c16
         try clear p2
         try clear p6
         obtain ⟨x4_3, x6_3, x7_3, rfl, rfl, HA, HK3, HO_3, HO_4, HB⟩ := hrel
         cases gk with
         | zero => exact absurd HA.out (by simp [spec_LiveAt.l2])
         | succ k3 =>
          have H := HA.out
          clear HA
          simp only [spec_LiveAt.l2] at H
          by_cases c17 : x7_3 ≥ 0
          ·rw [if_pos c17] at H
           have c17b0 := decide_eq_true c17
           clear c17
           replace H := Option.bind_eq_some_iff.mp H
           obtain ⟨⟨t312, t313⟩, A180, H⟩ := H
           (try dsimp only at H)
           have A18 := Aside0.mk A180
           clear A180
           by_cases c19 : t312 = true
           ·subst c19
            rw [if_pos rfl] at H
            have H' := Aside0.mk H
            clear H
            obtain ⟨Ao20, co20, eo20⟩ := Kd.S_slice HO_4.out
            subst eo20
            go_wp2_with (first | ((with_reducible refine gate_callee (f := 81) rfl ?_); refine goesL_ (some 36) rfl rfl Try.func81 (by kernel_rfl) rfl #[.slice A0 l0.length c0, .slice Ao20 x4_3.length co20, .int .i64 x7_3] rfl atgM_ ?_; obtain ⟨P4_, hP4_⟩ : ∃ P_ : Nat → Prop, P_ = blksS HO_4.out := ⟨_, rfl⟩; (with_reducible refine (spec_l18Round.calls k3 _ _ l0 P4_ (.slice Ao20 x4_3.length co20) x4_3 x7_3 true t313 w _ ?side1 ?side2 ?side3 ?side4 A18.out).mono ?_); (case side1 => repeat (first | (with_reducible first | exact HB.out | apply below_alloc | apply pw_below_drewN | apply below_drew1) | exact HB.out)); (case side2 => exact Kd.C_kept_came k63_heap HR0.out atgB_ (fun k_ hs_ => (show blksS HO_4.out k_ from hP4_ ▸ hs_).2.1)); (case side3 => exact HC0.out); (case side4 => rw [hP4_]; (with_reducible repeat (first | apply Kd.S_alloc | apply Kd.S_drewN | apply Kd.S_drew)); exact Kd.S_bound HO_4.out); rintro e w21 ⟨rfl, hy0, hb, hkp⟩; refine ⟨_, rfl, ?_⟩; refine swap3_ (Kd.S_mono (ok' := fun k_ => True) (Kd.S_keptB (apart_blksS HO_3.out HO_4.out (by decide)) hkp (fun k_ hk_ hs_ => hk_.2 (hP4_ ▸ hs_))) (fun k_ hk_ => trivial)) (Kd.S_mono (ok' := fun _ => True) hy0 (fun _ _ => trivial)) (hb) ?_; clear hkp hP4_ HO_3 HO_4 HB; intro HO_3 HO_4 HB; (try clear hb); (try clear hkp); (try clear hy0)))
            go_roundg k3
            case measure => have := HK1.out; have := HK2.out; have := HK3.out; omega
            case rel => exact ⟨(t313), (true), (wrap64 (x7_3 - 1)), atgR_, atgR_, H', ⟨att11_0_14⟩, ⟨att11_0_2⟩, ⟨att11_0_3⟩, ⟨atgB_⟩⟩
           ·replace c19 := Bool.eq_false_iff.mpr c19
            subst c19
            rw [if_neg (show ¬ (false = true) by decide)] at H
            have H' := Aside0.mk H
            clear H
            obtain ⟨Ao22, co22, eo22⟩ := Kd.S_slice HO_4.out
            subst eo22
            go_wp2_with (first | ((with_reducible refine gate_callee (f := 81) rfl ?_); refine goesL_ (some 36) rfl rfl Try.func81 (by kernel_rfl) rfl #[.slice A0 l0.length c0, .slice Ao22 x4_3.length co22, .int .i64 x7_3] rfl atgM_ ?_; obtain ⟨P4_, hP4_⟩ : ∃ P_ : Nat → Prop, P_ = blksS HO_4.out := ⟨_, rfl⟩; (with_reducible refine (spec_l18Round.calls k3 _ _ l0 P4_ (.slice Ao22 x4_3.length co22) x4_3 x7_3 false t313 w _ ?side1 ?side2 ?side3 ?side4 A18.out).mono ?_); (case side1 => repeat (first | (with_reducible first | exact HB.out | apply below_alloc | apply pw_below_drewN | apply below_drew1) | exact HB.out)); (case side2 => exact Kd.C_kept_came k63_heap HR0.out atgB_ (fun k_ hs_ => (show blksS HO_4.out k_ from hP4_ ▸ hs_).2.1)); (case side3 => exact HC0.out); (case side4 => rw [hP4_]; (with_reducible repeat (first | apply Kd.S_alloc | apply Kd.S_drewN | apply Kd.S_drew)); exact Kd.S_bound HO_4.out); rintro e w23 ⟨rfl, hy0, hb, hkp⟩; refine ⟨_, rfl, ?_⟩; refine swap3_ (Kd.S_mono (ok' := fun k_ => True) (Kd.S_keptB (apart_blksS HO_3.out HO_4.out (by decide)) hkp (fun k_ hk_ hs_ => hk_.2 (hP4_ ▸ hs_))) (fun k_ hk_ => trivial)) (Kd.S_mono (ok' := fun _ => True) hy0 (fun _ _ => trivial)) (hb) ?_; clear hkp hP4_ HO_3 HO_4 HB; intro HO_3 HO_4 HB; (try clear hb); (try clear hkp); (try clear hy0)))
            go_roundg k3
            case measure => have := HK1.out; have := HK2.out; have := HK3.out; omega
            case rel => exact ⟨(t313), (x6_3), (wrap64 (x7_3 - 1)), atgR_, atgR_, H', ⟨att11_0_14⟩, ⟨att11_0_2⟩, ⟨att11_0_3⟩, ⟨atgB_⟩⟩
          ·rw [if_neg c17] at H
           have c17b0 := decide_eq_false c17
           clear c17
           have H' := Aside0.mk H
           clear H
           go_wp2
           go_roundg k3
           case measure => have := HK1.out; have := HK2.out; have := HK3.out; omega
           case rel => exact ⟨(x4_3), (x6_3), atgR_, H', ⟨att11_0_14⟩, ⟨att11_0_2⟩, ⟨att11_0_3⟩, ⟨atgB_⟩⟩
       ·replace c16 := Bool.eq_false_iff.mpr c16
        subst c16
        rw [if_neg (show ¬ (false = true) by decide)] at H
        have H' := Aside0.mk H
        clear H
        go_wp2
        go_loopg [3, 8] k2 (fun kq v3 v8 w' => ∃ (x3_3 : List (List Int)) (x8_3 : Int), v8 = .int .i64 x8_3 ∧ Aside0 (spec_LiveAt.l3 kq l0 x3_3 x4_2 x8_3 = some r) ∧ Aside0 (kq ≤ k2) ∧ Aside0 (Kd.S (Kd.slice 3 (Kd.int .i64)) 34 w' w.heap.size (fun _ => True) v3 x3_3) ∧ Aside0 (Kd.S (Kd.slice 4 Kd.bool) 66 w' w.heap.size (fun _ => True) u4 x4_2) ∧ Aside0 (Below w.heap.size w w'))
        case atStart => exact ⟨(y299), (0), atgR_, H', ⟨Nat.le_refl _⟩, ⟨att11_0_2⟩, ⟨att11_0_3⟩, ⟨atgB_⟩⟩
        case round =>
         clear H'
         try clear c1
         try clear p2
         try clear c3
         try clear c6
         try clear p6
         try clear c8
         try clear c9
         try clear c9b0
         try clear c10
         try clear c10b0
         try clear c10b1
         try clear c11
         try clear c16
         try clear c17
         try clear c17b0
         try clear c19
         try clear p2
         try clear p6
         obtain ⟨x3_3, x8_3, rfl, HA, HK3, HO_3, HO_4, HB⟩ := hrel
         cases gk with
         | zero => exact absurd HA.out (by simp [spec_LiveAt.l3])
         | succ k3 =>
          have H := HA.out
          clear HA
          simp only [spec_LiveAt.l3] at H
          by_cases c24 : x8_3 < (l0.length : Int)
          ·rw [if_pos c24] at H
           have c24b0 := decide_eq_true c24
           clear c24
           by_cases c25 : 0 ≤ x8_3
           ·rw [if_pos c25] at H
            have c25b0 := decide_eq_true c25
            clear c25
            by_cases c26 : x8_3 < (x4_2.length : Int)
            ·rw [if_pos c26] at H
             have c26b0 := decide_eq_true c26
             clear c26
             replace H := Option.bind_eq_some_iff.mp H
             obtain ⟨t315, A270, H⟩ := H
             (try dsimp only at H)
             have A27 := Aside0.mk A270
             clear A270
             by_cases c28 : x3_3.length < 5864062014805
             ·rw [if_pos c28] at H
              have LMc28 := Aside0.mk c28
              clear c28
              obtain ⟨y318, hy318⟩ : ∃ y_ : List (List Int), y_ = (x3_3 ++ [t315]) := ⟨_, rfl⟩
              replace H : (spec_LiveAt.l3 k3 l0 y318 x4_2 (wrap64 (x8_3 + 1))) = some r := by rw [hy318]; exact H
              have Ny318 := Aside0.mk hy318
              clear hy318
              have H' := Aside0.mk H
              clear H
              obtain ⟨Ao29, co29, eo29⟩ := Kd.S_slice HO_4.out
              subst eo29
              have p314 : 0 ≤ (x8_3 : Int) := of_decide_eq_true atgA_
              have q314 : x8_3 < (x4_2.length : Int) := of_decide_eq_true atgA_
              obtain ⟨ad314, A314_0, c314_0, e314, hx314_0, hl314_0, hi314_0⟩ := at_L6 (Kd.S_reads' HO_4.out).2.2 x8_3 p314 q314
              cases e314
              obtain ⟨ce314, hce314, hMe314, hcc314⟩ := Kd.S_get HO_4.out [] x8_3 p314 (by first | exact q314 | exact of_decide_eq_true atgA_ | (have e_ := (Kd.S_reads' HO_4.out).1; omega))
              obtain ⟨ve314_0, rfl, ge314_0⟩ := hMe314
              have hv314_0 := hcc314 0 _ rfl
              rw [Nat.add_zero, show ((Kd.slice 4 Kd.bool)).sz = 1 from rfl, Nat.mul_one] at hv314_0
              replace hv314_0 := Option.some.inj (hv314_0.symm.trans hx314_0)
              rw [hv314_0] at ge314_0
              have HL314_0 := Aside0.mk (show Kd.R Kd.bool 4 _ _ _ _ (rd_L6 x4_2 x8_3) from ge314_0)
              clear hv314_0 ge314_0
              clear hcc314 hce314
              have HR314_0 := Aside0.mk hi314_0
              have HC314_0 := Aside0.mk hl314_0
              clear hi314_0 hl314_0
              replace p314 := eq_true p314
              replace q314 := eq_true q314
              go_wp2_with (first | ((with_reducible refine gate_callee (f := 76) rfl ?_); refine goesL_ (some 48) rfl rfl Try.func76 (by kernel_rfl) rfl #[.slice A314_0 (rd_L6 x4_2 x8_3).length c314_0, .bool true] rfl atgM_ ?_; (with_reducible refine (spec_l18Places.calls k3 _ _ (rd_L6 x4_2 x8_3) true t315 _ ?side1 ?side2 A27.out).mono ?_); (case side1 => repeat (first | exact att11_0_13 | (with_reducible refine Kd.C_alloc ?_ _) | (with_reducible refine Kd.C_drewN ?_ _) | (with_reducible refine Kd.C_drew ?_))); (case side2 => exact HC314_0.out); rintro e w30 ⟨v316, rfl, ho0, hb⟩; refine ⟨_, rfl, ?_⟩; refine swap6_ (Kd.S_elder' att11_0_2 (Kd.R_base ho0) hb) (Kd.S_below att11_0_3 hb) (Kd.R_below att11_0_17 hb) (Kd.R_lower ho0 (below_size atgB_)) (Kd.C_below att11_0_13 hb) (below_step atgB_ hb) ?_; clear HO_3 HO_4 HL314_0 HR314_0 HB; intro HO_3 HO_4 HL314_0 HO317 HR314_0 HB; (try clear hb); (try clear hb2); (try clear hk); (try clear hi); (try clear ho0); obtain ⟨Ao32, co32, eo32⟩ := Kd.R_slice HO317.out; subst eo32) | ((with_reducible refine gate_builtin (b := .append) (xs := #[.tmp 43, .tmp 49]) rfl ?_); at_builtin; refine Kd.S_append (Kd.slice 3 (Kd.int .i64)) (w0 := w) w.heap.size rfl (.tmp 43) (.tmp 49) 41 34 (.slice none 0 0) 24 rfl Try.underlying41 info34 rfl (by decide) (by omega) u3 x3_3 t315 [.slice Ao32 t315.length co32] (fun _ => True) (fun k_ => some k_ = (.slice Ao32 t315.length co32 : Value).ownBlock) rfl rfl ?aP (fun k_ hk_ => ((Kd.R_mono (ok' := fun k_ => ((fun _ => True)) k_ ∧ some k_ ≠ (u3 : Value).ownBlock) (Kd.R_apart' (HO317.out) (Kd.S_typed HO_3.out) (by decide)) (fun k_ hk => ⟨trivial, hk.2⟩))).1 k_ hk_.symm) ?aF ?aO ?aB ?aS ?aL ?_; (case aP => exact Kd.M_row (Kd.R_mono (Kd.R_tight rfl (Kd.R_mono (ok' := fun k_ => ((fun _ => True)) k_ ∧ some k_ ≠ (u3 : Value).ownBlock) (Kd.R_apart' (HO317.out) (Kd.S_typed HO_3.out) (by decide)) (fun k_ hk => ⟨trivial, hk.2⟩))) (fun _ h_ => h_))); (case aB => exact atgB_); (case aF => exact (fun _ _ => trivial)); (case aO => exact (by exact toS_ (Kd.S_mono HO_3.out (fun k_ hk => ⟨trivial, fun e_ => hk.2 e_⟩)))); (case aS => exact (below_size atgB_)); (case aL => have := LMc28.out; omega); intro v319 w31 ho hb hg hat; rw [← Ny318.out] at ho; refine swap4_ (Kd.S_over' att11_0_3 (Kd.S_typed att11_0_2) (by decide) hg) (Kd.R_over' att11_0_17 (Kd.S_typed att11_0_2) (by decide) hg) (hb) (ho) ?_; clear HO_4 HL314_0 HB HO_3 HO317; intro HO_4 HL314_0 HB HO320; clear ho hb hg hat))
              go_roundg k3
              case measure => have := HK1.out; have := HK2.out; have := HK3.out; omega
              case rel => exact ⟨(y318), (wrap64 (x8_3 + 1)), atgR_, H', ⟨att11_0_14⟩, ⟨by exact toS_ (HO320.out)⟩, ⟨att11_0_3⟩, ⟨atgB_⟩⟩
             ·rw [if_neg c28] at H
              exact absurd H (by simp)
            ·rw [if_neg c26] at H
             exact absurd H (by simp)
           ·rw [if_neg c25] at H
            exact absurd H (by simp)
          ·rw [if_neg c24] at H
           have c24b0 := decide_eq_false c24
           clear c24
           obtain rfl := Option.some.inj H
           go_wp2
           go_ret
           exact ⟨_, retT_, by exact toS_ (HO_3.out), atgB_⟩
 ·replace c3 := Bool.eq_false_iff.mpr c3
  subst c3
  rw [if_neg (show ¬ (false = true) by decide)] at H
  obtain rfl := Option.some.inj H
  go_enter Try.func35, Try.ntmps35
  go_wp2_with (first | ((with_reducible refine gate_dst (N := 9) rfl ?_); refine Kd.S_lit (Kd.slice 3 (Kd.int .i64)) _ 34 ?hg (N := 9) ?hd (xs := ([] : List (List Int))) (inner := []) (ok := fun _ => True) (okp := fun _ => True) ?hr ?hp (fun _ hk => hk) trivial (Below.refl _ _) (Nat.le_refl _) (by simp) ?_; (case hd => rfl); (case hg => rfl); (case hr => first | (go_simp; done) | (go_simp; rfl)); (case hp => exact (Reps.none _ _)); intro v300 w33 ho34 hb hg_ hnew_; clear hg_ hnew_; (first | rw [← Ny299.out] at ho34 | (simp only [Int.reduceToNat] at ho34; rw [← Ny299.out] at ho34)); refine swap2_ (Kd.S_lower ho34 (below_size atgB_)) (below_step atgB_ hb) ?_; clear HB; intro HO301 HB; clear hb ho34) | ((with_reducible refine gate_callee (f := 63) rfl ?_); refine goesL_ (some 11) rfl rfl Try.func63 (by kernel_rfl) rfl #[.slice A0 l0.length c0, .int .i64 3] rfl atgM_ ?_; (with_reducible refine (spec_BodyOk.calls k _ _ l0 3 false _ ?side1 ?side2 A2.out).mono ?_); (case side1 => repeat (first | exact (Kd.C_below HR0.out HB.out) | (with_reducible refine Kd.C_alloc ?_ _) | (with_reducible refine Kd.C_drewN ?_ _) | (with_reducible refine Kd.C_drew ?_))); (case side2 => exact HC0.out); rintro e w35 ⟨rfl, hb⟩; refine ⟨_, rfl, ?_⟩; refine swap2_ (Kd.S_below att11_0_10 hb) (below_step atgB_ hb) ?_; clear HO301 HB; intro HO301 HB; (try clear hb); (try clear hb2); (try clear hk); (try clear hi)))
  go_ret
  exact ⟨_, retT_, by exact toS_ (HO301.out), atgB_⟩

/-! ### spec_l18Marks: function 77 -/
def spec_l18Marks.l0 : Nat → List (S63) → List Bool → List Int → Option (List Bool)
 | 0, _, _, _ => none
 | k + 1, x0, x5, x6 => if (x6.length : Int) > 0 then (if 0 < (x6.length : Int) then ((some (([] : List Int) : List Int)).bind fun y331 => (if 1 ≤ (x6.length : Int) then ((some (x6.drop 1 : List Int)).bind fun y334 => (if y331.length + y334.length < 17592186044416 then ((some (y331 ++ y334 : List Int)).bind fun y338 => (if 0 ≤ (rd x6 0) then (if (rd x6 0) < (x5.length : Int) then (if (rdOf false x5 (rd x6 0) = true) then (spec_l18Marks.l0 k x0 x5 y338) else ((spec_NextOf.f k x0 (rd x6 0)).bind fun t343 => (if y338.length + t343.length < 17592186044416 then (spec_l18Marks.l0 k x0 (x5.set ((rd x6 0) : Int).toNat true) (y338 ++ t343)) else (none)))) else (none)) else (none))) else (none))) else (none))) else (none)) else (some x5)
def spec_l18Marks.f (k : Nat) (l0 : List (S63)) (l1 : List Int) : Option (List Bool) := if 0 ≤ (l0.length : Int) then (if ((l0.length : Int) : Int).toNat ≤ 281474976710656 then ((some (([] : List Int) : List Int)).bind fun y324 => (if y324.length + l1.length < 17592186044416 then (spec_l18Marks.l0 k l0 (List.replicate ((l0.length : Int) : Int).toNat false) (y324 ++ l1)) else (none))) else (none)) else (none)
theorem spec_l18Marks.mono_l : ∀ k, (∀ y0 y1 y2, LeO (spec_l18Marks.l0 k y0 y1 y2) (spec_l18Marks.l0 (k + 1) y0 y1 y2))
 | 0 => fun _ _ _ r h => by simp [spec_l18Marks.l0] at h
 | k + 1 => by
  have ih0 := spec_l18Marks.mono_l k
  ·intro y0 y1 y2
   unfold spec_l18Marks.l0
   repeat' (with_reducible first | exact ih0 .. | exact spec_NextOf.mono .. | exact LeO.refl _ | exact LeO.none _ | refine LeO.ite ?_ ?_ | refine LeO.bind ?_ (fun _ => ?_))
theorem spec_l18Marks.mono : ∀ a0 a1 k, LeO (spec_l18Marks.f k a0 a1) (spec_l18Marks.f (k + 1) a0 a1) := by
 intro a0 a1 k
 have ih0 := spec_l18Marks.mono_l k
 unfold spec_l18Marks.f
 repeat' (with_reducible first | exact ih0 .. | exact spec_NextOf.mono .. | exact LeO.refl _ | exact LeO.none _ | refine LeO.ite ?_ ?_ | refine LeO.bind ?_ (fun _ => ?_))
set_option maxHeartbeats 80000000 in
set_option maxRecDepth 100000 in
theorem spec_l18Marks.calls (k : Nat) (A0 : Option Addr) (c0 : Nat) (l0 : List (S63)) (A1 : Option Addr) (c1 : Nat) (l1 : List Int) (r : List Bool) (w : World) (hr0 : Kd.C k63 w A0 l0.length l0) (hc0 : l0.length ≤ c0) (hr1 : Kd.C (Kd.int .i64) w A1 l1.length l1) (hc1 : l1.length ≤ c1) (h : spec_l18Marks.f k l0 l1 = some r) :
  Calls Try.prog 77 #[.slice A0 l0.length c0, .slice A1 l1.length c1] w fun e w' => ∃ v0_ : Value, e = .returned (v0_) ∧ Kd.R Kd.bool 4 w' w.heap.size (fun _ => True) v0_ r ∧ Below w.heap.size w w' := by
 have HR0 := Aside0.mk hr0
 have HC0 := Aside0.mk hc0
 clear hr0 hc0
 have HR1 := Aside0.mk hr1
 have HC1 := Aside0.mk hc1
 clear hr1 hc1
 have HB := Aside0.mk (Below.refl w.heap.size w)
 have H : (if 0 ≤ (l0.length : Int) then (if ((l0.length : Int) : Int).toNat ≤ 281474976710656 then ((some (([] : List Int) : List Int)).bind fun y324 => (if y324.length + l1.length < 17592186044416 then (spec_l18Marks.l0 k l0 (List.replicate ((l0.length : Int) : Int).toNat false) (y324 ++ l1)) else (none))) else (none)) else (none)) = some r := h
 clear h
 by_cases c3 : 0 ≤ (l0.length : Int)
 ·rw [if_pos c3] at H
  have c3b0 := eq_true c3
  have c3b1 := decide_eq_true c3
  clear c3
  by_cases c4 : ((l0.length : Int) : Int).toNat ≤ 281474976710656
  ·rw [if_pos c4] at H
   have c4b0 := eq_true c4
   have c4b1 := decide_eq_true c4
   clear c4
   obtain ⟨y321, hy321⟩ : ∃ y_ : List Bool, y_ = (List.replicate ((l0.length : Int) : Int).toNat false) := ⟨_, rfl⟩
   replace H : ((some (([] : List Int) : List Int)).bind fun y324 => (if y324.length + l1.length < 17592186044416 then (spec_l18Marks.l0 k l0 y321 (y324 ++ l1)) else (none))) = some r := by rw [hy321]; exact H
   have Ny321 := Aside0.mk hy321
   clear hy321
   obtain ⟨y324, hy324⟩ : ∃ y_ : List Int, y_ = (([] : List Int)) := ⟨_, rfl⟩
   replace H := yy_ H hy324
   have Ny324 := Aside0.mk hy324
   clear hy324
   by_cases c5 : y324.length + l1.length < 17592186044416
   ·rw [if_pos c5] at H
    have LMc5 := Aside0.mk c5
    clear c5
    obtain ⟨y327, hy327⟩ : ∃ y_ : List Int, y_ = (y324 ++ l1) := ⟨_, rfl⟩
    replace H : (spec_l18Marks.l0 k l0 y321 y327) = some r := by rw [hy327]; exact H
    have Ny327 := Aside0.mk hy327
    clear hy327
    have H' := Aside0.mk H
    clear H
    go_enter Try.func77, Try.ntmps77
    go_wp2_with (first | ((with_reducible refine gate_dst (N := 10) rfl ?_); refine Kd.R_make Kd.bool _ 4 rfl (N := 10) rfl 66 _ _ rfl (l0.length : Int) rfl rfl Try.underlying66 (.bool false) 1 info4 rfl (by decide) (by omega) false (ok := fun _ => True) (okp := fun _ => True) rfl (fun _ hk => hk) trivial (of_decide_eq_true atgA_) (Nat.le_trans (Nat.mul_le_mul_right _ (of_decide_eq_true atgA_ : (l0.length : Int).toNat ≤ 281474976710656)) (by omega)) (Below.refl _ _) (Nat.le_refl _) ?_; intro v322 w6 ho7 hb hg_ hnew_; clear hg_ hnew_; (first | rw [← Ny321.out] at ho7 | (simp only [Int.reduceToNat] at ho7; rw [← Ny321.out] at ho7)); refine swap2_ (Kd.R_lower ho7 (below_size atgB_)) (below_step atgB_ hb) ?_; clear HB; intro HO323 HB; clear hb ho7) | ((with_reducible refine gate_dst (N := 11) rfl ?_); refine Kd.R_lit (Kd.int .i64) _ 3 ?hg (N := 11) ?hd (xs := ([] : List Int)) (inner := []) (ok := fun _ => True) (okp := fun _ => True) ?hr ?hp (fun _ hk => hk) trivial (Below.refl _ _) (Nat.le_refl _) (by simp) ?_; (case hd => rfl); (case hg => rfl); (case hr => first | (go_simp; done) | (go_simp; rfl)); (case hp => exact (Reps.none _ _)); intro v325 w8 ho9 hb hg_ hnew_; clear hg_ hnew_; (first | rw [← Ny324.out] at ho9 | (simp only [Int.reduceToNat] at ho9; rw [← Ny324.out] at ho9)); refine swap3_ (Kd.R_below att11_0_12 hb) (Kd.R_lower ho9 (below_size atgB_)) (below_step atgB_ hb) ?_; clear HO323 HB; intro HO323 HO326 HB; clear hb ho9) | ((with_reducible refine gate_builtin (b := .append) (xs := #[.tmp 11, .tmp 12]) rfl ?_); at_builtin; refine Kd.R_append_rows (Kd.int .i64) (w0 := w) w.heap.size rfl (.tmp 11) (.tmp 12) 34 3 (.int .i64 0) 8 rfl Try.underlying34 info3 rfl (by decide) (by omega) v325 y324 l1 _ _ _ (fun _ => True) (fun _ => False) rfl rfl ?aO ?aR (fun _ _ h => h) (fun _ h => h.elim) ?aF ?aB ?aS ?aL ?_; (case aR => repeat (first | exact (Kd.C_below HR1.out HB.out) | (with_reducible refine Kd.C_alloc ?_ _) | (with_reducible refine Kd.C_drewN ?_ _) | (with_reducible refine Kd.C_drew ?_))); (case aB => exact atgB_); (case aF => exact (fun _ _ => trivial)); (case aO => exact att11_0_19); (case aS => exact (below_size atgB_)); (case aL => have := LMc5.out; omega); intro v328 w10 ho hb hg hat; rw [← Ny327.out] at ho; refine swap3_ (Kd.R_over' att11_0_12 (Kd.R_typed att11_0_19) (by decide) hg) (hb) (ho) ?_; clear HO323 HB HO326; intro HO323 HB HO329; clear ho hb hg hat))
    go_loopg [6] k (fun kq v6 w' => ∃ (x5_1 : List Bool) (x6_1 : List Int), Aside0 (spec_l18Marks.l0 kq l0 x5_1 x6_1 = some r) ∧ Aside0 (kq ≤ k) ∧ Aside0 (Kd.R Kd.bool 4 w' w.heap.size (fun _ => True) v322 x5_1) ∧ Aside0 (Kd.R (Kd.int .i64) 3 w' w.heap.size (fun _ => True) v6 x6_1) ∧ Aside0 (Below w.heap.size w w'))
    case atStart => exact ⟨(y321), (y327), H', ⟨Nat.le_refl _⟩, ⟨att11_0_12⟩, ⟨by exact toR_ (HO329.out)⟩, ⟨atgB_⟩⟩
    case round =>
     clear H'
     try clear c1
     try clear p2
     try clear c3
     try clear c3b0
     try clear c3b1
     try clear c4
     try clear c4b0
     try clear c4b1
     try clear c5
     try clear c7
     obtain ⟨x5_1, x6_1, HA, HK1, HO_5, HO_6, HB⟩ := hrel
     cases gk with
     | zero => exact absurd HA.out (by simp [spec_l18Marks.l0])
     | succ k1 =>
      have H := HA.out
      clear HA
      simp only [spec_l18Marks.l0] at H
      by_cases c11 : (x6_1.length : Int) > 0
      ·rw [if_pos c11] at H
       have c11b0 := decide_eq_true c11
       have c11b1 : decide (0 < x6_1.length) = true := decide_eq_true (by omega)
       clear c11
       by_cases c12 : 0 < (x6_1.length : Int)
       ·rw [if_pos c12] at H
        have c12b0 := decide_eq_true c12
        have c12b1 : decide (0 < x6_1.length) = true := decide_eq_true (by omega)
        clear c12
        obtain ⟨y331, hy331⟩ : ∃ y_ : List Int, y_ = (([] : List Int)) := ⟨_, rfl⟩
        replace H := yy_ H hy331
        have Ny331 := Aside0.mk hy331
        clear hy331
        by_cases c13 : 1 ≤ (x6_1.length : Int)
        ·rw [if_pos c13] at H
         have c13b0 := eq_true c13
         have c13b1 := decide_eq_true c13
         clear c13
         obtain ⟨y334, hy334⟩ : ∃ y_ : List Int, y_ = (x6_1.drop 1) := ⟨_, rfl⟩
         replace H := yy_ H hy334
         have Ny334 := Aside0.mk hy334
         clear hy334
         by_cases c14 : y331.length + y334.length < 17592186044416
         ·rw [if_pos c14] at H
          have LMc14 := Aside0.mk c14
          clear c14
          obtain ⟨y338, hy338⟩ : ∃ y_ : List Int, y_ = (y331 ++ y334) := ⟨_, rfl⟩
          replace H := yy_ H hy338
          have Ny338 := Aside0.mk hy338
          clear hy338
          by_cases c15 : 0 ≤ (rd x6_1 0)
          ·rw [if_pos c15] at H
           have c15b0 := decide_eq_true c15
           clear c15
           by_cases c16 : (rd x6_1 0) < (x5_1.length : Int)
           ·rw [if_pos c16] at H
            have c16b0 := decide_eq_true c16
            clear c16
            obtain ⟨bq17, hbq17⟩ : ∃ b_ : Bool, b_ = (rdOf false x5_1 (rd x6_1 0)) := ⟨_, rfl⟩
            replace H : (if (bq17 = true) then (spec_l18Marks.l0 k1 l0 x5_1 y338) else ((spec_NextOf.f k1 l0 (rd x6_1 0)).bind fun t343 => (if y338.length + t343.length < 17592186044416 then (spec_l18Marks.l0 k1 l0 (x5_1.set ((rd x6_1 0) : Int).toNat true) (y338 ++ t343)) else (none)))) = some r := by rw [← hbq17] at H; exact H
            have Nbq17 := Aside0.mk hbq17
            clear hbq17
            by_cases c18 : (bq17 = true)
            ·subst c18
             rw [if_pos rfl] at H
             have H' := Aside0.mk H
             clear H
             obtain ⟨Ao19, co19, eo19⟩ := Kd.R_slice HO_6.out
             subst eo19
             have p330 : 0 ≤ (0 : Int) := (by omega)
             have q330 : 0 < (x6_1.length : Int) := of_decide_eq_true atgA_
             obtain ⟨ad330, e330, hx330_0⟩ := Kd.at_int (Kd.R_reads' HO_6.out).2.2 0 p330 q330
             cases e330
             have qi330 : (0 < x6_1.length) = True := eq_true (by omega)
             (try rw [show ((0 : Int)).toNat = 0 from rfl] at hx330_0)
             (try rw [Addr.add_zero'] at hx330_0)
             replace p330 := eq_true p330
             replace q330 := eq_true q330
             go_wp2_with (first | ((with_reducible refine gate_dst (N := 20) rfl ?_); refine Kd.R_lit (Kd.int .i64) _ 3 ?hg (N := 20) ?hd (xs := ([] : List Int)) (inner := []) (ok := fun _ => True) (okp := fun _ => True) ?hr ?hp (fun _ hk => hk) trivial (Below.refl _ _) (Nat.le_refl _) (by simp) ?_; (case hd => rfl); (case hg => rfl); (case hr => first | (go_simp; done) | (go_simp; rfl)); (case hp => exact (Reps.none _ _)); intro v332 w20 ho21 hb hg_ hnew_; clear hg_ hnew_; (first | rw [← Ny331.out] at ho21 | (simp only [Int.reduceToNat] at ho21; rw [← Ny331.out] at ho21)); refine swap4_ (Kd.R_below att11_0_5 hb) (Kd.R_elder' att11_0_1 (Kd.R_base ho21) hb) (Kd.R_lower (Kd.R_new' ho21 (Kd.R_lt att11_0_1)) (below_size atgB_)) (below_step atgB_ hb) ?_; clear HO_5 HO_6 HB; intro HO_5 HO_6 HO333 HB; clear hb ho21; have q22 : (1 : Int) ≤ ((x6_1.length : Int) : Int) := of_decide_eq_true atgA_; obtain ⟨i022, hi022, _, hsz22, _⟩ := info_parts info3; have hroom22 : x6_1.length ≤ co19 := (Kd.R_reads' HO_6.out).2.1; have hC22 : Kd.C (Kd.int .i64) _ (some ad330) x6_1.length x6_1 := (Kd.R_reads' HO_6.out).2.2; have hcut22 := cut_from (P := Try.prog) 34 3 .i64 Try.underlying34 hi022 1 hsz22 (some ad330) x6_1.length co19 1 (by omega) q22; have hr22 := Kd.C_drop (m := (1 : Int).toNat) (c := co19) hC22 (by omega) hroom22; obtain ⟨A22, hA22⟩ : ∃ A1, A1 = (if co19 = (1 : Int).toNat then (some ad330) else ((some ad330) : Option Addr).map (·.add ((1 : Int).toNat * 1))) := ⟨_, rfl⟩; obtain ⟨c22, hc22⟩ : ∃ c1, c1 = co19 - (1 : Int).toNat := ⟨_, rfl⟩; have hy22 : y334.length = x6_1.length - (1 : Int).toNat := (by rw [Ny334.out, List.length_drop] <;> omega); rw [show (x6_1).drop (1 : Int).toNat = y334 from Ny334.out.symm] at hr22; replace hr22 : Kd.C (Kd.int .i64) _ A22 y334.length y334 := (by rw [hA22]; exact hr22); rw [← hy22, ← hA22, ← hc22] at hcut22; have HR337 := Aside0.mk hr22; have HC337 := Aside0.mk (show y334.length ≤ c22 from by rw [hy22, hc22]; exact Nat.sub_le_sub_right hroom22 _); clear hr22 hC22 hroom22 hi022 hsz22 hc22; have KY22 := Aside0.mk hy22; have KA22 := Aside0.mk hA22; clear hy22 hA22; have KL22 := Aside0.mk (show 1 ≤ x6_1.length from by omega); replace q22 := eq_true q22) | ((with_reducible refine gate_builtin (b := .append) (xs := #[.tmp 20, .tmp 22]) rfl ?_); at_builtin; refine Kd.R_append_rows (Kd.int .i64) (w0 := w) w.heap.size rfl (.tmp 20) (.tmp 22) 34 3 (.int .i64 0) 8 rfl Try.underlying34 info3 rfl (by decide) (by omega) v332 y331 y334 _ _ _ (fun k_ => some k_ ≠ (.slice (some ad330) x6_1.length co19 : Value).ownBlock) (fun _ => False) rfl rfl ?aO ?aR (fun _ _ h => h) (fun _ h => h.elim) ?aF ?aB ?aS ?aL ?_; (case aR => repeat (first | exact att11_0_9 | (with_reducible refine Kd.C_alloc ?_ _) | (with_reducible refine Kd.C_drewN ?_ _) | (with_reducible refine Kd.C_drew ?_))); (case aB => exact atgB_); (case aF => exact (fun k_ hk => Kd.fresh' (Kd.R_lt att11_0_1) k_ hk)); (case aO => exact att11_0_15); (case aS => exact (below_size atgB_)); (case aL => have := LMc14.out; omega); intro v339 w23 ho hb hg hat; rw [← Ny338.out] at ho; refine swap5_ (Kd.R_over' att11_0_5 (Kd.R_typed att11_0_18) (by decide) hg) (Kd.R_after (ok := (fun _ => True)) att11_0_1 hg hat) (hb) ((show Kd.C (Kd.int .i64) w23 A22 y334.length y334 from by rw [Ny334.out, KA22.out]; exact Kd.C_drop (m := 1) (c := co19) ((Kd.R_reads' (Kd.R_after (ok := (fun _ => True)) att11_0_1 hg hat)).2.2) KL22.out ((Kd.R_reads' (Kd.R_after (ok := (fun _ => True)) att11_0_1 hg hat)).2.1))) (ho) ?_; clear HO_5 HO_6 HB HR337 HO333; intro HO_5 HO_6 HB HR337 HO340; clear ho hb hg hat; obtain ⟨Ao24, co24, eo24⟩ := Kd.R_slice HO_5.out; subst eo24; have p341 : 0 ≤ ((rd x6_1 0) : Int) := of_decide_eq_true atgA_; have q341 : (rd x6_1 0) < (x5_1.length : Int) := of_decide_eq_true atgA_; obtain ⟨ad341, e341, hx341_0⟩ := Kd.at_bool (Kd.R_reads' HO_5.out).2.2 (rd x6_1 0) p341 q341; (try rw [← Nbq17.out] at hx341_0); cases e341; replace p341 := eq_true p341; replace q341 := eq_true q341))
             go_roundg k1
             case measure => have := HK1.out; omega
             case rel => exact ⟨(x5_1), (y338), H', ⟨by have := HK1.out; omega⟩, ⟨att11_0_5⟩, ⟨by exact toR_ (Kd.R_mono HO340.out (fun _ hk => trivial))⟩, ⟨atgB_⟩⟩
            ·replace c18 := Bool.eq_false_iff.mpr c18
             subst c18
             rw [if_neg (show ¬ (false = true) by decide)] at H
             obtain ⟨y342, hy342⟩ : ∃ y_ : List Bool, y_ = (x5_1.set ((rd x6_1 0) : Int).toNat true) := ⟨_, rfl⟩
             replace H : ((spec_NextOf.f k1 l0 (rd x6_1 0)).bind fun t343 => (if y338.length + t343.length < 17592186044416 then (spec_l18Marks.l0 k1 l0 y342 (y338 ++ t343)) else (none))) = some r := by rw [hy342]; exact H
             have Ny342 := Aside0.mk hy342
             clear hy342
             replace H := Option.bind_eq_some_iff.mp H
             obtain ⟨t343, A260, H⟩ := H
             (try dsimp only at H)
             have A26 := Aside0.mk A260
             clear A260
             by_cases c27 : y338.length + t343.length < 17592186044416
             ·rw [if_pos c27] at H
              have LMc27 := Aside0.mk c27
              clear c27
              obtain ⟨y346, hy346⟩ : ∃ y_ : List Int, y_ = (y338 ++ t343) := ⟨_, rfl⟩
              replace H : (spec_l18Marks.l0 k1 l0 y342 y346) = some r := by rw [hy346]; exact H
              have Ny346 := Aside0.mk hy346
              clear hy346
              have H' := Aside0.mk H
              clear H
              obtain ⟨Ao28, co28, eo28⟩ := Kd.R_slice HO_6.out
              subst eo28
              have p330 : 0 ≤ (0 : Int) := (by omega)
              have q330 : 0 < (x6_1.length : Int) := of_decide_eq_true atgA_
              obtain ⟨ad330, e330, hx330_0⟩ := Kd.at_int (Kd.R_reads' HO_6.out).2.2 0 p330 q330
              cases e330
              have qi330 : (0 < x6_1.length) = True := eq_true (by omega)
              (try rw [show ((0 : Int)).toNat = 0 from rfl] at hx330_0)
              (try rw [Addr.add_zero'] at hx330_0)
              replace p330 := eq_true p330
              replace q330 := eq_true q330
              go_wp2_with (first | ((with_reducible refine gate_dst (N := 20) rfl ?_); refine Kd.R_lit (Kd.int .i64) _ 3 ?hg (N := 20) ?hd (xs := ([] : List Int)) (inner := []) (ok := fun _ => True) (okp := fun _ => True) ?hr ?hp (fun _ hk => hk) trivial (Below.refl _ _) (Nat.le_refl _) (by simp) ?_; (case hd => rfl); (case hg => rfl); (case hr => first | (go_simp; done) | (go_simp; rfl)); (case hp => exact (Reps.none _ _)); intro v332 w29 ho30 hb hg_ hnew_; clear hg_ hnew_; (first | rw [← Ny331.out] at ho30 | (simp only [Int.reduceToNat] at ho30; rw [← Ny331.out] at ho30)); refine swap4_ (Kd.R_below att11_0_5 hb) (Kd.R_elder' att11_0_1 (Kd.R_base ho30) hb) (Kd.R_lower (Kd.R_new' ho30 (Kd.R_lt att11_0_1)) (below_size atgB_)) (below_step atgB_ hb) ?_; clear HO_5 HO_6 HB; intro HO_5 HO_6 HO333 HB; clear hb ho30; have q31 : (1 : Int) ≤ ((x6_1.length : Int) : Int) := of_decide_eq_true atgA_; obtain ⟨i031, hi031, _, hsz31, _⟩ := info_parts info3; have hroom31 : x6_1.length ≤ co28 := (Kd.R_reads' HO_6.out).2.1; have hC31 : Kd.C (Kd.int .i64) _ (some ad330) x6_1.length x6_1 := (Kd.R_reads' HO_6.out).2.2; have hcut31 := cut_from (P := Try.prog) 34 3 .i64 Try.underlying34 hi031 1 hsz31 (some ad330) x6_1.length co28 1 (by omega) q31; have hr31 := Kd.C_drop (m := (1 : Int).toNat) (c := co28) hC31 (by omega) hroom31; obtain ⟨A31, hA31⟩ : ∃ A1, A1 = (if co28 = (1 : Int).toNat then (some ad330) else ((some ad330) : Option Addr).map (·.add ((1 : Int).toNat * 1))) := ⟨_, rfl⟩; obtain ⟨c31, hc31⟩ : ∃ c1, c1 = co28 - (1 : Int).toNat := ⟨_, rfl⟩; have hy31 : y334.length = x6_1.length - (1 : Int).toNat := (by rw [Ny334.out, List.length_drop] <;> omega); rw [show (x6_1).drop (1 : Int).toNat = y334 from Ny334.out.symm] at hr31; replace hr31 : Kd.C (Kd.int .i64) _ A31 y334.length y334 := (by rw [hA31]; exact hr31); rw [← hy31, ← hA31, ← hc31] at hcut31; have HR337 := Aside0.mk hr31; have HC337 := Aside0.mk (show y334.length ≤ c31 from by rw [hy31, hc31]; exact Nat.sub_le_sub_right hroom31 _); clear hr31 hC31 hroom31 hi031 hsz31 hc31; have KY31 := Aside0.mk hy31; have KA31 := Aside0.mk hA31; clear hy31 hA31; have KL31 := Aside0.mk (show 1 ≤ x6_1.length from by omega); replace q31 := eq_true q31) | ((with_reducible refine gate_builtin (b := .append) (xs := #[.tmp 20, .tmp 22]) rfl ?_); at_builtin; refine Kd.R_append_rows (Kd.int .i64) (w0 := w) w.heap.size rfl (.tmp 20) (.tmp 22) 34 3 (.int .i64 0) 8 rfl Try.underlying34 info3 rfl (by decide) (by omega) v332 y331 y334 _ _ _ (fun k_ => some k_ ≠ (.slice (some ad330) x6_1.length co28 : Value).ownBlock) (fun _ => False) rfl rfl ?aO ?aR (fun _ _ h => h) (fun _ h => h.elim) ?aF ?aB ?aS ?aL ?_; (case aR => repeat (first | exact att11_0_9 | (with_reducible refine Kd.C_alloc ?_ _) | (with_reducible refine Kd.C_drewN ?_ _) | (with_reducible refine Kd.C_drew ?_))); (case aB => exact atgB_); (case aF => exact (fun k_ hk => Kd.fresh' (Kd.R_lt att11_0_1) k_ hk)); (case aO => exact att11_0_15); (case aS => exact (below_size atgB_)); (case aL => have := LMc14.out; omega); intro v339 w32 ho hb hg hat; rw [← Ny338.out] at ho; refine swap5_ (Kd.R_over' att11_0_5 (Kd.R_typed att11_0_18) (by decide) hg) (Kd.R_after (ok := (fun _ => True)) att11_0_1 hg hat) (hb) ((show Kd.C (Kd.int .i64) w32 A31 y334.length y334 from by rw [Ny334.out, KA31.out]; exact Kd.C_drop (m := 1) (c := co28) ((Kd.R_reads' (Kd.R_after (ok := (fun _ => True)) att11_0_1 hg hat)).2.2) KL31.out ((Kd.R_reads' (Kd.R_after (ok := (fun _ => True)) att11_0_1 hg hat)).2.1))) (ho) ?_; clear HO_5 HO_6 HB HR337 HO333; intro HO_5 HO_6 HB HR337 HO340; clear ho hb hg hat; obtain ⟨Ao33, co33, eo33⟩ := Kd.R_slice HO_5.out; subst eo33; have p341 : 0 ≤ ((rd x6_1 0) : Int) := of_decide_eq_true atgA_; have q341 : (rd x6_1 0) < (x5_1.length : Int) := of_decide_eq_true atgA_; obtain ⟨ad341, e341, hx341_0⟩ := Kd.at_bool (Kd.R_reads' HO_5.out).2.2 (rd x6_1 0) p341 q341; (try rw [← Nbq17.out] at hx341_0); cases e341; replace p341 := eq_true p341; replace q341 := eq_true q341; have p25 : 0 ≤ ((rd x6_1 0) : Int) := of_decide_eq_true atgA_; have q25 : ((rd x6_1 0) : Int) < ((x5_1.length : Int) : Int) := of_decide_eq_true atgA_; obtain ⟨go25, co25, eo25, gb25, gl25, cl25, HG25⟩ := Kd.R_form HO_5.out (by omega); (first | cases eo25 | (injection eo25 with ea_ en_ ec_; (first | subst ea_ | (injection ea_ with ea_; subst ea_)); subst ec_; clear en_)); have GB25 := Aside0.mk gb25; have GG25 := Aside0.mk HG25; clear gb25 gl25 HG25; (first | simp only [add_plain] at hx341_0 | skip); obtain ⟨hx25_0, hf25_0⟩ := Kd.R_celln false HO_5.out ((rd x6_1 0) : Int) p25 q25; replace p25 := eq_true p25; replace q25 := eq_true q25; obtain ⟨hy34_, hz34_⟩ := Kd.R_celln false HO_5.out ((rd x6_1 0) : Int) (of_decide_eq_true atgA_) (of_decide_eq_true atgA_); have HP34 := Kd.R_putg HO_5.out ((rd x6_1 0) : Int) true) | ((with_reducible refine gate_store (t := 4) (p := 31) rfl ?_); refine store_event (t := 4) (p := 31) (v := ?vo_w35) (w1 := (w32.setCell ⟨go25, ((rd x6_1 0) : Int).toNat, none⟩ (.bool true))) ?hg ?ho ?hn ?hr ?_; (case ho => rfl); (case hg => rfl); (case hn => rfl); (case hr => first | (go_simp; done) | (go_simp; rfl)); intro w35 hw; have hg : w32.grownBy w35 (some go25) := (by rw [hw]; exact HP34.2); have hp_ : Kd.R Kd.bool 4 w35 w.heap.size (fun _ => True) (.slice (some ⟨go25, 0, none⟩) x5_1.length co33) y342 := (by rw [hw, Ny342.out]; exact HP34.1); clear HP34; refine swap5_ (hp_) (Kd.R_over' (v := (.slice (some ⟨go25, 0, none⟩) x5_1.length co33)) att11_0_1 (Kd.R_typed HO_5.out) (by decide) hg) (Kd.R_over' (v := (.slice (some ⟨go25, 0, none⟩) x5_1.length co33)) att11_0_8 (Kd.R_typed HO_5.out) (by decide) hg) ((by rw [hw]; exact below_set (HB.out) GB25.out : Below w.heap.size w w35)) ((show Kd.C (Kd.int .i64) w35 A31 y334.length y334 from by rw [Ny334.out, KA31.out]; exact Kd.C_drop (m := 1) (c := co28) ((Kd.R_reads' (Kd.R_over' (v := (.slice (some ⟨go25, 0, none⟩) x5_1.length co33)) att11_0_1 (Kd.R_typed HO_5.out) (by decide) hg)).2.2) KL31.out ((Kd.R_reads' (Kd.R_over' (v := (.slice (some ⟨go25, 0, none⟩) x5_1.length co33)) att11_0_1 (Kd.R_typed HO_5.out) (by decide) hg)).2.1))) ?_; clear HO_5 HO_6 HO340 HB HR337; intro HO_5 HO_6 HO340 HB HR337; clear hg hw hp_) | ((with_reducible refine gate_callee (f := 29) rfl ?_); refine goesL_ (some 35) rfl rfl Try.func29 (by kernel_rfl) rfl #[.slice A0 l0.length c0, .int .i64 (rd x6_1 0)] rfl atgM_ ?_; (with_reducible refine (spec_NextOf.calls k1 _ _ l0 (rd x6_1 0) t343 _ ?side1 ?side2 A26.out).mono ?_); (case side1 => repeat (first | exact (Kd.C_below HR0.out HB.out) | (with_reducible refine Kd.C_alloc ?_ _) | (with_reducible refine Kd.C_drewN ?_ _) | (with_reducible refine Kd.C_drew ?_))); (case side2 => exact HC0.out); rintro e w36 ⟨v344, rfl, ho0, hb⟩; refine ⟨_, rfl, ?_⟩; refine swap6_ (Kd.R_below att11_0_5 hb) (Kd.R_elder' att11_0_1 (Kd.R_base ho0) hb) (Kd.R_elder' att11_0_8 (Kd.R_base ho0) hb) (Kd.R_lower (Kd.R_new' (Kd.R_new' ho0 (Kd.R_lt att11_0_1)) (Kd.R_lt att11_0_8)) (below_size atgB_)) (Kd.C_below att11_0_9 hb) (below_step atgB_ hb) ?_; clear HO_5 HO_6 HO340 HR337 HB; intro HO_5 HO_6 HO340 HO345 HR337 HB; (try clear hb); (try clear hb2); (try clear hk); (try clear hi); (try clear ho0); obtain ⟨Ao38, co38, eo38⟩ := Kd.R_slice HO345.out; subst eo38) | ((with_reducible refine gate_builtin (b := .append) (xs := #[.tmp 32, .tmp 35]) rfl ?_); at_builtin; refine Kd.R_append_rows (Kd.int .i64) (w0 := w) w.heap.size rfl (.tmp 32) (.tmp 35) 34 3 (.int .i64 0) 8 rfl Try.underlying34 info3 rfl (by decide) (by omega) v339 y338 t343 _ _ _ (fun k_ => some k_ ≠ (.slice (some ad330) x6_1.length co28 : Value).ownBlock ∧ some k_ ≠ (.slice Ao38 t343.length co38 : Value).ownBlock) (fun _ => False) rfl rfl ?aO ?aR (fun _ _ h => h) (fun _ h => h.elim) ?aF ?aB ?aS ?aL ?_; (case aR => repeat (first | exact (Kd.R_reads' HO345.out).2.2 | (with_reducible refine Kd.C_alloc ?_ _) | (with_reducible refine Kd.C_drewN ?_ _) | (with_reducible refine Kd.C_drew ?_))); (case aB => exact atgB_); (case aF => exact (fun k_ hk => ⟨Kd.fresh' (Kd.R_lt att11_0_1) k_ hk, Kd.fresh' (Kd.R_lt (by exact toR_ (HO345.out))) k_ hk⟩)); (case aO => exact att11_0_8); (case aS => exact (below_size atgB_)); (case aL => have := LMc27.out; omega); intro v347 w37 ho hb hg hat; rw [← Ny346.out] at ho; refine swap6_ (Kd.R_over' att11_0_5 (Kd.R_typed att11_0_8) (by decide) hg) (Kd.R_after (ok := (fun k_ => some k_ ≠ (.slice Ao38 t343.length co38 : Value).ownBlock)) att11_0_11 hg hat) (Kd.R_after (ok := (fun k_ => some k_ ≠ (.slice (some ad330) x6_1.length co28 : Value).ownBlock)) (by exact toR_ (Kd.R_mono HO345.out (fun _ hk => ⟨hk.1.2, hk.2⟩))) hg hat) (hb) ((show Kd.C (Kd.int .i64) w37 A31 y334.length y334 from by rw [Ny334.out, KA31.out]; exact Kd.C_drop (m := 1) (c := co28) ((Kd.R_reads' (Kd.R_after (ok := (fun k_ => some k_ ≠ (.slice Ao38 t343.length co38 : Value).ownBlock)) att11_0_11 hg hat)).2.2) KL31.out ((Kd.R_reads' (Kd.R_after (ok := (fun k_ => some k_ ≠ (.slice Ao38 t343.length co38 : Value).ownBlock)) att11_0_11 hg hat)).2.1))) (ho) ?_; clear HO_5 HO_6 HO345 HB HR337 HO340; intro HO_5 HO_6 HO345 HB HR337 HO348; clear ho hb hg hat))
              go_roundg k1
              case measure => have := HK1.out; omega
              case rel => exact ⟨(y342), (y346), H', ⟨by have := HK1.out; omega⟩, ⟨att11_0_5⟩, ⟨by exact toR_ (Kd.R_mono HO348.out (fun _ hk => trivial))⟩, ⟨atgB_⟩⟩
             ·rw [if_neg c27] at H
              exact absurd H (by simp)
           ·rw [if_neg c16] at H
            exact absurd H (by simp)
          ·rw [if_neg c15] at H
           exact absurd H (by simp)
         ·rw [if_neg c14] at H
          exact absurd H (by simp)
        ·rw [if_neg c13] at H
         exact absurd H (by simp)
       ·rw [if_neg c12] at H
        exact absurd H (by simp)
      ·rw [if_neg c11] at H
       have c11b0 := decide_eq_false c11
       have c11b1 : decide (0 < x6_1.length) = false := decide_eq_false (by omega)
       clear c11
       obtain rfl := Option.some.inj H
       obtain ⟨Ao39, co39, eo39⟩ := Kd.R_slice HO_6.out
       subst eo39
       go_wp2
       go_ret
       exact ⟨_, retT_, by exact toR_ (HO_5.out), atgB_⟩
   ·rw [if_neg c5] at H
    exact absurd H (by simp)
  ·rw [if_neg c4] at H
   exact absurd H (by simp)
 ·rw [if_neg c3] at H
  exact absurd H (by simp)

/-! ### spec_l19Three: function 89 -/
def spec_l19Three.f (a0 : Int) : Option (Bool) := if a0 = 2 then (some true) else (if a0 = 3 then (some true) else (some (a0 == 4)))
set_option maxHeartbeats 80000000 in
set_option maxRecDepth 100000 in
theorem spec_l19Three.calls (a0 : Int) (r : Bool) (w : World) (h : spec_l19Three.f a0 = some r) :
  Calls Try.prog 89 #[.int .i64 a0] w fun e w' => e = .returned (.bool r) ∧ Drawn0 w w' := by
 have H : (if a0 = 2 then (some true) else (if a0 = 3 then (some true) else (some (a0 == 4)))) = some r := h
 clear h
 by_cases c2 : a0 = 2
 ·rw [if_pos c2] at H
  have c2b0 := beq_iff_eq.mpr c2
  have c2b1 := bne_eq_false_iff_eq.mpr c2
  clear c2
  obtain rfl := Option.some.inj H
  go_enter Try.func89, Try.ntmps89
  go_wp2
  go_ret
  exact ⟨by first | rfl | (simp; done) | (simp [*]; done), atgD_⟩
 ·rw [if_neg c2] at H
  have c2b0 := beq_eq_false_iff_ne.mpr c2
  have c2b1 := bne_iff_ne.mpr c2
  by_cases c3 : a0 = 3
  ·rw [if_pos c3] at H
   have c3b0 := beq_iff_eq.mpr c3
   have c3b1 := bne_eq_false_iff_eq.mpr c3
   clear c3
   obtain rfl := Option.some.inj H
   go_enter Try.func89, Try.ntmps89
   go_wp2
   go_ret
   exact ⟨by first | rfl | (simp; done) | (simp [*]; done), atgD_⟩
  ·rw [if_neg c3] at H
   have c3b0 := beq_eq_false_iff_ne.mpr c3
   have c3b1 := bne_iff_ne.mpr c3
   obtain rfl := Option.some.inj H
   go_enter Try.func89, Try.ntmps89
   go_wp2
   go_ret
   exact ⟨by first | rfl | (simp; done) | (simp [*]; done), atgD_⟩

end Go.Proofs.Ytocimkpafakiaaa.XFnExactTrimProg
