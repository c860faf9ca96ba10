/- Each Go function that the law reaches as a Lean function, and that Go comes to just its answer; written by this session's xprint.py over the kit's printer. -/
import Derived.Test.YtocimkpafakiaaaXFnExactKnownAtx0
import Derived.Test.YtocimkpafakiaaaXFnExactKnownAtx11
import Derived.Test.YtocimkpafakiaaaXFnExactKnownAtx13
import Derived.Test.YtocimkpafakiaaaXFnExactKnownAtx14
namespace Go.Proofs.Ytocimkpafakiaaa.XFnExactKnownAt
open Go.RowKit Go.Proofs.YtocimkpafakiaaaW.PrintWords Go.Proofs.YtocimkpafakiaaaW.PrintLast Go.Proofs.YtocimkpafakiaaaW.PrintMore
attribute [local go_sem] max2_int min2_int max_two min_two max_three min_three max_four min_four   -- for this text's walks alone
set_option linter.unusedVariables false
set_option linter.unusedSimpArgs false

theorem att16_0_0 {p : Prop} (h : p := by repeat (first | (with_reducible first | exact HB.out | apply below_alloc | apply pw_below_drewN | apply below_drew1 | refine below_set ?_ GE326.out | refine below_set ?_ GE332.out) | exact HB.out)) : p := h
theorem att16_0_1 {p : Prop} (h : p := by first | (with_reducible assumption) | assumption) : p := h
theorem att16_0_2 {p : Prop} (h : p := by repeat (first | (with_reducible first | exact HB.out | apply below_alloc | apply pw_below_drewN | apply below_drew1 | refine below_set ?_ GE326.out) | exact HB.out)) : p := h
theorem att16_0_3 {p : Prop} (h : p := by (with_reducible repeat (first | refine blk_drewN ?_ _ | refine blk_drew ?_ | refine blk_alloc ?_ _)); exact BK326.out) : p := h
theorem att16_0_4 {p : Prop} (h : p := by rw [hw]; exact (by (with_reducible repeat (first | refine blk_drewN ?_ _ | refine blk_drew ?_ | refine blk_alloc ?_ _)); refine blk_put (cs := #[.int .i64 ((rd_T63 l0 x30_2).f0), .int .i64 ((rd_T63 l0 x30_2).f1), .int .i64 ((rd_T63 l0 x30_2).f2), .int .i64 ((rd_T63 l0 x30_2).f3), .int .i64 0]) ?_ 4 _ rfl; (with_reducible repeat (first | refine blk_drewN ?_ _ | refine blk_drew ?_ | refine blk_alloc ?_ _)); refine blk_put (cs := #[.int .i64 ((rd_T63 l0 x30_2).f0), .int .i64 ((rd_T63 l0 x30_2).f1), .int .i64 ((rd_T63 l0 x30_2).f2), .int .i64 0, .int .i64 0]) ?_ 3 _ rfl; (with_reducible repeat (first | refine blk_drewN ?_ _ | refine blk_drew ?_ | refine blk_alloc ?_ _)); refine blk_put (cs := #[.int .i64 ((rd_T63 l0 x30_2).f0), .int .i64 ((rd_T63 l0 x30_2).f1), .int .i64 0, .int .i64 0, .int .i64 0]) ?_ 2 _ rfl; (with_reducible repeat (first | refine blk_drewN ?_ _ | refine blk_drew ?_ | refine blk_alloc ?_ _)); refine blk_put (cs := #[.int .i64 ((rd_T63 l0 x30_2).f0), .int .i64 0, .int .i64 0, .int .i64 0, .int .i64 0]) ?_ 1 _ rfl; (with_reducible repeat (first | refine blk_drewN ?_ _ | refine blk_drew ?_ | refine blk_alloc ?_ _)); refine blk_put (cs := #[.int .i64 0, .int .i64 0, .int .i64 0, .int .i64 0, .int .i64 0]) ?_ 0 _ rfl; (with_reducible repeat (first | refine blk_drewN ?_ _ | refine blk_drew ?_ | refine blk_alloc ?_ _)); exact BK332.out)) : p := h
theorem att16_0_5 {p : Prop} (h : p := by repeat (first | (with_reducible first | exact HB.out | apply below_alloc | apply pw_below_drewN | apply below_drew1) | exact HB.out)) : p := h
theorem att16_0_6 {p : Prop} (h : p := by rw [hw]; exact (by (with_reducible repeat (first | refine blk_drewN ?_ _ | refine blk_drew ?_ | refine blk_alloc ?_ _)); refine blk_far ?_ NB326_332.out _; (with_reducible repeat (first | refine blk_drewN ?_ _ | refine blk_drew ?_ | refine blk_alloc ?_ _)); refine blk_far ?_ NB326_332.out _; (with_reducible repeat (first | refine blk_drewN ?_ _ | refine blk_drew ?_ | refine blk_alloc ?_ _)); refine blk_far ?_ NB326_332.out _; (with_reducible repeat (first | refine blk_drewN ?_ _ | refine blk_drew ?_ | refine blk_alloc ?_ _)); refine blk_far ?_ NB326_332.out _; (with_reducible repeat (first | refine blk_drewN ?_ _ | refine blk_drew ?_ | refine blk_alloc ?_ _)); refine blk_far ?_ NB326_332.out _; (with_reducible repeat (first | refine blk_drewN ?_ _ | refine blk_drew ?_ | refine blk_alloc ?_ _)); exact BK326.out)) : p := h
theorem att16_0_7 {p : Prop} (h : p := by first | rfl | (simp; done) | (simp [*]; done)) : p := h
theorem att16_0_8 {p : Prop} (h : p := by (try simp only [List.map_toArray, List.map_cons, List.map_nil]); first | done | rfl | (simp only [List.length_drop, List.length_take]; rfl)) : p := h
theorem att16_0_9 {p : Prop} (h : p := by (try simp only [hl3_1]); (try simp only [hl3_2]); (with_reducible repeat (first | refine blk_drewN ?_ _ | refine blk_drew ?_ | refine blk_alloc ?_ _)); exact BK326.out) : p := h
theorem att16_0_10 {p : Prop} (h : p := by rw [hw]; exact (by (with_reducible repeat (first | apply Kd.S_alloc | apply Kd.S_drewN | apply Kd.S_drew)); exact Kd.S_mono (Kd.S_far (p := ⟨gb332, 4, none⟩) (Kd.S_far (p := ⟨gb332, 3, none⟩) (Kd.S_far (p := ⟨gb332, 2, none⟩) (Kd.S_far (p := ⟨gb332, 1, none⟩) (Kd.S_far (p := ⟨gb332, 0, none⟩) (Kd.S_types HO_3.out BK332.out (by decide)) (fun _ hk => hk.2) (.int .i64 ((rd_T63 l0 x30_2).f0))) (fun _ hk => hk.2) (.int .i64 ((rd_T63 l0 x30_2).f1))) (fun _ hk => hk.2) (.int .i64 ((rd_T63 l0 x30_2).f2))) (fun _ hk => hk.2) (.int .i64 ((rd_T63 l0 x30_2).f3))) (fun _ hk => hk.2) (.int .i64 ((rd_T63 l0 x30_2).f4))) (fun _ hk => hk.1))) : p := h
theorem att16_0_11 {p : Prop} (h : p := by (with_reducible repeat (first | apply Kd.S_alloc | apply Kd.S_drewN | apply Kd.S_drew)); exact HO_3.out) : p := h
theorem att16_0_12 {p : Prop} (h : p := by (try simp only [hl3_1]); (try simp only [hl3_2]); (try simp only [hl3_3]); (with_reducible repeat (first | refine blk_drewN ?_ _ | refine blk_drew ?_ | refine blk_alloc ?_ _)); exact BK326.out) : p := h
theorem att16_0_13 {p : Prop} (h : p := by (with_reducible repeat (first | refine blk_drewN ?_ _ | refine blk_drew ?_ | refine blk_alloc ?_ _)); exact BK332.out) : p := h
theorem att16_0_14 {p : Prop} (h : p := by (try simp only [hl3_1]); (try simp only [hl3_2]); (with_reducible repeat (first | apply Kd.S_alloc | apply Kd.S_drewN | apply Kd.S_drew)); exact HO_3.out) : p := h
theorem att16_0_15 {p : Prop} (h : p := by (with_reducible repeat (first | refine blk_drewN ?_ _ | refine blk_drew ?_ | refine blk_alloc ?_ _)); refine blk_put (cs := #[.bool true, .int .i64 0]) ?_ 1 _ rfl; (with_reducible repeat (first | refine blk_drewN ?_ _ | refine blk_drew ?_ | refine blk_alloc ?_ _)); refine blk_put (cs := #[.bool false, .int .i64 0]) ?_ 0 _ rfl; (with_reducible repeat (first | refine blk_drewN ?_ _ | refine blk_drew ?_ | refine blk_alloc ?_ _)); exact BK326.out) : p := h
theorem att16_0_16 {p : Prop} (h : p := by (with_reducible repeat (first | apply Kd.R_alloc | apply Kd.R_drewN | apply Kd.R_drew)); exact HO_8.out) : p := h
theorem att16_0_17 {p : Prop} (h : p := by repeat (first | (with_reducible exact HR334_0.out) | (with_reducible refine Kd.C_alloc ?_ _) | (with_reducible refine Kd.C_drewN ?_ _) | (with_reducible refine Kd.C_drew ?_) | exact HR334_0.out)) : p := h
theorem att16_0_18 {p : Prop} (h : p := by (try simp only [hl3_1]); (try simp only [hl3_2]); (try simp only [hl3_3]); (with_reducible repeat (first | refine blk_drewN ?_ _ | refine blk_drew ?_ | refine blk_alloc ?_ _)); exact BK332.out) : p := h
theorem att16_0_19 {p : Prop} (h : p := by (try simp only [hl3_1]); (try simp only [hl3_2]); (try simp only [hl3_3]); (with_reducible repeat (first | apply Kd.R_alloc | apply Kd.R_drewN | apply Kd.R_drew)); exact HO_49.out) : p := h
theorem att16_0_20 {p : Prop} (h : p := by (try simp only [hl3_1]); (try simp only [hl3_2]); (try simp only [hl3_3]); (with_reducible repeat (first | apply Kd.S_alloc | apply Kd.S_drewN | apply Kd.S_drew)); exact HO_3.out) : p := h
theorem att16_0_21 {p : Prop} (h : p := by (with_reducible repeat (first | apply Kd.R_alloc | apply Kd.R_drewN | apply Kd.R_drew)); exact HL342_0.out) : p := h
theorem att16_0_22 {p : Prop} (h : p := by (with_reducible repeat (first | apply Kd.R_alloc | apply Kd.R_drewN | apply Kd.R_drew)); exact HL334_0.out) : p := h
theorem att16_0_23 {p : Prop} (h : p := by (with_reducible repeat (first | apply Kd.R_alloc | apply Kd.R_drewN | apply Kd.R_drew)); exact HL333_0.out) : p := h
theorem att16_0_24 {p : Prop} (h : p := by (with_reducible repeat (first | apply Kd.R_alloc | apply Kd.R_drewN | apply Kd.R_drew)); exact HO_49.out) : p := h
theorem att16_0_25 {p : Prop} (h : p := by repeat (first | (with_reducible exact HR333_0.out) | (with_reducible refine Kd.C_alloc ?_ _) | (with_reducible refine Kd.C_drewN ?_ _) | (with_reducible refine Kd.C_drew ?_) | exact HR333_0.out)) : p := h
theorem att16_0_26 {p : Prop} (h : p := by (try simp only [hl3_1]); (try simp only [hl3_2]); (try simp only [hl3_3]); (with_reducible repeat (first | apply Kd.R_alloc | apply Kd.R_drewN | apply Kd.R_drew)); exact HO_8.out) : p := h
theorem att16_0_27 {p : Prop} (h : p := by have := HK1.out; have := HK2.out; have := HK3.out; omega) : p := h
theorem att16_0_28 {p : Prop} (h : p := by (try simp only [hl3_1]); (with_reducible repeat (first | refine blk_drewN ?_ _ | refine blk_drew ?_ | refine blk_alloc ?_ _)); exact BK326.out) : p := h
theorem att16_0_29 {p : Prop} (h : p := by (try simp only [hl3_1]); (with_reducible repeat (first | apply Kd.S_alloc | apply Kd.S_drewN | apply Kd.S_drew)); exact HO_3.out) : p := h
theorem att16_0_30 {p : Prop} (h : p := by have := HK1.out; have := HK2.out; omega) : p := h
theorem att16_0_31 {p : Prop} (h : p := by (with_reducible repeat (first | apply Kd.R_alloc | apply Kd.R_drewN | apply Kd.R_drew)); exact HL352_0.out) : p := h
theorem att16_0_32 {p : Prop} (h : p := by (with_reducible repeat (first | apply Kd.S_alloc | apply Kd.S_drewN | apply Kd.S_drew)); exact HO325.out) : p := h
theorem att16_0_33 {p : Prop} (h : p := by repeat (first | exact HB.out | apply below_alloc | apply pw_below_drewN | apply below_drew1)) : p := h
theorem att16_1_0 {p : Prop} (h : p := by first | exact q342 | exact of_decide_eq_true att16_0_1 | (have e_ := (Kd.S_reads' HO_3.out).1; omega)) : p := h
theorem att16_1_1 {p : Prop} (h : p := by have h_ : ((rd t338 x51_3) : Int) < ((x3_3.length : Int) : Int) := of_decide_eq_true att16_0_1; first | exact h_ | (have e_ := (Kd.S_reads' HO_3.out).1; omega) | simpa using h_) : p := h
theorem att16_1_2 {p : Prop} (h : p := by first | exact of_decide_eq_true att16_0_1 | (have e_ := (Kd.S_reads' HO_3.out).1; have h_ : (rd t338 x51_3) < (x3_3.length : Int) := (of_decide_eq_true att16_0_1); omega)) : p := h
theorem att16_1_3 {p : Prop} (h : p := by have h_ : (x81_2 : Int) < ((x3_2.length : Int) : Int) := of_decide_eq_true att16_0_1; first | exact h_ | (have e_ := (Kd.S_reads' HO_3.out).1; omega) | simpa using h_) : p := h
theorem att16_1_4 {p : Prop} (h : p := by have h_ : (0 : Int) < ((y323.length : Int) : Int) := of_decide_eq_true att16_0_1; first | exact h_ | (have e_ := (Kd.S_reads' HO325.out).1; omega) | simpa using h_) : p := h
theorem att16_1_5 {p : Prop} (h : p := by first | exact q352 | exact of_decide_eq_true att16_0_1 | (have e_ := (Kd.S_reads' HO_3.out).1; omega)) : p := h
theorem att16_1_6 {p : Prop} (h : p := by first | exact q350 | exact of_decide_eq_true att16_0_1 | (have e_ := (Kd.S_reads' HO_3.out).1; omega)) : p := h
theorem att16_1_7 {p : Prop} (h : p := by first | exact q333 | exact of_decide_eq_true att16_0_1 | (have e_ := (Kd.S_reads' HO_3.out).1; omega)) : p := h
/-! ### impl_KnownAt: function 46 -/
mutual
def impl_KnownAt.l0 : Nat → List (S63) → List (List (S83)) → Bool → Option ((List (List (S83))))
 | 0, _, _, _ => none
 | k + 1, x0, x3, x5 => if x5 = true then (impl_KnownAt.l1 k x0 x3 false x0 (x0.length : Int) 0) else (impl_KnownAt.l3 k x3 (x3.length : Int) 0)
def impl_KnownAt.l1 : Nat → List (S63) → List (List (S83)) → Bool → List (S63) → Int → Int → Option ((List (List (S83))))
 | 0, _, _, _, _, _, _ => none
 | k + 1, x0, x3, x5, x28, x29, x30 => if x30 < x29 then (if 0 ≤ x30 then (if x30 < (x28.length : Int) then (if x30 < (x3.length : Int) then (if ((rd_L5 x3 x30).length : Int) = 0 then (impl_KnownAt.l1 k x0 x3 x5 x28 x29 (wrap64 (x30 + 1))) else ((impl_behind.f k ((rd_T63 x28 x30).f0) ((rd_T63 x28 x30).f1) ((rd_T63 x28 x30).f2) ((rd_T63 x28 x30).f3) ((rd_T63 x28 x30).f4) (rd_L5 x3 x30)).bind fun t335 => ((impl_nextOf.f x0 x30).bind fun t338 => (impl_KnownAt.l2 k x0 x3 x5 t335 x28 x29 x30 t338 (t338.length : Int) 0)))) else (none)) else (none)) else (none)) else (impl_KnownAt.l0 k x0 x3 x5)
def impl_KnownAt.l2 : Nat → List (S63) → List (List (S83)) → Bool → List (S83) → List (S63) → Int → Int → List Int → Int → Int → Option ((List (List (S83))))
 | 0, _, _, _, _, _, _, _, _, _, _ => none
 | k + 1, x0, x3, x5, x8, x28, x29, x30, x49, x50, x51 => if x51 < x50 then (if 0 ≤ x51 then (if x51 < (x49.length : Int) then (if 0 ≤ (rd x49 x51) then (if (rd x49 x51) < (x3.length : Int) then (if ((rd_L5 x3 (rd x49 x51)).length : Int) = 0 then ((some (([] : List (S83)) : List (S83))).bind fun y343 => (if y343.length + x8.length < 8796093022208 then (impl_KnownAt.l2 k x0 (x3.set ((rd x49 x51) : Int).toNat (y343 ++ x8)) true x8 x28 x29 x30 x49 x50 (wrap64 (x51 + 1))) else (none))) else ((impl_meet.f k (rd_L5 x3 (rd x49 x51)) x8).bind fun t351 => (if x5 = true then (impl_KnownAt.l2 k x0 (x3.set ((rd x49 x51) : Int).toNat t351.2) true x8 x28 x29 x30 x49 x50 (wrap64 (x51 + 1))) else (impl_KnownAt.l2 k x0 (x3.set ((rd x49 x51) : Int).toNat t351.2) t351.1 x8 x28 x29 x30 x49 x50 (wrap64 (x51 + 1)))))) else (none)) else (none)) else (none)) else (none)) else (impl_KnownAt.l1 k x0 x3 x5 x28 x29 (wrap64 (x30 + 1)))
def impl_KnownAt.l3 : Nat → List (List (S83)) → Int → Int → Option ((List (List (S83))))
 | 0, _, _, _ => none
 | k + 1, x3, x80, x81 => if x81 < x80 then (if 0 ≤ x81 then (if x81 < (x3.length : Int) then (if ((rd_L5 x3 x81).length : Int) = 0 then (if 4 ≤ 17592186044416 then (impl_KnownAt.l3 k (x3.set (x81 : Int).toNat (List.replicate 4 z83)) x80 (wrap64 (x81 + 1))) else (none)) else (impl_KnownAt.l3 k x3 x80 (wrap64 (x81 + 1)))) else (none)) else (none)) else (some x3)
end
def impl_KnownAt.f (k : Nat) (l0 : List (S63)) : Option ((List (List (S83)))) := (impl_BodyOk.f k l0 3).bind fun t322 => (if t322 = true then (if 0 ≤ (l0.length : Int) then (if ((l0.length : Int) : Int).toNat ≤ 11728124029610 then ((some (List.replicate ((l0.length : Int) : Int).toNat [] : List (List (S83)))).bind fun y323 => (if 0 < (y323.length : Int) then (impl_KnownAt.l0 k l0 (y323.set (0 : Int).toNat (([(⟨true, 0⟩ : S83), (⟨true, 0⟩ : S83), (⟨true, 0⟩ : S83), (⟨true, 0⟩ : S83)] : List (S83)))) true) else (none))) else (none)) else (none)) else (some ([] : List (List (S83)))))
theorem impl_KnownAt.mono_l : ∀ k, (∀ y0 y1 y2, LeO (impl_KnownAt.l0 k y0 y1 y2) (impl_KnownAt.l0 (k + 1) y0 y1 y2)) ∧ (∀ y0 y1 y2 y3 y4 y5, LeO (impl_KnownAt.l1 k y0 y1 y2 y3 y4 y5) (impl_KnownAt.l1 (k + 1) y0 y1 y2 y3 y4 y5)) ∧ (∀ y0 y1 y2 y3 y4 y5 y6 y7 y8 y9, LeO (impl_KnownAt.l2 k y0 y1 y2 y3 y4 y5 y6 y7 y8 y9) (impl_KnownAt.l2 (k + 1) y0 y1 y2 y3 y4 y5 y6 y7 y8 y9)) ∧ (∀ y0 y1 y2, LeO (impl_KnownAt.l3 k y0 y1 y2) (impl_KnownAt.l3 (k + 1) y0 y1 y2))
 | 0 => ⟨fun _ _ _ r h => by simp [impl_KnownAt.l0] at h, fun _ _ _ _ _ _ r h => by simp [impl_KnownAt.l1] at h, fun _ _ _ _ _ _ _ _ _ _ r h => by simp [impl_KnownAt.l2] at h, fun _ _ _ r h => by simp [impl_KnownAt.l3] at h⟩
 | k + 1 => by
  obtain ⟨ih0, ih1, ih2, ih3⟩ := impl_KnownAt.mono_l k
  refine ⟨?_, ?_, ?_, ?_⟩
  ·intro y0 y1 y2
   unfold impl_KnownAt.l0
   repeat' first
   | (with_reducible exact ih0 _ _ _)
   | (with_reducible exact ih1 _ _ _ _ _ _)
   | (with_reducible exact ih2 _ _ _ _ _ _ _ _ _ _)
   | (with_reducible exact ih3 _ _ _)
   | (with_reducible exact impl_BodyOk.mono _ _ _)
   | (with_reducible exact impl_behind.mono _ _ _ _ _ _ _)
   | (with_reducible exact impl_meet.mono _ _ _)
   | (with_reducible exact LeO.refl _)
   | (with_reducible exact LeO.none _)
   | (with_reducible refine LeO.ite ?_ ?_)
   | (with_reducible refine LeO.bind ?_ (fun _ => ?_))
   | exact ih0 _ _ _
   | exact ih1 _ _ _ _ _ _
   | exact ih2 _ _ _ _ _ _ _ _ _ _
   | exact ih3 _ _ _
   | exact impl_BodyOk.mono _ _ _
   | exact impl_behind.mono _ _ _ _ _ _ _
   | exact impl_meet.mono _ _ _
   | exact LeO.none _
   | refine LeO.ite ?_ ?_
   | refine LeO.bind ?_ (fun _ => ?_)
  ·intro y0 y1 y2 y3 y4 y5
   unfold impl_KnownAt.l1
   repeat' first
   | (with_reducible exact ih0 _ _ _)
   | (with_reducible exact ih1 _ _ _ _ _ _)
   | (with_reducible exact ih2 _ _ _ _ _ _ _ _ _ _)
   | (with_reducible exact ih3 _ _ _)
   | (with_reducible exact impl_BodyOk.mono _ _ _)
   | (with_reducible exact impl_behind.mono _ _ _ _ _ _ _)
   | (with_reducible exact impl_meet.mono _ _ _)
   | (with_reducible exact LeO.refl _)
   | (with_reducible exact LeO.none _)
   | (with_reducible refine LeO.ite ?_ ?_)
   | (with_reducible refine LeO.bind ?_ (fun _ => ?_))
   | exact ih0 _ _ _
   | exact ih1 _ _ _ _ _ _
   | exact ih2 _ _ _ _ _ _ _ _ _ _
   | exact ih3 _ _ _
   | exact impl_BodyOk.mono _ _ _
   | exact impl_behind.mono _ _ _ _ _ _ _
   | exact impl_meet.mono _ _ _
   | exact LeO.none _
   | refine LeO.ite ?_ ?_
   | refine LeO.bind ?_ (fun _ => ?_)
  ·intro y0 y1 y2 y3 y4 y5 y6 y7 y8 y9
   unfold impl_KnownAt.l2
   repeat' first
   | (with_reducible exact ih0 _ _ _)
   | (with_reducible exact ih1 _ _ _ _ _ _)
   | (with_reducible exact ih2 _ _ _ _ _ _ _ _ _ _)
   | (with_reducible exact ih3 _ _ _)
   | (with_reducible exact impl_BodyOk.mono _ _ _)
   | (with_reducible exact impl_behind.mono _ _ _ _ _ _ _)
   | (with_reducible exact impl_meet.mono _ _ _)
   | (with_reducible exact LeO.refl _)
   | (with_reducible exact LeO.none _)
   | (with_reducible refine LeO.ite ?_ ?_)
   | (with_reducible refine LeO.bind ?_ (fun _ => ?_))
   | exact ih0 _ _ _
   | exact ih1 _ _ _ _ _ _
   | exact ih2 _ _ _ _ _ _ _ _ _ _
   | exact ih3 _ _ _
   | exact impl_BodyOk.mono _ _ _
   | exact impl_behind.mono _ _ _ _ _ _ _
   | exact impl_meet.mono _ _ _
   | exact LeO.none _
   | refine LeO.ite ?_ ?_
   | refine LeO.bind ?_ (fun _ => ?_)
  ·intro y0 y1 y2
   unfold impl_KnownAt.l3
   repeat' first
   | (with_reducible exact ih0 _ _ _)
   | (with_reducible exact ih1 _ _ _ _ _ _)
   | (with_reducible exact ih2 _ _ _ _ _ _ _ _ _ _)
   | (with_reducible exact ih3 _ _ _)
   | (with_reducible exact impl_BodyOk.mono _ _ _)
   | (with_reducible exact impl_behind.mono _ _ _ _ _ _ _)
   | (with_reducible exact impl_meet.mono _ _ _)
   | (with_reducible exact LeO.refl _)
   | (with_reducible exact LeO.none _)
   | (with_reducible refine LeO.ite ?_ ?_)
   | (with_reducible refine LeO.bind ?_ (fun _ => ?_))
   | exact ih0 _ _ _
   | exact ih1 _ _ _ _ _ _
   | exact ih2 _ _ _ _ _ _ _ _ _ _
   | exact ih3 _ _ _
   | exact impl_BodyOk.mono _ _ _
   | exact impl_behind.mono _ _ _ _ _ _ _
   | exact impl_meet.mono _ _ _
   | exact LeO.none _
   | refine LeO.ite ?_ ?_
   | refine LeO.bind ?_ (fun _ => ?_)
theorem impl_KnownAt.mono : ∀ a0 k, LeO (impl_KnownAt.f k a0) (impl_KnownAt.f (k + 1) a0) := by
 intro a0 k
 obtain ⟨ih0, ih1, ih2, ih3⟩ := impl_KnownAt.mono_l k
 unfold impl_KnownAt.f
 repeat' first
   | (with_reducible exact ih0 _ _ _)
   | (with_reducible exact ih1 _ _ _ _ _ _)
   | (with_reducible exact ih2 _ _ _ _ _ _ _ _ _ _)
   | (with_reducible exact ih3 _ _ _)
   | (with_reducible exact impl_BodyOk.mono _ _ _)
   | (with_reducible exact impl_behind.mono _ _ _ _ _ _ _)
   | (with_reducible exact impl_meet.mono _ _ _)
   | (with_reducible exact LeO.refl _)
   | (with_reducible exact LeO.none _)
   | (with_reducible refine LeO.ite ?_ ?_)
   | (with_reducible refine LeO.bind ?_ (fun _ => ?_))
   | exact ih0 _ _ _
   | exact ih1 _ _ _ _ _ _
   | exact ih2 _ _ _ _ _ _ _ _ _ _
   | exact ih3 _ _ _
   | exact impl_BodyOk.mono _ _ _
   | exact impl_behind.mono _ _ _ _ _ _ _
   | exact impl_meet.mono _ _ _
   | exact LeO.none _
   | refine LeO.ite ?_ ?_
   | refine LeO.bind ?_ (fun _ => ?_)
set_option maxHeartbeats 80000000 in
set_option maxRecDepth 100000 in
theorem impl_KnownAt.calls (k : Nat) (A0 : Option Addr) (c0 : Nat) (l0 : List (S63)) (r : List (List (S83))) (w : World) (hr0 : Kd.C k63 w A0 l0.length l0) (hc0 : l0.length ≤ c0) (h : impl_KnownAt.f k l0 = some r) :
  Calls Try.prog 46 #[.slice A0 l0.length c0] w fun e w' => ∃ v0_ : Value, e = .returned (v0_) ∧ Kd.S (Kd.slice 83 k83) 81 w' w.heap.size (fun _ => True) v0_ r ∧ Below w.heap.size w w' := by
 have hu83 := Try.underlying83
 have hu63 := Try.underlying63
 have HR0 := Aside0.mk hr0
 have HC0 := Aside0.mk hc0
 clear hr0 hc0
 have HB := Aside0.mk (Below.refl w.heap.size w)
 have H : ((impl_BodyOk.f k l0 3).bind fun t322 => (if t322 = true then (if 0 ≤ (l0.length : Int) then (if ((l0.length : Int) : Int).toNat ≤ 11728124029610 then ((some (List.replicate ((l0.length : Int) : Int).toNat [] : List (List (S83)))).bind fun y323 => (if 0 < (y323.length : Int) then (impl_KnownAt.l0 k l0 (y323.set (0 : Int).toNat (([(⟨true, 0⟩ : S83), (⟨true, 0⟩ : S83), (⟨true, 0⟩ : S83), (⟨true, 0⟩ : S83)] : List (S83)))) true) else (none))) else (none)) else (none)) else (some ([] : List (List (S83)))))) = some r := h
 clear h
 replace H := Option.bind_eq_some_iff.mp H
 obtain ⟨t322, A20, H⟩ := H
 (try dsimp only at H)
 have A2 := Aside0.mk A20
 clear A20
 by_cases c3 : t322 = true
 ·subst c3
  rw [if_pos rfl] at H
  by_cases c4 : 0 ≤ (l0.length : Int)
  ·rw [if_pos c4] at H
   have c4b0 := eq_true c4
   have c4b1 : decide (0 ≤ (l0.length : Int)) = true := decide_eq_true c4
   clear c4
   by_cases c5 : ((l0.length : Int) : Int).toNat ≤ 11728124029610
   ·rw [if_pos c5] at H
    have c5b0 := eq_true c5
    have c5b1 : decide (((l0.length : Int) : Int).toNat ≤ 11728124029610) = true := decide_eq_true c5
    clear c5
    obtain ⟨y323, hy323⟩ : ∃ y_ : List (List (S83)), y_ = (List.replicate ((l0.length : Int) : Int).toNat []) := ⟨_, rfl⟩
    replace H : (if 0 < (y323.length : Int) then (impl_KnownAt.l0 k l0 (y323.set (0 : Int).toNat (([(⟨true, 0⟩ : S83), (⟨true, 0⟩ : S83), (⟨true, 0⟩ : S83), (⟨true, 0⟩ : S83)] : List (S83)))) true) else (none)) = some r := by first | (rw [hy323]; with_reducible exact H) | (have H2_ := (Option.bind_some _ _).symm.trans H; rw [hy323]; with_reducible exact H2_) | (have H2_ := (Option.bind_some _ _).symm.trans H; with_reducible exact H2_) | with_reducible exact H | (rw [hy323]; exact H) | exact H
    have Ny323 := Aside0.mk hy323
    clear hy323
    obtain ⟨y327, hy327⟩ : ∃ y_ : List (S83), y_ = (([(⟨true, 0⟩ : S83), (⟨true, 0⟩ : S83), (⟨true, 0⟩ : S83), (⟨true, 0⟩ : S83)] : List (S83))) := ⟨_, rfl⟩
    replace H : (if 0 < (y323.length : Int) then (impl_KnownAt.l0 k l0 (y323.set (0 : Int).toNat y327) true) else (none)) = some r := by first | (rw [hy327]; with_reducible exact H) | (have H2_ := (Option.bind_some _ _).symm.trans H; rw [hy327]; with_reducible exact H2_) | (have H2_ := (Option.bind_some _ _).symm.trans H; with_reducible exact H2_) | with_reducible exact H | (rw [hy327]; exact H) | exact H
    have Ny327 := Aside0.mk hy327
    clear hy327
    by_cases c6 : 0 < (y323.length : Int)
    ·rw [if_pos c6] at H
     have c6b0 : decide (0 < (y323.length : Int)) = true := decide_eq_true c6
     have c6b1 : decide (0 < y323.length) = true := decide_eq_true (by omega)
     clear c6
     obtain ⟨y330, hy330⟩ : ∃ y_ : List (List (S83)), y_ = (y323.set (0 : Int).toNat y327) := ⟨_, rfl⟩
     replace H : (impl_KnownAt.l0 k l0 y330 true) = some r := by first | (rw [hy330]; with_reducible exact H) | (have H2_ := (Option.bind_some _ _).symm.trans H; rw [hy330]; with_reducible exact H2_) | (have H2_ := (Option.bind_some _ _).symm.trans H; with_reducible exact H2_) | with_reducible exact H | (rw [hy330]; exact H) | exact H
     have Ny330 := Aside0.mk hy330
     clear hy330
     have H' := Aside0.mk H
     clear H
     go_enter Try.func46, Try.ntmps46
     go_wp2_with (first | ((with_reducible refine gate_callee (f := 34) rfl ?_); refine goesL_ (some 14) rfl rfl Try.func34 (by kernel_rfl) rfl #[.slice A0 l0.length c0, .int .i64 3] rfl att16_0_8 ?_; (with_reducible refine (impl_BodyOk.calls k _ _ l0 3 true _ ?side1 ?side2 A2.out).mono ?_); (case side1 => repeat (first | exact HR0.out | (with_reducible refine Kd.C_alloc ?_ _) | (with_reducible refine Kd.C_drewN ?_ _) | (with_reducible refine Kd.C_drew ?_))); (case side2 => exact HC0.out); rintro e w8 ⟨rfl, hb⟩; refine ⟨_, rfl, ?_⟩; have n0_ := Aside0.mk (below_step att16_0_5 hb); clear HB; have HB := n0_; clear n0_; (try clear hb); (try clear hb2); (try clear hk); (try clear hi)) | ((with_reducible refine gate_dst (N := 18) rfl ?_); refine Kd.S_make (Kd.slice 83 k83) _ 81 rfl (N := 18) rfl 46 _ _ rfl (l0.length : Int) rfl rfl Try.underlying46 (.slice none 0 0) 24 info81 rfl (by decide) (by omega) [] (ok := fun _ => True) (okp := fun _ => True) ⟨_, rfl, Kd.R_nil _ _ _ _ _⟩ (fun _ hk => hk) trivial (of_decide_eq_true att16_0_1) (Nat.le_trans (Nat.mul_le_mul_right _ (of_decide_eq_true att16_0_1 : (l0.length : Int).toNat ≤ 11728124029610)) (by omega)) (Below.refl _ _) (Nat.le_refl _) ?_; intro v324 w9 ho10 hb hg_ hnew_; clear hg_ hnew_; (first | rw [← Ny323.out] at ho10 | (simp only [Int.reduceToNat] at ho10; rw [← Ny323.out] at ho10)); have n0_ := Aside0.mk (Kd.S_lower ho10 (below_size att16_0_5)); have n1_ := Aside0.mk (below_step att16_0_5 hb); clear HB; have HO325 := n0_; have HB := n1_; clear n0_ n1_; clear hb ho10) | ((with_reducible refine gate_dst (N := 4) rfl ?_); refine box_event ?hg (N := 4) ?hd (cs := #[.bool false, .int .i64 0]) (t := 83) ?hr ?_; (case hd => rfl); (case hg => rfl); (case hr => first | (go_simp; done) | (go_simp; rfl)); intro gb326 hg w11 hbox hb; have n0_ := Aside0.mk (Kd.S_below (Kd.S_elderB att16_0_32 gb326 (Nat.le_of_eq hg.symm)) hb); have n1_ := Aside0.mk (below_step att16_0_5 hb); have n2_ := Aside0.mk (hbox); have n3_ := Aside0.mk ((by rw [hg]; exact (below_size att16_0_5) : w.heap.size ≤ gb326)); have n4_ := Aside0.mk ((by rw [hg]; exact (below_size att16_0_5) : w.heap.size ≤ gb326)); clear HO325; clear HB; have HO325 := n0_; have HB := n1_; have BK326 := n2_; have GW326 := n3_; have GE326 := n4_; clear n0_ n1_ n2_ n3_ n4_; clear hb hbox hg; have hcz12_0 : w11.cell? ⟨gb326, 0, none⟩ = some (.bool false) := (blk_cell BK326.out 0).trans rfl; have hcz12_1 : w11.cell? ⟨gb326, 1, none⟩ = some (.int .i64 0) := (blk_cell BK326.out 1).trans rfl; have hfz12_0 := blk_frozen BK326.out 0; have hfz12_1 := blk_frozen BK326.out 1) | ((with_reducible refine gate_dst (N := 25) rfl ?_); refine Kd.R_lit k83 _ 83 ?hg (N := 25) ?hd (xs := ([(⟨true, 0⟩ : S83), (⟨true, 0⟩ : S83), (⟨true, 0⟩ : S83), (⟨true, 0⟩ : S83)] : List (S83))) (inner := [.bool true, .int .i64 0, .bool true, .int .i64 0, .bool true, .int .i64 0, .bool true, .int .i64 0]) (ok := fun _ => True) (okp := fun _ => True) ?hr ?hp (fun _ hk => hk) trivial (Below.refl _ _) (Nat.le_refl _) (by simp) ?_; (case hd => rfl); (case hg => rfl); (case hr => first | (go_simp; done) | (go_simp; rfl)); (case hp => exact (Reps.c2 (show Kd.M k83 _ _ _ (⟨true, 0⟩ : S83) [.bool true, .int .i64 0] from (k83_mkM _ _ _ (⟨true, 0⟩ : S83) )) (Reps.c2 (show Kd.M k83 _ _ _ (⟨true, 0⟩ : S83) [.bool true, .int .i64 0] from (k83_mkM _ _ _ (⟨true, 0⟩ : S83) )) (Reps.c2 (show Kd.M k83 _ _ _ (⟨true, 0⟩ : S83) [.bool true, .int .i64 0] from (k83_mkM _ _ _ (⟨true, 0⟩ : S83) )) (Reps.c2 (show Kd.M k83 _ _ _ (⟨true, 0⟩ : S83) [.bool true, .int .i64 0] from (k83_mkM _ _ _ (⟨true, 0⟩ : S83) )) (Reps.none _ _)))))); intro v328 w13 ho14 hb hg_ hnew_; clear hg_ hnew_; (first | rw [← Ny327.out] at ho14 | (simp only [Int.reduceToNat] at ho14; rw [← Ny327.out] at ho14)); have n0_ := Aside0.mk (Kd.S_elder' (by (with_reducible repeat (first | apply Kd.S_alloc | apply Kd.S_drewN | apply Kd.S_drew)); exact (Kd.S_mono (Kd.S_far (p := ⟨gb326, 1, none⟩) (Kd.S_far (p := ⟨gb326, 0, none⟩) (Kd.S_mono HO325.out (fun k_ hk => (⟨hk, hk.2⟩ : _ ∧ k_ ≠ gb326))) (fun _ hk => hk.2) (.bool true)) (fun _ hk => hk.2) (.int .i64 0)) (fun _ h_ => h_.1))) (Kd.R_base ho14) hb); have n1_ := Aside0.mk (Kd.R_lower (Kd.R_newB ho14 (g := gb326) (o := .cells #[.bool true, .int .i64 0] 83 (0, 0)) att16_0_15) (below_size att16_0_2)); have n2_ := Aside0.mk (blk_below (g := gb326) (o := .cells #[.bool true, .int .i64 0] 83 (0, 0)) att16_0_15 hb); have n3_ := Aside0.mk (below_step att16_0_2 hb); clear HO325; clear BK326; clear HB; have HO325 := n0_; have HO329 := n1_; have BK326 := n2_; have HB := n3_; clear n0_ n1_ n2_ n3_; clear hb ho14; obtain ⟨Aq328, cq328, eq328⟩ := Kd.R_slice HO329.out; subst eq328; have p7 : 0 ≤ (0 : Int) := (by omega); have q7 : (0 : Int) < ((y323.length : Int) : Int) := of_decide_eq_true att16_0_1; have qi7 : (0 < y323.length) = True := eq_true (by omega); obtain ⟨go7, co7, eo7, gb7, gl7, cl7, HG7⟩ := Kd.S_form HO325.out (by omega); (first | cases eo7 | (injection eo7 with ea_ en_ ec_; (first | subst ea_ | (injection ea_ with ea_; subst ea_)); subst ec_; clear en_)); have GB7 := Aside0.mk gb7; have GG7 := Aside0.mk HG7; clear gb7 gl7 HG7; obtain ⟨_, ce7, hcl7, hM7, hcc7, hfr7, _, _⟩ := Kd.S_elem HO325.out [] (0 : Int) p7 q7; obtain ⟨ve7_0, rfl, ge7_0⟩ := hM7; have hx7_0 := hcc7 0 _ rfl; have hf7_0 := hfr7 0; (try simp only [show ((Kd.slice 83 k83)).sz = 1 from rfl, Nat.mul_one, Nat.add_zero] at hx7_0); (try simp only [show ((Kd.slice 83 k83)).sz = 1 from rfl, Nat.mul_one, Nat.add_zero] at hf7_0); clear hcl7 hcc7 hfr7 ; (try rw [show ((0 : Int)).toNat = 0 from rfl] at hx7_0); (try simp only [Nat.reduceMul, Nat.zero_mul, Nat.zero_add, Nat.reduceAdd] at hx7_0); (try rw [show ((0 : Int)).toNat = 0 from rfl] at hf7_0); (try simp only [Nat.reduceMul, Nat.zero_mul, Nat.zero_add, Nat.reduceAdd] at hf7_0); replace p7 := eq_true p7; replace q7 := eq_true q7; have n_ := Aside0.mk (Kd.S_mono (ok' := (fun k_ => some k_ ≠ ((.slice Aq328 y327.length cq328) : Value).ownBlock ∧ k_ ≠ gb326)) HO325.out (fun k_ hk => ⟨hk.2, hk.1.2⟩)); clear HO325; have HO325 := n_; clear n_; have HX15 := Aside0.mk (show Kd.S (Kd.slice 83 k83) 81 w13 w.heap.size (fun k_ => ((fun k_ => k_ ≠ gb326)) k_ ∧ ¬ ((fun k_ => some k_ = ((.slice Aq328 y327.length cq328) : Value).ownBlock)) k_) (.slice (some ⟨go7, 0, none⟩) y323.length co7) y323 from (by (with_reducible repeat (first | apply Kd.S_alloc | apply Kd.S_drewN | apply Kd.S_drew)); exact Kd.S_mono HO325.out (fun k_ hk => ⟨hk.2, fun e_ => hk.1 e_⟩))); obtain ⟨oki15, ce15, hcl15, hM15, hcc15, hfr15, hoki15, hH15⟩ := Kd.S_elem HX15.out [] (0 : Int) (by omega) att16_1_4; obtain ⟨ve15_0, rfl, ge15_0⟩ := hM15; have HP15 := Kd.S_seg hH15 (by omega) att16_1_4 (seg := [(.slice Aq328 y327.length cq328)]) (j := 0) (show 1 ≤ 1 from by decide) (x' := y327) (Kd.M_row (Kd.R_mono (Kd.R_tight rfl (Kd.R_mono (ok' := fun k_ => ((fun k_ => k_ ≠ gb326)) k_ ∧ k_ ≠ go7) (Kd.R_apart' (HO329.out) (Kd.S_typed HO325.out) (by decide)) (fun k_ hk => ⟨hk.1.2, fun e_ => (hk.2) (by rw [e_]; rfl)⟩))) (fun _ h_ => Or.inr (h_)))) (fun _ hk => hk) (fun k_ hk_ => ((Kd.R_mono (ok' := fun k_ => ((fun k_ => k_ ≠ gb326)) k_ ∧ k_ ≠ go7) (Kd.R_apart' (HO329.out) (Kd.S_typed HO325.out) (by decide)) (fun k_ hk => ⟨hk.1.2, fun e_ => (hk.2) (by rw [e_]; rfl)⟩))).1 k_ hk_.symm); have hx15_0 := hcc15 0 _ rfl; (try simp only [show ((Kd.slice 83 k83)).sz = 1 from rfl, Nat.mul_one, Nat.add_zero] at hx15_0); (try rw [show ((0 : Int)).toNat = 0 from rfl] at hx15_0); (try simp only [Nat.reduceMul, Nat.zero_mul, Nat.zero_add, Nat.reduceAdd] at hx15_0); have hf15_0 := hfr15 0; (try simp only [show ((Kd.slice 83 k83)).sz = 1 from rfl, Nat.mul_one, Nat.add_zero] at hf15_0); (try rw [show ((0 : Int)).toNat = 0 from rfl] at hf15_0); (try simp only [Nat.reduceMul, Nat.zero_mul, Nat.zero_add, Nat.reduceAdd] at hf15_0); clear hcl15 hcc15 hfr15 hoki15 hH15; (try simp only [show ((Kd.slice 83 k83)).sz = 1 from rfl, Nat.mul_one, Nat.add_zero] at HP15); obtain ⟨av_sl, cv_sl, ev_sl⟩ := Kd.R_slice HO329.out) | ((with_reducible refine gate_store (t := 81) (p := 26) rfl ?_); refine store_event (t := 81) (p := 26) (v := ?vo_w16) (w1 := (w13.setCell ⟨go7, 0, none⟩ ((.slice Aq328 y327.length cq328)))) ?hg ?ho ?hn ?hr ?_; (case ho => rfl); (case hg => rfl); (case hn => rfl); (case hr => first | (go_simp; done) | (go_simp; rfl)); intro w16 hw; have hg : w13.grownBy w16 (some go7) := (by rw [hw]; exact HP15.2); have hp_ : Kd.S (Kd.slice 83 k83) 81 w16 w.heap.size (fun k_ => k_ ≠ gb326) (.slice (some ⟨go7, 0, none⟩) y323.length co7) y330 := (by rw [hw, Ny330.out]; exact HP15.1); clear HP15; have n0_ := Aside0.mk (hp_); have n1_ := Aside0.mk (blk_grown (g := gb326) (o := .cells #[.bool true, .int .i64 0] 83 (0, 0)) att16_0_3 hg (Kd.S_ne HO325.out BK326.out (by decide))); have n2_ := Aside0.mk ((by rw [hw]; exact below_set (HB.out) GB7.out : Below w.heap.size w w16)); clear HO325; clear BK326; clear HB; clear HO329; have HO325 := n0_; have BK326 := n1_; have HB := n2_; clear n0_ n1_ n2_; clear hg hw hp_))
     go_loopg [5] k (fun kq v5 w' => ∃ (x3_1 : List (List (S83))) (x5_1 : Bool), v5 = .bool x5_1 ∧ Aside0 (impl_KnownAt.l0 kq l0 x3_1 x5_1 = some r) ∧ Aside0 (kq ≤ k) ∧ Aside0 (Kd.S (Kd.slice 83 k83) 81 w' w.heap.size (fun k_ => k_ ≠ gb326) (.slice (some ⟨go7, 0, none⟩) y323.length co7) x3_1) ∧ Aside0 (w'.heap[gb326]? = some (.cells #[.bool true, .int .i64 0] 83 (0, 0))) ∧ Aside0 (Below w.heap.size w w'))
     case atStart => exact ⟨(y330), (true), att16_0_7, H', ⟨Nat.le_refl _⟩, ⟨att16_0_32⟩, ⟨att16_0_3⟩, ⟨att16_0_2⟩⟩
     case round =>
      clear H'
      try clear c1
      try clear hx1
      try clear hf1
      try clear c2
      try clear p2
      try clear c3
      try clear c4
      try clear c4b0
      try clear c4b1
      try clear c5
      try clear c5b0
      try clear c5b1
      try clear c6
      try clear c6b0
      try clear c6b1
      try clear c7
      try clear p7
      try clear q7
      try clear hx7
      try clear qi7
      try clear hf7
      try clear c15
      try clear hx15
      try clear hf15
      try clear hcz12_0
      try clear hcz12_1
      try clear hfz12_0
      try clear hfz12_1
      try clear hx15_0
      try clear hx7_0
      try clear p7
      try clear q7
      obtain ⟨x3_1, x5_1, rfl, HA, HK1, HO_3, BK326, HB⟩ := hrel
      have hl3_1 := (Kd.S_reads' HO_3.out).1
      rw [hl3_1] at HO_3
      (try simp only [hl3_1])
      (try simp only [hl3_1] at BK326)
      cases gk with
      | zero => exact absurd HA.out (by simp [impl_KnownAt.l0])
      | succ k1 =>
       have H := HA.out
       clear HA
       simp only [impl_KnownAt.l0] at H
       by_cases c17 : x5_1 = true
       ·subst c17
        rw [if_pos rfl] at H
        have H' := Aside0.mk H
        clear H
        go_wp2
        go_loopg [5, 30] k1 (fun kq v5 v30 w' => ∃ (x3_2 : List (List (S83))) (x5_2 : Bool) (x30_2 : Int), v5 = .bool x5_2 ∧ v30 = .int .i64 x30_2 ∧ Aside0 (impl_KnownAt.l1 kq l0 x3_2 x5_2 l0 (l0.length : Int) x30_2 = some r) ∧ Aside0 (kq ≤ k1) ∧ Aside0 (Kd.S (Kd.slice 83 k83) 81 w' w.heap.size (fun k_ => k_ ≠ gb326) (.slice (some ⟨go7, 0, none⟩) x3_1.length co7) x3_2) ∧ Aside0 (w'.heap[gb326]? = some (.cells #[.bool true, .int .i64 0] 83 (0, 0))) ∧ Aside0 (Below w.heap.size w w'))
        case atStart => exact ⟨(x3_1), (false), (0), att16_0_7, att16_0_7, H', ⟨Nat.le_refl _⟩, ⟨att16_0_29⟩, ⟨att16_0_28⟩, ⟨att16_0_2⟩⟩
        case round =>
         clear H'
         try clear c1
         try clear hx1
         try clear hf1
         try clear c2
         try clear p2
         try clear c3
         try clear c4
         try clear c4b0
         try clear c4b1
         try clear c5
         try clear c5b0
         try clear c5b1
         try clear c6
         try clear c6b0
         try clear c6b1
         try clear c7
         try clear p7
         try clear q7
         try clear hx7
         try clear qi7
         try clear hf7
         try clear c15
         try clear hx15
         try clear hf15
         try clear c17
         try clear hcz12_0
         try clear hcz12_1
         try clear hfz12_0
         try clear hfz12_1
         try clear hx15_0
         try clear hx7_0
         try clear p2
         try clear p7
         try clear q7
         obtain ⟨x3_2, x5_2, x30_2, rfl, rfl, HA, HK2, HO_3, BK326, HB⟩ := hrel
         have hl3_2 := (Kd.S_reads' HO_3.out).1
         rw [hl3_2] at HO_3
         (try simp only [hl3_2])
         (try simp only [hl3_2] at BK326)
         cases gk with
         | zero => exact absurd HA.out (by simp [impl_KnownAt.l1])
         | succ k2 =>
          have H := HA.out
          clear HA
          simp only [impl_KnownAt.l1] at H
          by_cases c18 : x30_2 < (l0.length : Int)
          ·rw [if_pos c18] at H
           have c18b0 : decide (x30_2 < (l0.length : Int)) = true := decide_eq_true c18
           clear c18
           by_cases c19 : 0 ≤ x30_2
           ·rw [if_pos c19] at H
            have c19b0 : decide (0 ≤ x30_2) = true := decide_eq_true c19
            clear c19
            by_cases c20 : x30_2 < (l0.length : Int)
            ·rw [if_pos c20] at H
             have c20b0 : decide (x30_2 < (l0.length : Int)) = true := decide_eq_true c20
             clear c20
             by_cases c21 : x30_2 < (x3_2.length : Int)
             ·rw [if_pos c21] at H
              have c21b0 : decide (x30_2 < (x3_2.length : Int)) = true := decide_eq_true c21
              clear c21
              by_cases c22 : ((rd_L5 x3_2 x30_2).length : Int) = 0
              ·rw [if_pos c22] at H
               have c22b0 : (((rd_L5 x3_2 x30_2).length : Int) == 0) = true := beq_iff_eq.mpr c22
               have c22b1 : (((rd_L5 x3_2 x30_2).length : Int) != 0) = false := bne_eq_false_iff_eq.mpr c22
               clear c22
               have H' := Aside0.mk H
               clear H
               have p331 : 0 ≤ (x30_2 : Int) := of_decide_eq_true att16_0_1
               have q331 : x30_2 < (l0.length : Int) := of_decide_eq_true att16_0_1
               obtain ⟨ad331, e331, hx331_0, hx331_1, hx331_2, hx331_3, hx331_4⟩ := at_T63 HR0.out x30_2 p331 q331
               cases e331
               replace hx331_0 := (HB.out.cell (World.block_lt_of_cell? w _ hx331_0)).trans hx331_0
               replace hx331_1 := (HB.out.cell (World.block_lt_of_cell? w _ hx331_1)).trans hx331_1
               replace hx331_2 := (HB.out.cell (World.block_lt_of_cell? w _ hx331_2)).trans hx331_2
               replace hx331_3 := (HB.out.cell (World.block_lt_of_cell? w _ hx331_3)).trans hx331_3
               replace hx331_4 := (HB.out.cell (World.block_lt_of_cell? w _ hx331_4)).trans hx331_4
               replace p331 := eq_true p331
               replace q331 := eq_true q331
               go_wp2_with (first | ((with_reducible refine gate_dst (N := 7) rfl ?_); refine box_event ?hg (N := 7) ?hd (cs := #[.int .i64 0, .int .i64 0, .int .i64 0, .int .i64 0, .int .i64 0]) (t := 63) ?hr ?_; (case hd => rfl); (case hg => rfl); (case hr => first | (go_simp; done) | (go_simp; rfl)); intro gb332 hg w23 hbox hb; have n0_ := Aside0.mk (Kd.S_below att16_0_11 hb); have n1_ := Aside0.mk (blk_below (g := gb326) (o := .cells #[.bool true, .int .i64 0] 83 (0, 0)) att16_0_3 hb); have n2_ := Aside0.mk (below_step att16_0_2 hb); have n3_ := Aside0.mk (hbox); have n4_ := Aside0.mk ((by rw [hg]; exact (below_size att16_0_2) : w.heap.size ≤ gb332)); have n5_ := Aside0.mk ((by rw [hg]; exact (below_size att16_0_2) : w.heap.size ≤ gb332)); have n6_ := Aside0.mk ((by rw [hg]; exact Nat.ne_of_lt (blk_lt (g := gb326) (o := .cells #[.bool true, .int .i64 0] 83 (0, 0)) att16_0_3) : gb326 ≠ gb332)); have n7_ := Aside0.mk ((by rw [hg]; exact Nat.ne_of_gt (blk_lt (g := gb326) (o := .cells #[.bool true, .int .i64 0] 83 (0, 0)) att16_0_3) : gb332 ≠ gb326)); clear HO_3; clear BK326; clear HB; have HO_3 := n0_; have BK326 := n1_; have HB := n2_; have BK332 := n3_; have GW332 := n4_; have GE332 := n5_; have NB326_332 := n6_; have NB332_326 := n7_; clear n0_ n1_ n2_ n3_ n4_ n5_ n6_ n7_; clear hb hbox hg; have hnb24 := NB332_326.out; have hnc24 := NB326_332.out; have hcz25_0 : w23.cell? ⟨gb332, 0, none⟩ = some (.int .i64 0) := (blk_cell BK332.out 0).trans rfl; have hcz25_1 : w23.cell? ⟨gb332, 1, none⟩ = some (.int .i64 0) := (blk_cell BK332.out 1).trans rfl; have hcz25_2 : w23.cell? ⟨gb332, 2, none⟩ = some (.int .i64 0) := (blk_cell BK332.out 2).trans rfl; have hcz25_3 : w23.cell? ⟨gb332, 3, none⟩ = some (.int .i64 0) := (blk_cell BK332.out 3).trans rfl; have hcz25_4 : w23.cell? ⟨gb332, 4, none⟩ = some (.int .i64 0) := (blk_cell BK332.out 4).trans rfl; have hfz25_0 := blk_frozen BK332.out 0; have hfz25_1 := blk_frozen BK332.out 1; have hfz25_2 := blk_frozen BK332.out 2; have hfz25_3 := blk_frozen BK332.out 3; have hfz25_4 := blk_frozen BK332.out 4) | ((with_reducible refine gate_store (t := 63) (p := 7) rfl ?_); refine store_event (t := 63) (p := 7) (v := ?vo_w26) (w1 := (((((w23.setCell ⟨gb332, 0, none⟩ (.int .i64 ((rd_T63 l0 x30_2).f0))).setCell ⟨gb332, 1, none⟩ (.int .i64 ((rd_T63 l0 x30_2).f1))).setCell ⟨gb332, 2, none⟩ (.int .i64 ((rd_T63 l0 x30_2).f2))).setCell ⟨gb332, 3, none⟩ (.int .i64 ((rd_T63 l0 x30_2).f3))).setCell ⟨gb332, 4, none⟩ (.int .i64 ((rd_T63 l0 x30_2).f4)))) ?hg ?ho ?hn ?hr ?_; (case ho => rfl); (case hg => rfl); (case hn => rfl); (case hr => first | (go_simp; done) | (go_simp; rfl)); intro w26 hw; have n0_ : Aside0 (Kd.S (Kd.slice 83 k83) 81 w26 w.heap.size (fun k_ => k_ ≠ gb326) (.slice (some ⟨go7, 0, none⟩) x3_2.length co7) x3_2) := ⟨att16_0_10⟩; have n1_ : Aside0 (w26.heap[gb326]? = some (.cells #[.bool true, .int .i64 0] 83 (0, 0))) := ⟨att16_0_6⟩; have n2_ : Aside0 (w26.heap[gb332]? = some (.cells #[.int .i64 ((rd_T63 l0 x30_2).f0), .int .i64 ((rd_T63 l0 x30_2).f1), .int .i64 ((rd_T63 l0 x30_2).f2), .int .i64 ((rd_T63 l0 x30_2).f3), .int .i64 ((rd_T63 l0 x30_2).f4)] 63 (0, 0))) := ⟨att16_0_4⟩; have n3_ : Aside0 (Below w.heap.size w w26) := ⟨(by rw [hw]; exact att16_0_0)⟩; clear hw; clear HO_3; clear BK326; clear BK332; clear HB; have HO_3 := n0_; have BK326 := n1_; have BK332 := n2_; have HB := n3_; clear n0_ n1_ n2_ n3_; have p333 : 0 ≤ (x30_2 : Int) := of_decide_eq_true att16_0_1; have q333 : x30_2 < (x3_2.length : Int) := of_decide_eq_true att16_0_1; obtain ⟨ad333, A333_0, c333_0, e333, hx333_0, hl333_0, hi333_0⟩ := at_L5 (Kd.S_reads' HO_3.out).2.2 x30_2 p333 q333; obtain rfl : (⟨go7, 0, none⟩ : Addr) = ad333 := (by injection e333); obtain ⟨ce333, hce333, hMe333, hcc333⟩ := Kd.S_get HO_3.out [] x30_2 p333 att16_1_7; obtain ⟨ve333_0, rfl, ge333_0⟩ := hMe333; have hv333_0 := hcc333 0 _ rfl; rw [Nat.add_zero, show ((Kd.slice 83 k83)).sz = 1 from rfl, Nat.mul_one] at hv333_0; replace hv333_0 := Option.some.inj (hv333_0.symm.trans hx333_0); rw [hv333_0] at ge333_0; have HL333_0 := Aside0.mk (show Kd.R k83 83 _ _ _ _ (rd_L5 x3_2 x30_2) from ge333_0); clear hv333_0 ge333_0; clear hcc333 hce333; (first | simp only [add_plain] at hx333_0 | simp only [add_at] at hx333_0 | simp only [Addr.add, Nat.zero_add] at hx333_0 | skip); have HR333_0 := Aside0.mk hi333_0; have HC333_0 := Aside0.mk hl333_0; clear hi333_0 hl333_0; replace p333 := eq_true p333; replace q333 := eq_true q333))
               (try simp only [← hl3_2])
               go_roundg k2
               case measure => have := HK1.out; have := HK2.out; omega
               case rel => exact ⟨(x3_2), (x5_2), (wrap64 (x30_2 + 1)), att16_0_7, att16_0_7, H', ⟨att16_0_30⟩, ⟨att16_0_14⟩, ⟨att16_0_9⟩, ⟨att16_0_0⟩⟩
              ·rw [if_neg c22] at H
               have c22b0 : (((rd_L5 x3_2 x30_2).length : Int) == 0) = false := beq_eq_false_iff_ne.mpr c22
               have c22b1 : (((rd_L5 x3_2 x30_2).length : Int) != 0) = true := bne_iff_ne.mpr c22
               have c22b2 : ¬ ((rd_L5 x3_2 x30_2) = []) := fun h_ => c22 (by rw [h_]; rfl)
               replace H := Option.bind_eq_some_iff.mp H
               obtain ⟨t335, A270, H⟩ := H
               (try dsimp only at H)
               have A27 := Aside0.mk A270
               clear A270
               replace H := Option.bind_eq_some_iff.mp H
               obtain ⟨t338, A280, H⟩ := H
               (try dsimp only at H)
               have A28 := Aside0.mk A280
               clear A280
               have H' := Aside0.mk H
               clear H
               have p331 : 0 ≤ (x30_2 : Int) := of_decide_eq_true att16_0_1
               have q331 : x30_2 < (l0.length : Int) := of_decide_eq_true att16_0_1
               obtain ⟨ad331, e331, hx331_0, hx331_1, hx331_2, hx331_3, hx331_4⟩ := at_T63 HR0.out x30_2 p331 q331
               cases e331
               replace hx331_0 := (HB.out.cell (World.block_lt_of_cell? w _ hx331_0)).trans hx331_0
               replace hx331_1 := (HB.out.cell (World.block_lt_of_cell? w _ hx331_1)).trans hx331_1
               replace hx331_2 := (HB.out.cell (World.block_lt_of_cell? w _ hx331_2)).trans hx331_2
               replace hx331_3 := (HB.out.cell (World.block_lt_of_cell? w _ hx331_3)).trans hx331_3
               replace hx331_4 := (HB.out.cell (World.block_lt_of_cell? w _ hx331_4)).trans hx331_4
               replace p331 := eq_true p331
               replace q331 := eq_true q331
               try go_wp2_with (first | ((with_reducible refine gate_dst (N := 7) rfl ?_); refine box_event ?hg (N := 7) ?hd (cs := #[.int .i64 0, .int .i64 0, .int .i64 0, .int .i64 0, .int .i64 0]) (t := 63) ?hr ?_; (case hd => rfl); (case hg => rfl); (case hr => first | (go_simp; done) | (go_simp; rfl)); intro gb332 hg w29 hbox hb; have n0_ := Aside0.mk (Kd.S_below att16_0_11 hb); have n1_ := Aside0.mk (blk_below (g := gb326) (o := .cells #[.bool true, .int .i64 0] 83 (0, 0)) att16_0_3 hb); have n2_ := Aside0.mk (below_step att16_0_2 hb); have n3_ := Aside0.mk (hbox); have n4_ := Aside0.mk ((by rw [hg]; exact (below_size att16_0_2) : w.heap.size ≤ gb332)); have n5_ := Aside0.mk ((by rw [hg]; exact (below_size att16_0_2) : w.heap.size ≤ gb332)); have n6_ := Aside0.mk ((by rw [hg]; exact Nat.ne_of_lt (blk_lt (g := gb326) (o := .cells #[.bool true, .int .i64 0] 83 (0, 0)) att16_0_3) : gb326 ≠ gb332)); have n7_ := Aside0.mk ((by rw [hg]; exact Nat.ne_of_gt (blk_lt (g := gb326) (o := .cells #[.bool true, .int .i64 0] 83 (0, 0)) att16_0_3) : gb332 ≠ gb326)); clear HO_3; clear BK326; clear HB; have HO_3 := n0_; have BK326 := n1_; have HB := n2_; have BK332 := n3_; have GW332 := n4_; have GE332 := n5_; have NB326_332 := n6_; have NB332_326 := n7_; clear n0_ n1_ n2_ n3_ n4_ n5_ n6_ n7_; clear hb hbox hg; have hnb30 := NB332_326.out; have hnc30 := NB326_332.out; have hcz31_0 : w29.cell? ⟨gb332, 0, none⟩ = some (.int .i64 0) := (blk_cell BK332.out 0).trans rfl; have hcz31_1 : w29.cell? ⟨gb332, 1, none⟩ = some (.int .i64 0) := (blk_cell BK332.out 1).trans rfl; have hcz31_2 : w29.cell? ⟨gb332, 2, none⟩ = some (.int .i64 0) := (blk_cell BK332.out 2).trans rfl; have hcz31_3 : w29.cell? ⟨gb332, 3, none⟩ = some (.int .i64 0) := (blk_cell BK332.out 3).trans rfl; have hcz31_4 : w29.cell? ⟨gb332, 4, none⟩ = some (.int .i64 0) := (blk_cell BK332.out 4).trans rfl; have hfz31_0 := blk_frozen BK332.out 0; have hfz31_1 := blk_frozen BK332.out 1; have hfz31_2 := blk_frozen BK332.out 2; have hfz31_3 := blk_frozen BK332.out 3; have hfz31_4 := blk_frozen BK332.out 4) | ((with_reducible refine gate_store (t := 63) (p := 7) rfl ?_); refine store_event (t := 63) (p := 7) (v := ?vo_w32) (w1 := (((((w29.setCell ⟨gb332, 0, none⟩ (.int .i64 ((rd_T63 l0 x30_2).f0))).setCell ⟨gb332, 1, none⟩ (.int .i64 ((rd_T63 l0 x30_2).f1))).setCell ⟨gb332, 2, none⟩ (.int .i64 ((rd_T63 l0 x30_2).f2))).setCell ⟨gb332, 3, none⟩ (.int .i64 ((rd_T63 l0 x30_2).f3))).setCell ⟨gb332, 4, none⟩ (.int .i64 ((rd_T63 l0 x30_2).f4)))) ?hg ?ho ?hn ?hr ?_; (case ho => rfl); (case hg => rfl); (case hn => rfl); (case hr => first | (go_simp; done) | (go_simp; rfl)); intro w32 hw; have n0_ : Aside0 (Kd.S (Kd.slice 83 k83) 81 w32 w.heap.size (fun k_ => k_ ≠ gb326) (.slice (some ⟨go7, 0, none⟩) x3_2.length co7) x3_2) := ⟨att16_0_10⟩; have n1_ : Aside0 (w32.heap[gb326]? = some (.cells #[.bool true, .int .i64 0] 83 (0, 0))) := ⟨att16_0_6⟩; have n2_ : Aside0 (w32.heap[gb332]? = some (.cells #[.int .i64 ((rd_T63 l0 x30_2).f0), .int .i64 ((rd_T63 l0 x30_2).f1), .int .i64 ((rd_T63 l0 x30_2).f2), .int .i64 ((rd_T63 l0 x30_2).f3), .int .i64 ((rd_T63 l0 x30_2).f4)] 63 (0, 0))) := ⟨att16_0_4⟩; have n3_ : Aside0 (Below w.heap.size w w32) := ⟨(by rw [hw]; exact att16_0_0)⟩; clear hw; clear HO_3; clear BK326; clear BK332; clear HB; have HO_3 := n0_; have BK326 := n1_; have BK332 := n2_; have HB := n3_; clear n0_ n1_ n2_ n3_; have p333 : 0 ≤ (x30_2 : Int) := of_decide_eq_true att16_0_1; have q333 : x30_2 < (x3_2.length : Int) := of_decide_eq_true att16_0_1; obtain ⟨ad333, A333_0, c333_0, e333, hx333_0, hl333_0, hi333_0⟩ := at_L5 (Kd.S_reads' HO_3.out).2.2 x30_2 p333 q333; obtain rfl : (⟨go7, 0, none⟩ : Addr) = ad333 := (by injection e333); obtain ⟨ce333, hce333, hMe333, hcc333⟩ := Kd.S_get HO_3.out [] x30_2 p333 att16_1_7; obtain ⟨ve333_0, rfl, ge333_0⟩ := hMe333; have hv333_0 := hcc333 0 _ rfl; rw [Nat.add_zero, show ((Kd.slice 83 k83)).sz = 1 from rfl, Nat.mul_one] at hv333_0; replace hv333_0 := Option.some.inj (hv333_0.symm.trans hx333_0); rw [hv333_0] at ge333_0; have HL333_0 := Aside0.mk (show Kd.R k83 83 _ _ _ _ (rd_L5 x3_2 x30_2) from ge333_0); clear hv333_0 ge333_0; clear hcc333 hce333; (first | simp only [add_plain] at hx333_0 | simp only [add_at] at hx333_0 | simp only [Addr.add, Nat.zero_add] at hx333_0 | skip); have HR333_0 := Aside0.mk hi333_0; have HC333_0 := Aside0.mk hl333_0; clear hi333_0 hl333_0; replace p333 := eq_true p333; replace q333 := eq_true q333))
               have n0_ := Aside0.mk (Kd.S_drew HO_3.out)
               have n1_ := Aside0.mk (Kd.R_drew HL333_0.out)
               have n2_ := Aside0.mk (blk_drew BK326.out)
               have n3_ := Aside0.mk (blk_drew BK332.out)
               have n4_ := Aside0.mk (Kd.C_drew HR333_0.out)
               have n5_ := Aside0.mk (below_drew1 HB.out)
               clear HO_3
               clear HL333_0
               clear BK326
               clear BK332
               clear HR333_0
               clear HB
               have HO_3 := n0_
               have HL333_0 := n1_
               have BK326 := n2_
               have BK332 := n3_
               have HR333_0 := n4_
               have HB := n5_
               clear n0_ n1_ n2_ n3_ n4_ n5_
               have p334 : 0 ≤ (x30_2 : Int) := of_decide_eq_true att16_0_1
               have q334 : x30_2 < (x3_2.length : Int) := of_decide_eq_true att16_0_1
               obtain ⟨ad334, A334_0, c334_0, e334, hx334_0, hl334_0, hi334_0⟩ := at_L5 (Kd.S_reads' HO_3.out).2.2 x30_2 p334 q334
               obtain rfl : (⟨go7, 0, none⟩ : Addr) = ad334 := (by injection e334)
               obtain ⟨ce334, hce334, hMe334, hcc334⟩ := Kd.S_get HO_3.out [] x30_2 p334 (by first | exact q334 | exact of_decide_eq_true att16_0_1 | (have e_ := (Kd.S_reads' HO_3.out).1; omega))
               obtain ⟨ve334_0, rfl, ge334_0⟩ := hMe334
               have hv334_0 := hcc334 0 _ rfl
               rw [Nat.add_zero, show ((Kd.slice 83 k83)).sz = 1 from rfl, Nat.mul_one] at hv334_0
               replace hv334_0 := Option.some.inj (hv334_0.symm.trans hx334_0)
               rw [hv334_0] at ge334_0
               have HL334_0 := Aside0.mk (show Kd.R k83 83 _ _ _ _ (rd_L5 x3_2 x30_2) from ge334_0)
               clear hv334_0 ge334_0
               clear hcc334 hce334
               (first | simp only [add_plain] at hx334_0 | simp only [add_at] at hx334_0 | simp only [Addr.add, Nat.zero_add] at hx334_0 | skip)
               have HR334_0 := Aside0.mk hi334_0
               have HC334_0 := Aside0.mk hl334_0
               clear hi334_0 hl334_0
               replace p334 := eq_true p334
               replace q334 := eq_true q334
               refine start_ (n := 7) (S := fun w' => w'.cell? ⟨gb332, 0, none⟩ = some (.int .i64 ((rd_T63 l0 x30_2).f0)) ∧ w'.cell? ⟨gb332, 1, none⟩ = some (.int .i64 ((rd_T63 l0 x30_2).f1)) ∧ w'.cell? ⟨gb332, 2, none⟩ = some (.int .i64 ((rd_T63 l0 x30_2).f2)) ∧ w'.cell? ⟨gb332, 3, none⟩ = some (.int .i64 ((rd_T63 l0 x30_2).f3)) ∧ w'.cell? ⟨gb332, 4, none⟩ = some (.int .i64 ((rd_T63 l0 x30_2).f4)) ∧ w'.cell? ⟨go7, (x30_2).toNat, none⟩ = some (.slice A334_0 (rd_L5 x3_2 x30_2).length c334_0)) (ds := []) (tf_ 0 7) (by kernel_rfl) rfl rfl ⟨(blk_cell BK332.out 0).trans rfl, (blk_cell BK332.out 1).trans rfl, (blk_cell BK332.out 2).trans rfl, (blk_cell BK332.out 3).trans rfl, (blk_cell BK332.out 4).trans rfl, hx334_0⟩ (fun hHeld => ?_)
               generalize w32.drew = w33 at HO_3 HL333_0 BK326 BK332 HR333_0 HB HL334_0 HR334_0 hx334_0 hHeld ⊢
               refine pureP_ (i := 1) (N := some 42) #[false, true, false, false, false, false, false] (by kernel_rfl) (h := ?_)
               refine pureP_ (i := 2) (N := some 43) #[false, true, true, false, false, false, false] (by kernel_rfl) (h := ?_)
               refine pureP_ (i := 3) (N := some 44) #[false, true, true, true, false, false, false] (by kernel_rfl) (h := ?_)
               refine takeP_ (i := 0) (N := some 41) (tf_ 4 3) (by kernel_rfl) hHeld (hy := Or.inl ⟨by rfl, by rintro w' ⟨s0, s1, s2, s3, s4, s5⟩; go_simp; with_reducible rfl⟩) (h := ?_)
               refine takeP_ (i := 4) (N := some 45) (tf_ 5 2) (by kernel_rfl) hHeld (hy := Or.inl ⟨by rfl, by rintro w' ⟨s0, s1, s2, s3, s4, s5⟩; go_simp; with_reducible rfl⟩) (h := ?_)
               refine one_ (i := 5) (N := some 46) (tf_ 6 1) rfl rfl (by kernel_rfl) (by decide) (fun K hK => ?_)
               refine goes_ Try.func93 (by kernel_rfl) rfl #[.agg #[.int .i64 ((rd_T63 l0 x30_2).f0), .int .i64 ((rd_T63 l0 x30_2).f1), .int .i64 ((rd_T63 l0 x30_2).f2), .int .i64 ((rd_T63 l0 x30_2).f3), .int .i64 ((rd_T63 l0 x30_2).f4)], .slice A334_0 (rd_L5 x3_2 x30_2).length c334_0] (by rfl) rfl rfl att16_0_8 ?_
               with_reducible refine (impl_behind.calls k2 ((rd_T63 l0 x30_2).f0) ((rd_T63 l0 x30_2).f1) ((rd_T63 l0 x30_2).f2) ((rd_T63 l0 x30_2).f3) ((rd_T63 l0 x30_2).f4) _ _ (rd_L5 x3_2 x30_2) t335 _ ?side1 ?side2 A27.out).mono ?_
               (case side1 => repeat (first | exact att16_0_17 | (with_reducible refine Kd.C_alloc ?_ _) | (with_reducible refine Kd.C_drewN ?_ _) | (with_reducible refine Kd.C_drew ?_)))
               (case side2 => exact HC334_0.out)
               rintro e w34 ⟨v336, rfl, ho0, hb⟩
               have HS5_ := (hb.cell (World.block_lt_of_cell? _ _ (hHeld.2.2.2.2.2))).trans (hHeld.2.2.2.2.2)
               refine ⟨_, rfl, ?_⟩
               have n0_ := Aside0.mk (Kd.S_elder' att16_0_11 (Kd.R_base ho0) hb)
               have n1_ := Aside0.mk (Kd.R_elder' att16_0_23 (Kd.R_base ho0) hb)
               have n2_ := Aside0.mk (Kd.R_elder' att16_0_22 (Kd.R_base ho0) hb)
               have n3_ := Aside0.mk (Kd.R_lower (Kd.R_newB (Kd.R_new' (Kd.R_new' ho0 (Kd.R_lt att16_0_23)) (Kd.R_lt att16_0_22)) (g := gb326) (o := .cells #[.bool true, .int .i64 0] 83 (0, 0)) att16_0_3) (below_size att16_0_0))
               have n4_ := Aside0.mk (blk_below (g := gb326) (o := .cells #[.bool true, .int .i64 0] 83 (0, 0)) att16_0_3 hb)
               have n5_ := Aside0.mk (blk_below (g := gb332) (o := .cells #[.int .i64 ((rd_T63 l0 x30_2).f0), .int .i64 ((rd_T63 l0 x30_2).f1), .int .i64 ((rd_T63 l0 x30_2).f2), .int .i64 ((rd_T63 l0 x30_2).f3), .int .i64 ((rd_T63 l0 x30_2).f4)] 63 (0, 0)) att16_0_13 hb)
               have n6_ := Aside0.mk (Kd.C_below att16_0_25 hb)
               have n7_ := Aside0.mk (Kd.C_below att16_0_17 hb)
               have n8_ := Aside0.mk (below_step att16_0_0 hb)
               clear HO_3
               clear HL333_0
               clear HL334_0
               clear BK326
               clear BK332
               clear HR333_0
               clear HR334_0
               clear HB
               have HO_3 := n0_
               have HL333_0 := n1_
               have HL334_0 := n2_
               have HO337 := n3_
               have BK326 := n4_
               have BK332 := n5_
               have HR333_0 := n6_
               have HR334_0 := n7_
               have HB := n8_
               clear n0_ n1_ n2_ n3_ n4_ n5_ n6_ n7_ n8_
               (try clear hb)
               (try clear hb2)
               (try clear hk)
               (try clear hi)
               (try clear ho0)
               refine hK.out _ _ ⟨(blk_cell BK332.out 0).trans rfl, (blk_cell BK332.out 1).trans rfl, (blk_cell BK332.out 2).trans rfl, (blk_cell BK332.out 3).trans rfl, (blk_cell BK332.out 4).trans rfl, HS5_⟩ (fun hHeld => ?_)
               clear hK K
               refine normP_ (h := ?_)
               refine pureP_ (i := 6) (N := some 8) (tf_ 7 0) (by kernel_rfl) (h := ?_)
               refine done_ (by kernel_rfl) ?_
               try go_wp2_with (first | ((with_reducible refine gate_callee (f := 78) rfl ?_); refine goesL_ (some 49) rfl rfl Try.func78 (by kernel_rfl) rfl #[.slice (some ad331) l0.length c0, .int .i64 x30_2] rfl att16_0_8 ?_; (with_reducible refine (impl_nextOf.calls _ _ l0 x30_2 t338 _ ?side1 ?side2 A28.out).mono ?_); (case side1 => repeat (first | exact (Kd.C_below HR0.out HB.out) | (with_reducible refine Kd.C_alloc ?_ _) | (with_reducible refine Kd.C_drewN ?_ _) | (with_reducible refine Kd.C_drew ?_))); (case side2 => exact HC0.out); rintro e w35 ⟨v339, rfl, ho0, hb⟩; refine ⟨_, rfl, ?_⟩; have n0_ := Aside0.mk (Kd.S_below att16_0_11 hb); have n1_ := Aside0.mk (Kd.R_below att16_0_23 hb); have n2_ := Aside0.mk (Kd.R_below att16_0_22 hb); have n3_ := Aside0.mk (Kd.R_below (by (with_reducible repeat (first | apply Kd.R_alloc | apply Kd.R_drewN | apply Kd.R_drew)); exact HO337.out) hb); have n4_ := Aside0.mk (Kd.R_lower ho0 (below_size att16_0_0)); have n5_ := Aside0.mk (blk_below (g := gb326) (o := .cells #[.bool true, .int .i64 0] 83 (0, 0)) att16_0_3 hb); have n6_ := Aside0.mk (blk_below (g := gb332) (o := .cells #[.int .i64 ((rd_T63 l0 x30_2).f0), .int .i64 ((rd_T63 l0 x30_2).f1), .int .i64 ((rd_T63 l0 x30_2).f2), .int .i64 ((rd_T63 l0 x30_2).f3), .int .i64 ((rd_T63 l0 x30_2).f4)] 63 (0, 0)) att16_0_13 hb); have n7_ := Aside0.mk (Kd.C_below att16_0_25 hb); have n8_ := Aside0.mk (Kd.C_below att16_0_17 hb); have n9_ := Aside0.mk (below_step att16_0_0 hb); clear HO_3; clear HL333_0; clear HL334_0; clear HO337; clear BK326; clear BK332; clear HR333_0; clear HR334_0; clear HB; have HO_3 := n0_; have HL333_0 := n1_; have HL334_0 := n2_; have HO337 := n3_; have HO340 := n4_; have BK326 := n5_; have BK332 := n6_; have HR333_0 := n7_; have HR334_0 := n8_; have HB := n9_; clear n0_ n1_ n2_ n3_ n4_ n5_ n6_ n7_ n8_ n9_; (try clear hb); (try clear hb2); (try clear hk); (try clear hi); (try clear ho0); obtain ⟨Ao36, co36, eo36⟩ := Kd.R_slice HO340.out; subst eo36))
               go_loopg [5, 51] k2 (fun kq v5 v51 w' => ∃ (x3_3 : List (List (S83))) (x5_3 : Bool) (x51_3 : Int), v5 = .bool x5_3 ∧ v51 = .int .i64 x51_3 ∧ Aside0 (impl_KnownAt.l2 kq l0 x3_3 x5_3 t335 l0 (l0.length : Int) x30_2 t338 (t338.length : Int) x51_3 = some r) ∧ Aside0 (kq ≤ k2) ∧ Aside0 (Kd.S (Kd.slice 83 k83) 81 w' w.heap.size (fun k_ => some k_ ≠ (v336 : Value).ownBlock ∧ k_ ≠ gb326) (.slice (some ⟨go7, 0, none⟩) x3_2.length co7) x3_3) ∧ Aside0 (Kd.R k83 83 w' w.heap.size (fun k_ => k_ ≠ gb326) v336 t335) ∧ Aside0 (Kd.R (Kd.int .i64) 3 w' w.heap.size (fun _ => True) (.slice Ao36 t338.length co36) t338) ∧ Aside0 (w'.heap[gb326]? = some (.cells #[.bool true, .int .i64 0] 83 (0, 0))) ∧ Aside0 (w'.heap[gb332]? = some (.cells #[.int .i64 ((rd_T63 l0 x30_2).f0), .int .i64 ((rd_T63 l0 x30_2).f1), .int .i64 ((rd_T63 l0 x30_2).f2), .int .i64 ((rd_T63 l0 x30_2).f3), .int .i64 ((rd_T63 l0 x30_2).f4)] 63 (0, 0))) ∧ Aside0 (Below w.heap.size w w'))
               case atStart => exact ⟨(x3_2), (x5_2), (0), att16_0_7, att16_0_7, H', ⟨Nat.le_refl _⟩, ⟨by (try simp only [hl3_1]); (try simp only [hl3_2]); (with_reducible repeat (first | apply Kd.S_alloc | apply Kd.S_drewN | apply Kd.S_drew)); exact Kd.S_mono HO_3.out (fun _ hk => ⟨hk.2, hk.1⟩)⟩, ⟨by (try simp only [hl3_1]); (try simp only [hl3_2]); (with_reducible repeat (first | apply Kd.R_alloc | apply Kd.R_drewN | apply Kd.R_drew)); exact Kd.R_mono HO337.out (fun _ hk => hk.2)⟩, ⟨by (try simp only [hl3_1]); (try simp only [hl3_2]); (with_reducible repeat (first | apply Kd.R_alloc | apply Kd.R_drewN | apply Kd.R_drew)); exact HO340.out⟩, ⟨att16_0_9⟩, ⟨by (try simp only [hl3_1]); (try simp only [hl3_2]); (with_reducible repeat (first | refine blk_drewN ?_ _ | refine blk_drew ?_ | refine blk_alloc ?_ _)); exact BK332.out⟩, ⟨att16_0_0⟩⟩
               case round =>
                clear H'
                try clear c1
                try clear hx1
                try clear hf1
                try clear c2
                try clear p2
                try clear c3
                try clear p3
                try clear q3
                try clear hx3
                try clear c4
                try clear c4b0
                try clear c4b1
                try clear c5
                try clear c5b0
                try clear c5b1
                try clear c6
                try clear c6b0
                try clear c6b1
                try clear p6
                try clear c7
                try clear p7
                try clear q7
                try clear hx7
                try clear qi7
                try clear hf7
                try clear c9
                try clear c15
                try clear hx15
                try clear hf15
                try clear c17
                try clear c18
                try clear c18b0
                try clear c19
                try clear c19b0
                try clear c20
                try clear c20b0
                try clear c21
                try clear c21b0
                try clear c22
                try clear c22b0
                try clear c22b1
                try clear c22b2
                try clear c24
                try clear c30
                try clear c33
                try clear p33
                try clear q33
                try clear hx33
                try clear c34
                try clear hcz12_0
                try clear hcz12_1
                try clear hcz25_0
                try clear hcz25_1
                try clear hcz25_2
                try clear hcz25_3
                try clear hcz25_4
                try clear hcz31_0
                try clear hcz31_1
                try clear hcz31_2
                try clear hcz31_3
                try clear hcz31_4
                try clear hfz12_0
                try clear hfz12_1
                try clear hfz25_0
                try clear hfz25_1
                try clear hfz25_2
                try clear hfz25_3
                try clear hfz25_4
                try clear hfz31_0
                try clear hfz31_1
                try clear hfz31_2
                try clear hfz31_3
                try clear hfz31_4
                try clear hx15_0
                try clear hx331_0
                try clear hx331_1
                try clear hx331_2
                try clear hx331_3
                try clear hx331_4
                try clear hx333_0
                try clear hx334_0
                try clear hx7_0
                try clear p2
                try clear p331
                try clear p333
                try clear p334
                try clear p7
                try clear q331
                try clear q333
                try clear q334
                try clear q7
                obtain ⟨x3_3, x5_3, x51_3, rfl, rfl, HA, HK3, HO_3, HO_8, HO_49, BK326, BK332, HB⟩ := hrel
                have hl3_3 := (Kd.S_reads' HO_3.out).1
                rw [hl3_3] at HO_3
                (try simp only [hl3_3])
                (try simp only [hl3_3] at BK326)
                (try simp only [hl3_3] at BK332)
                (try simp only [hl3_3] at HO_8)
                (try simp only [hl3_3] at HO_49)
                cases gk with
                | zero => exact absurd HA.out (by simp [impl_KnownAt.l2])
                | succ k3 =>
                 have H := HA.out
                 clear HA
                 simp only [impl_KnownAt.l2] at H
                 by_cases c37 : x51_3 < (t338.length : Int)
                 ·rw [if_pos c37] at H
                  have c37b0 : decide (x51_3 < (t338.length : Int)) = true := decide_eq_true c37
                  clear c37
                  by_cases c38 : 0 ≤ x51_3
                  ·rw [if_pos c38] at H
                   have c38b0 : decide (0 ≤ x51_3) = true := decide_eq_true c38
                   clear c38
                   by_cases c39 : x51_3 < (t338.length : Int)
                   ·rw [if_pos c39] at H
                    have c39b0 : decide (x51_3 < (t338.length : Int)) = true := decide_eq_true c39
                    clear c39
                    by_cases c40 : 0 ≤ (rd t338 x51_3)
                    ·rw [if_pos c40] at H
                     have c40b0 : decide (0 ≤ (rd t338 x51_3)) = true := decide_eq_true c40
                     clear c40
                     by_cases c41 : (rd t338 x51_3) < (x3_3.length : Int)
                     ·rw [if_pos c41] at H
                      have c41b0 : decide ((rd t338 x51_3) < (x3_3.length : Int)) = true := decide_eq_true c41
                      clear c41
                      by_cases c42 : ((rd_L5 x3_3 (rd t338 x51_3)).length : Int) = 0
                      ·rw [if_pos c42] at H
                       have c42b0 : (((rd_L5 x3_3 (rd t338 x51_3)).length : Int) == 0) = true := beq_iff_eq.mpr c42
                       have c42b1 : (((rd_L5 x3_3 (rd t338 x51_3)).length : Int) != 0) = false := bne_eq_false_iff_eq.mpr c42
                       clear c42
                       obtain ⟨y343, hy343⟩ : ∃ y_ : List (S83), y_ = (([] : List (S83))) := ⟨_, rfl⟩
                       replace H : (if y343.length + t335.length < 8796093022208 then (impl_KnownAt.l2 k3 l0 (x3_3.set ((rd t338 x51_3) : Int).toNat (y343 ++ t335)) true t335 l0 (l0.length : Int) x30_2 t338 (t338.length : Int) (wrap64 (x51_3 + 1))) else (none)) = some r := by first | (rw [hy343]; with_reducible exact H) | (have H2_ := (Option.bind_some _ _).symm.trans H; rw [hy343]; with_reducible exact H2_) | (have H2_ := (Option.bind_some _ _).symm.trans H; with_reducible exact H2_) | with_reducible exact H | (rw [hy343]; exact H) | exact H
                       have Ny343 := Aside0.mk hy343
                       clear hy343
                       by_cases c43 : y343.length + t335.length < 8796093022208
                       ·rw [if_pos c43] at H
                        have LMc43 := Aside0.mk c43
                        clear c43
                        obtain ⟨y346, hy346⟩ : ∃ y_ : List (S83), y_ = (y343 ++ t335) := ⟨_, rfl⟩
                        replace H : (impl_KnownAt.l2 k3 l0 (x3_3.set ((rd t338 x51_3) : Int).toNat y346) true t335 l0 (l0.length : Int) x30_2 t338 (t338.length : Int) (wrap64 (x51_3 + 1))) = some r := by first | (rw [hy346]; with_reducible exact H) | (have H2_ := (Option.bind_some _ _).symm.trans H; rw [hy346]; with_reducible exact H2_) | (have H2_ := (Option.bind_some _ _).symm.trans H; with_reducible exact H2_) | with_reducible exact H | (rw [hy346]; exact H) | exact H
                        have Ny346 := Aside0.mk hy346
                        clear hy346
                        obtain ⟨y349, hy349⟩ : ∃ y_ : List (List (S83)), y_ = (x3_3.set ((rd t338 x51_3) : Int).toNat y346) := ⟨_, rfl⟩
                        replace H : (impl_KnownAt.l2 k3 l0 y349 true t335 l0 (l0.length : Int) x30_2 t338 (t338.length : Int) (wrap64 (x51_3 + 1))) = some r := by first | (rw [hy349]; with_reducible exact H) | (have H2_ := (Option.bind_some _ _).symm.trans H; rw [hy349]; with_reducible exact H2_) | (have H2_ := (Option.bind_some _ _).symm.trans H; with_reducible exact H2_) | with_reducible exact H | (rw [hy349]; exact H) | exact H
                        have Ny349 := Aside0.mk hy349
                        clear hy349
                        have H' := Aside0.mk H
                        clear H
                        have p341 : 0 ≤ (x51_3 : Int) := of_decide_eq_true att16_0_1
                        have q341 : x51_3 < (t338.length : Int) := of_decide_eq_true att16_0_1
                        obtain ⟨ad341, e341, hx341_0⟩ := Kd.at_int (Kd.R_reads' HO_49.out).2.2 x51_3 p341 q341
                        cases e341
                        replace p341 := eq_true p341
                        replace q341 := eq_true q341
                        have p342 : 0 ≤ ((rd t338 x51_3) : Int) := of_decide_eq_true att16_0_1
                        have q342 : (rd t338 x51_3) < (x3_3.length : Int) := of_decide_eq_true att16_0_1
                        obtain ⟨ad342, A342_0, c342_0, e342, hx342_0, hl342_0, hi342_0⟩ := at_L5 (Kd.S_reads' HO_3.out).2.2 (rd t338 x51_3) p342 q342
                        obtain rfl : (⟨go7, 0, none⟩ : Addr) = ad342 := (by injection e342)
                        obtain ⟨ce342, hce342, hMe342, hcc342⟩ := Kd.S_get HO_3.out [] (rd t338 x51_3) p342 att16_1_0
                        obtain ⟨ve342_0, rfl, ge342_0⟩ := hMe342
                        have hv342_0 := hcc342 0 _ rfl
                        rw [Nat.add_zero, show ((Kd.slice 83 k83)).sz = 1 from rfl, Nat.mul_one] at hv342_0
                        replace hv342_0 := Option.some.inj (hv342_0.symm.trans hx342_0)
                        rw [hv342_0] at ge342_0
                        have HL342_0 := Aside0.mk (show Kd.R k83 83 _ _ _ _ (rd_L5 x3_3 (rd t338 x51_3)) from ge342_0)
                        clear hv342_0 ge342_0
                        clear hcc342 hce342
                        (first | simp only [add_plain] at hx342_0 | simp only [add_at] at hx342_0 | simp only [Addr.add, Nat.zero_add] at hx342_0 | skip)
                        have HR342_0 := Aside0.mk hi342_0
                        have HC342_0 := Aside0.mk hl342_0
                        clear hi342_0 hl342_0
                        replace p342 := eq_true p342
                        replace q342 := eq_true q342
                        go_wp2_with (first | ((with_reducible refine gate_dst (N := 63) rfl ?_); refine Kd.R_lit k83 _ 83 ?hg (N := 63) ?hd (xs := ([] : List (S83))) (inner := []) (ok := fun _ => True) (okp := fun _ => True) ?hr ?hp (fun _ hk => hk) trivial (Below.refl _ _) (Nat.le_refl _) (by simp) ?_; (case hd => rfl); (case hg => rfl); (case hr => first | (go_simp; done) | (go_simp; rfl)); (case hp => exact (Reps.none _ _)); intro v344 w45 ho46 hb hg_ hnew_; clear hg_ hnew_; (first | rw [← Ny343.out] at ho46 | (simp only [Int.reduceToNat] at ho46; rw [← Ny343.out] at ho46)); have n0_ := Aside0.mk (Kd.S_elder' att16_0_11 (Kd.R_base ho46) hb); have n1_ := Aside0.mk (Kd.R_elder' att16_0_16 (Kd.R_base ho46) hb); have n2_ := Aside0.mk (Kd.R_below att16_0_24 hb); have n3_ := Aside0.mk (Kd.R_elder' att16_0_21 (Kd.R_base ho46) hb); have n4_ := Aside0.mk (Kd.R_lower (Kd.R_newB (Kd.R_new' (Kd.R_new' ho46 (Kd.R_lt att16_0_16)) (Kd.R_lt att16_0_21)) (g := gb326) (o := .cells #[.bool true, .int .i64 0] 83 (0, 0)) att16_0_3) (below_size att16_0_0)); have n5_ := Aside0.mk (blk_below (g := gb326) (o := .cells #[.bool true, .int .i64 0] 83 (0, 0)) att16_0_3 hb); have n6_ := Aside0.mk (blk_below (g := gb332) (o := .cells #[.int .i64 ((rd_T63 l0 x30_2).f0), .int .i64 ((rd_T63 l0 x30_2).f1), .int .i64 ((rd_T63 l0 x30_2).f2), .int .i64 ((rd_T63 l0 x30_2).f3), .int .i64 ((rd_T63 l0 x30_2).f4)] 63 (0, 0)) att16_0_13 hb); have n7_ := Aside0.mk (Kd.C_below (by repeat (first | (with_reducible exact HR342_0.out) | (with_reducible refine Kd.C_alloc ?_ _) | (with_reducible refine Kd.C_drewN ?_ _) | (with_reducible refine Kd.C_drew ?_) | exact HR342_0.out)) hb); have n8_ := Aside0.mk (below_step att16_0_0 hb); clear HO_3; clear HO_8; clear HO_49; clear HL342_0; clear BK326; clear BK332; clear HR342_0; clear HB; have HO_3 := n0_; have HO_8 := n1_; have HO_49 := n2_; have HL342_0 := n3_; have HO345 := n4_; have BK326 := n5_; have BK332 := n6_; have HR342_0 := n7_; have HB := n8_; clear n0_ n1_ n2_ n3_ n4_ n5_ n6_ n7_ n8_; clear hb ho46; obtain ⟨Ao48, co48, eo48⟩ := Kd.R_slice HO_8.out; subst eo48) | ((with_reducible refine gate_builtin (b := .append) (xs := #[.tmp 63, .tmp 64]) rfl ?_); at_builtin; refine Kd.R_append_rows k83 (w0 := w) w.heap.size rfl (.tmp 63) (.tmp 64) 81 83 (.agg #[(.bool false), (.int .i64 0)]) 16 rfl Try.underlying81 info83 rfl (by decide) (by omega) v344 y343 t335 _ _ _ (fun k_ => some k_ ≠ (.slice Ao48 t335.length co48 : Value).ownBlock ∧ some k_ ≠ (.slice A342_0 (rd_L5 x3_3 (rd t338 x51_3)).length c342_0 : Value).ownBlock ∧ k_ ≠ gb326) (fun _ => False) rfl rfl ?aO ?aR (fun _ _ h => h) (fun _ h => h.elim) ?aF ?aB ?aS ?aL ?_; (case aR => repeat (first | exact (Kd.R_reads' HO_8.out).2.2 | (with_reducible refine Kd.C_alloc ?_ _) | (with_reducible refine Kd.C_drewN ?_ _) | (with_reducible refine Kd.C_drew ?_))); (case aB => exact att16_0_0); (case aF => exact (fun k_ hk => ⟨Kd.fresh' (Kd.R_lt att16_0_16) k_ hk, Kd.fresh' (Kd.R_lt att16_0_21) k_ hk, Kd.freshB (g := gb326) (o := .cells #[.bool true, .int .i64 0] 83 (0, 0)) att16_0_3 k_ hk⟩)); (case aO => exact (by (with_reducible repeat (first | apply Kd.R_alloc | apply Kd.R_drewN | apply Kd.R_drew)); exact Kd.R_mono HO345.out (fun _ hk => ⟨hk.1.1.2, ⟨hk.1.2, hk.2⟩⟩))); (case aS => exact (below_size att16_0_0)); (case aL => have := LMc43.out; omega); intro v347 w47 ho hb hg hat; rw [← Ny346.out] at ho; have n0_ := Aside0.mk (Kd.S_after (ok := (fun k_ => some k_ ≠ (.slice Ao48 t335.length co48 : Value).ownBlock ∧ k_ ≠ gb326)) att16_0_11 hg hat); have n1_ := Aside0.mk (Kd.R_after (ok := (fun k_ => k_ ≠ gb326)) att16_0_16 hg hat); have n2_ := Aside0.mk (Kd.R_over' att16_0_24 (Kd.R_typed (by (with_reducible repeat (first | apply Kd.R_alloc | apply Kd.R_drewN | apply Kd.R_drew)); exact HO345.out)) (by decide) hg); have n3_ := Aside0.mk (blk_grown (g := gb326) (o := .cells #[.bool true, .int .i64 0] 83 (0, 0)) att16_0_3 hg (Kd.R_away HO345.out (fun _ hk => hk.2))); have n4_ := Aside0.mk (blk_grown (g := gb332) (o := .cells #[.int .i64 ((rd_T63 l0 x30_2).f0), .int .i64 ((rd_T63 l0 x30_2).f1), .int .i64 ((rd_T63 l0 x30_2).f2), .int .i64 ((rd_T63 l0 x30_2).f3), .int .i64 ((rd_T63 l0 x30_2).f4)] 63 (0, 0)) att16_0_13 hg (Kd.R_ne HO345.out BK332.out (by decide))); have n5_ := Aside0.mk (Kd.R_after (ok := (fun k_ => some k_ ≠ (.slice (some ⟨go7, 0, none⟩) x3_3.length co7 : Value).ownBlock ∧ some k_ ≠ (.slice Ao48 t335.length co48 : Value).ownBlock ∧ k_ ≠ gb326)) (by (with_reducible repeat (first | apply Kd.R_alloc | apply Kd.R_drewN | apply Kd.R_drew)); exact Kd.R_mono HL342_0.out (fun _ hk => ⟨⟨hk.1.2, ⟨hk.1.1.1, hk.1.1.2⟩⟩, hk.2⟩)) hg hat); have n6_ := Aside0.mk (hb); have n7_ := Aside0.mk (ho); clear HO_3; clear HO_8; clear HO_49; clear BK326; clear BK332; clear HL342_0; clear HB; clear HO345; have HO_3 := n0_; have HO_8 := n1_; have HO_49 := n2_; have BK326 := n3_; have BK332 := n4_; have HL342_0 := n5_; have HB := n6_; have HO348 := n7_; clear n0_ n1_ n2_ n3_ n4_ n5_ n6_ n7_; clear ho hb hg hat; obtain ⟨Aq347, cq347, eq347⟩ := Kd.R_slice HO348.out; subst eq347; have p44 : 0 ≤ ((rd t338 x51_3) : Int) := of_decide_eq_true att16_0_1; have q44 : ((rd t338 x51_3) : Int) < ((x3_3.length : Int) : Int) := of_decide_eq_true att16_0_1; obtain ⟨_, ce44, hcl44, hM44, hcc44, hfr44, _, _⟩ := Kd.S_elem HO_3.out [] ((rd t338 x51_3) : Int) p44 q44; obtain ⟨ve44_0, rfl, ge44_0⟩ := hM44; have hx44_0 := hcc44 0 _ rfl; have hf44_0 := hfr44 0; (try simp only [show ((Kd.slice 83 k83)).sz = 1 from rfl, Nat.mul_one, Nat.add_zero] at hx44_0); (try simp only [show ((Kd.slice 83 k83)).sz = 1 from rfl, Nat.mul_one, Nat.add_zero] at hf44_0); clear hcl44 hcc44 hfr44 ; replace p44 := eq_true p44; replace q44 := eq_true q44; have n_ := Aside0.mk (Kd.S_mono (ok' := (fun k_ => some k_ ≠ (.slice Ao48 t335.length co48 : Value).ownBlock ∧ some k_ ≠ ((.slice Aq347 y346.length cq347) : Value).ownBlock ∧ k_ ≠ gb326)) HO_3.out (fun k_ hk => ⟨hk.1.1, ⟨hk.2, hk.1.2⟩⟩)); clear HO_3; have HO_3 := n_; clear n_; have HX49 := Aside0.mk (show Kd.S (Kd.slice 83 k83) 81 w47 w.heap.size (fun k_ => ((fun k_ => some k_ ≠ (.slice Ao48 t335.length co48 : Value).ownBlock ∧ k_ ≠ gb326)) k_ ∧ ¬ ((fun k_ => some k_ = ((.slice Aq347 y346.length cq347) : Value).ownBlock)) k_) (.slice (some ⟨go7, 0, none⟩) x3_3.length co7) x3_3 from (by (with_reducible repeat (first | apply Kd.S_alloc | apply Kd.S_drewN | apply Kd.S_drew)); exact Kd.S_mono HO_3.out (fun k_ hk => ⟨⟨hk.1, hk.2.2⟩, fun e_ => hk.2.1 e_⟩))); obtain ⟨oki49, ce49, hcl49, hM49, hcc49, hfr49, hoki49, hH49⟩ := Kd.S_elem HX49.out [] ((rd t338 x51_3) : Int) (of_decide_eq_true att16_0_1) att16_1_1; obtain ⟨ve49_0, rfl, ge49_0⟩ := hM49; have HP49 := Kd.S_seg hH49 (of_decide_eq_true att16_0_1) att16_1_1 (seg := [(.slice Aq347 y346.length cq347)]) (j := 0) (show 1 ≤ 1 from by decide) (x' := y346) (Kd.M_row (Kd.R_mono (Kd.R_tight rfl (Kd.R_mono (ok' := fun k_ => ((fun k_ => some k_ ≠ (.slice Ao48 t335.length co48 : Value).ownBlock ∧ k_ ≠ gb326)) k_ ∧ k_ ≠ go7) (Kd.R_apart' (HO348.out) (Kd.S_typed HO_3.out) (by decide)) (fun k_ hk => ⟨⟨hk.1.1, hk.1.2.2⟩, fun e_ => (hk.2) (by rw [e_]; rfl)⟩))) (fun _ h_ => Or.inr (h_)))) (fun _ hk => hk) (fun k_ hk_ => ((Kd.R_mono (ok' := fun k_ => ((fun k_ => some k_ ≠ (.slice Ao48 t335.length co48 : Value).ownBlock ∧ k_ ≠ gb326)) k_ ∧ k_ ≠ go7) (Kd.R_apart' (HO348.out) (Kd.S_typed HO_3.out) (by decide)) (fun k_ hk => ⟨⟨hk.1.1, hk.1.2.2⟩, fun e_ => (hk.2) (by rw [e_]; rfl)⟩))).1 k_ hk_.symm); have hx49_0 := hcc49 0 _ rfl; (try simp only [show ((Kd.slice 83 k83)).sz = 1 from rfl, Nat.mul_one, Nat.add_zero] at hx49_0); have hf49_0 := hfr49 0; (try simp only [show ((Kd.slice 83 k83)).sz = 1 from rfl, Nat.mul_one, Nat.add_zero] at hf49_0); clear hcl49 hcc49 hfr49 hoki49 hH49; (try simp only [show ((Kd.slice 83 k83)).sz = 1 from rfl, Nat.mul_one, Nat.add_zero] at HP49)) | ((with_reducible refine gate_store (t := 81) (p := 66) rfl ?_); refine store_event (t := 81) (p := 66) (v := ?vo_w50) (w1 := (w47.setCell ⟨go7, ((rd t338 x51_3) : Int).toNat, none⟩ ((.slice Aq347 y346.length cq347)))) ?hg ?ho ?hn ?hr ?_; (case ho => rfl); (case hg => rfl); (case hn => rfl); (case hr => first | (go_simp; done) | (go_simp; rfl)); intro w50 hw; have hg : w47.grownBy w50 (some go7) := (by rw [hw]; exact HP49.2); have hp_ : Kd.S (Kd.slice 83 k83) 81 w50 w.heap.size (fun k_ => some k_ ≠ (.slice Ao48 t335.length co48 : Value).ownBlock ∧ k_ ≠ gb326) (.slice (some ⟨go7, 0, none⟩) x3_3.length co7) y349 := (by rw [hw, Ny349.out]; exact HP49.1); clear HP49; have n0_ := Aside0.mk (hp_); have n1_ := Aside0.mk (Kd.R_over' (v := (.slice (some ⟨go7, 0, none⟩) x3_3.length co7)) att16_0_16 (Kd.S_typed HO_3.out) (by decide) hg); have n2_ := Aside0.mk (Kd.R_over' (v := (.slice (some ⟨go7, 0, none⟩) x3_3.length co7)) att16_0_24 (Kd.S_typed HO_3.out) (by decide) hg); have n3_ := Aside0.mk (blk_grown (g := gb326) (o := .cells #[.bool true, .int .i64 0] 83 (0, 0)) att16_0_3 hg (Kd.S_ne HO_3.out BK326.out (by decide))); have n4_ := Aside0.mk (blk_grown (g := gb332) (o := .cells #[.int .i64 ((rd_T63 l0 x30_2).f0), .int .i64 ((rd_T63 l0 x30_2).f1), .int .i64 ((rd_T63 l0 x30_2).f2), .int .i64 ((rd_T63 l0 x30_2).f3), .int .i64 ((rd_T63 l0 x30_2).f4)] 63 (0, 0)) att16_0_13 hg (Kd.S_ne HO_3.out BK332.out (by decide))); have n5_ := Aside0.mk (Kd.R_after (v := (.slice (some ⟨go7, 0, none⟩) x3_3.length co7)) (v1 := (.slice (some ⟨go7, 0, none⟩) x3_3.length co7)) (ok := (fun k_ => some k_ ≠ (.slice Ao48 t335.length co48 : Value).ownBlock ∧ some k_ ≠ ((.slice Aq347 y346.length cq347) : Value).ownBlock ∧ k_ ≠ gb326)) (by (with_reducible repeat (first | apply Kd.R_alloc | apply Kd.R_drewN | apply Kd.R_drew)); exact Kd.R_mono HL342_0.out (fun _ hk => ⟨⟨hk.1.2.1, ⟨hk.2, hk.1.2.2⟩⟩, hk.1.1⟩)) hg (.inl rfl)); have n6_ := Aside0.mk ((by rw [hw]; exact below_set (HB.out) GB7.out : Below w.heap.size w w50)); clear HO_3; clear HO_8; clear HO_49; clear BK326; clear BK332; clear HL342_0; clear HB; clear HO348; have HO_3 := n0_; have HO_8 := n1_; have HO_49 := n2_; have BK326 := n3_; have BK332 := n4_; have HL342_0 := n5_; have HB := n6_; clear n0_ n1_ n2_ n3_ n4_ n5_ n6_; clear hg hw hp_))
                        (try simp only [← hl3_3])
                        go_roundg k3
                        case measure => have := HK1.out; have := HK2.out; have := HK3.out; omega
                        case rel => exact ⟨(y349), (true), (wrap64 (x51_3 + 1)), att16_0_7, att16_0_7, H', ⟨att16_0_27⟩, ⟨att16_0_20⟩, ⟨by (try simp only [hl3_1]); (try simp only [hl3_2]); (try simp only [hl3_3]); (with_reducible repeat (first | apply Kd.R_alloc | apply Kd.R_drewN | apply Kd.R_drew)); exact Kd.R_mono HO_8.out (fun _ hk => hk.1)⟩, ⟨att16_0_19⟩, ⟨att16_0_12⟩, ⟨att16_0_18⟩, ⟨att16_0_0⟩⟩
                       ·rw [if_neg c43] at H
                        exact absurd H (by simp)
                      ·rw [if_neg c42] at H
                       have c42b0 : (((rd_L5 x3_3 (rd t338 x51_3)).length : Int) == 0) = false := beq_eq_false_iff_ne.mpr c42
                       have c42b1 : (((rd_L5 x3_3 (rd t338 x51_3)).length : Int) != 0) = true := bne_iff_ne.mpr c42
                       have c42b2 : ¬ ((rd_L5 x3_3 (rd t338 x51_3)) = []) := fun h_ => c42 (by rw [h_]; rfl)
                       replace H := Option.bind_eq_some_iff.mp H
                       obtain ⟨t351, A510, H⟩ := H
                       (try dsimp only at H)
                       have A51 := Aside0.mk A510
                       clear A510
                       by_cases c52 : x5_3 = true
                       ·subst c52
                        rw [if_pos rfl] at H
                        have H' := Aside0.mk H
                        clear H
                        have p341 : 0 ≤ (x51_3 : Int) := of_decide_eq_true att16_0_1
                        have q341 : x51_3 < (t338.length : Int) := of_decide_eq_true att16_0_1
                        obtain ⟨ad341, e341, hx341_0⟩ := Kd.at_int (Kd.R_reads' HO_49.out).2.2 x51_3 p341 q341
                        cases e341
                        replace p341 := eq_true p341
                        replace q341 := eq_true q341
                        have p342 : 0 ≤ ((rd t338 x51_3) : Int) := of_decide_eq_true att16_0_1
                        have q342 : (rd t338 x51_3) < (x3_3.length : Int) := of_decide_eq_true att16_0_1
                        obtain ⟨ad342, A342_0, c342_0, e342, hx342_0, hl342_0, hi342_0⟩ := at_L5 (Kd.S_reads' HO_3.out).2.2 (rd t338 x51_3) p342 q342
                        obtain rfl : (⟨go7, 0, none⟩ : Addr) = ad342 := (by injection e342)
                        obtain ⟨ce342, hce342, hMe342, hcc342⟩ := Kd.S_get HO_3.out [] (rd t338 x51_3) p342 att16_1_0
                        obtain ⟨ve342_0, rfl, ge342_0⟩ := hMe342
                        have hv342_0 := hcc342 0 _ rfl
                        rw [Nat.add_zero, show ((Kd.slice 83 k83)).sz = 1 from rfl, Nat.mul_one] at hv342_0
                        replace hv342_0 := Option.some.inj (hv342_0.symm.trans hx342_0)
                        rw [hv342_0] at ge342_0
                        have HL342_0 := Aside0.mk (show Kd.R k83 83 _ _ _ _ (rd_L5 x3_3 (rd t338 x51_3)) from ge342_0)
                        clear hv342_0 ge342_0
                        clear hcc342 hce342
                        (first | simp only [add_plain] at hx342_0 | simp only [add_at] at hx342_0 | simp only [Addr.add, Nat.zero_add] at hx342_0 | skip)
                        have HR342_0 := Aside0.mk hi342_0
                        have HC342_0 := Aside0.mk hl342_0
                        clear hi342_0 hl342_0
                        replace p342 := eq_true p342
                        replace q342 := eq_true q342
                        have p350 : 0 ≤ ((rd t338 x51_3) : Int) := of_decide_eq_true att16_0_1
                        have q350 : (rd t338 x51_3) < (x3_3.length : Int) := of_decide_eq_true att16_0_1
                        obtain ⟨ad350, A350_0, c350_0, e350, hx350_0, hl350_0, hi350_0⟩ := at_L5 (Kd.S_reads' HO_3.out).2.2 (rd t338 x51_3) p350 q350
                        obtain rfl : (⟨go7, 0, none⟩ : Addr) = ad350 := (by injection e350)
                        obtain ⟨ce350, hce350, hMe350, hcc350⟩ := Kd.S_get HO_3.out [] (rd t338 x51_3) p350 att16_1_6
                        obtain ⟨ve350_0, rfl, ge350_0⟩ := hMe350
                        have hv350_0 := hcc350 0 _ rfl
                        rw [Nat.add_zero, show ((Kd.slice 83 k83)).sz = 1 from rfl, Nat.mul_one] at hv350_0
                        replace hv350_0 := Option.some.inj (hv350_0.symm.trans hx350_0)
                        rw [hv350_0] at ge350_0
                        have HL350_0 := Aside0.mk (show Kd.R k83 83 _ _ _ _ (rd_L5 x3_3 (rd t338 x51_3)) from ge350_0)
                        clear hv350_0 ge350_0
                        clear hcc350 hce350
                        (first | simp only [add_plain] at hx350_0 | simp only [add_at] at hx350_0 | simp only [Addr.add, Nat.zero_add] at hx350_0 | skip)
                        have HR350_0 := Aside0.mk hi350_0
                        have HC350_0 := Aside0.mk hl350_0
                        clear hi350_0 hl350_0
                        replace p350 := eq_true p350
                        replace q350 := eq_true q350
                        have ea_ := Option.some.inj (hx342_0.symm.trans hx350_0)
                        injection ea_ with ea_ en_ ec_
                        subst ea_
                        subst ec_
                        clear en_
                        obtain ⟨Ao53, co53, eo53⟩ := Kd.R_slice HO_8.out
                        subst eo53
                        go_wp2_with (first | ((with_reducible refine gate_callee (f := 94) rfl ?_); refine goesL_ (some 72) rfl rfl Try.func94 (by kernel_rfl) rfl #[.slice A342_0 (rd_L5 x3_3 (rd t338 x51_3)).length c342_0, .slice Ao53 t335.length co53] rfl att16_0_8 ?_; obtain ⟨oki, cc, hcl, hM, hcc, hoki, hH⟩ := Kd.S_lend HO_3.out [] (rd t338 x51_3) (of_decide_eq_true att16_0_1) att16_1_2; obtain ⟨ui, rfl, hRi⟩ := hM; have hxi := hcc 0 _ rfl; rw [Nat.add_zero, show ((Kd.slice 83 k83)).sz = 1 from rfl, Nat.mul_one] at hxi; obtain rfl := Option.some.inj (hxi.symm.trans (by first | exact hx342_0 | assumption)); have hTi : Kd.R k83 83 _ w.heap.size (fun k_ => some k_ = (.slice A342_0 (rd_L5 x3_3 (rd t338 x51_3)).length c342_0 : Value).ownBlock) (.slice A342_0 (rd_L5 x3_3 (rd t338 x51_3)).length c342_0) (rd_L5 x3_3 (rd t338 x51_3)) := Kd.R_tight rfl hRi; have hOi : Kd.R k83 83 _ w.heap.size (fun k_ => ¬ (some k_ = (.slice A342_0 (rd_L5 x3_3 (rd t338 x51_3)).length c342_0 : Value).ownBlock)) (.slice Ao53 t335.length co53) t335 := Kd.R_mono (Kd.R_tight rfl HO_8.out) (fun k_ hk ho => (hoki k_ (own_ok hRi k_ ho.symm)).1.1 hk); (with_reducible refine (impl_meet.calls k3 (fun k_ => some k_ = (.slice A342_0 (rd_L5 x3_3 (rd t338 x51_3)).length c342_0 : Value).ownBlock) (.slice A342_0 (rd_L5 x3_3 (rd t338 x51_3)).length c342_0) (rd_L5 x3_3 (rd t338 x51_3)) _ _ t335 t351 w _ att16_0_33 hTi hOi A51.out).mono ?_); rintro e w54_ ⟨rfl, hR', hb', hK'⟩; refine ⟨_, rfl, ?_⟩; have n0_ := Aside0.mk (Kd.H_back (Kd.H_step hH (fun k_ hk hn hlt => hK'.2 k_ hlt (fun he => hn (own_ok hRi k_ he.symm)))) (x' := t351.2) ⟨_, rfl, hR'⟩ (fun k_ hk => own_ok hRi k_ hk.symm)); have n1_ := Aside0.mk (Kd.R_mono (ok' := fun k_ => k_ ≠ gb326) (Kd.R_step (Kd.R_tight rfl HO_8.out) (fun k_ hk hlt => hK'.2 k_ hlt (fun he => (hoki k_ (own_ok hRi k_ he.symm)).1.1 hk))) (fun k_ hk => own_ok HO_8.out k_ hk.symm)); have n2_ := Aside0.mk (Kd.R_mono (ok' := fun _ => True) (Kd.R_step (Kd.R_apart' HO_49.out (Kd.R_typed hTi) (by decide)) (fun k_ hk hlt => hK'.2 k_ hlt hk.2)) (fun _ _ => trivial)); have n3_ := Aside0.mk ((hK'.2 gb326 (blk_lt BK326.out) (fun he => (hoki _ (own_ok hRi _ he.symm)).1.2 rfl)).trans BK326.out); have n4_ := Aside0.mk ((hK'.2 gb332 (blk_lt BK332.out) (Kd.R_ne hTi BK332.out (by decide))).trans BK332.out); have n5_ := Aside0.mk hb'; clear hR' hb' hK' hoki hOi hRi hTi hH hcl hcc hxi; (try clear HO_3); (try clear HO_8); (try clear HO_49); (try clear HL342_0); (try clear HL350_0); (try clear BK326); (try clear BK332); (try clear HR342_0); (try clear HR350_0); (try clear HB); have HO_3 := n0_; have HO_8 := n1_; have HO_49 := n2_; have BK326 := n3_; have BK332 := n4_; have HB := n5_; clear n0_ n1_ n2_ n3_ n4_ n5_))
                        (try simp only [← hl3_3])
                        go_roundg k3
                        case measure => have := HK1.out; have := HK2.out; have := HK3.out; omega
                        case rel => exact ⟨((x3_3.set ((rd t338 x51_3) : Int).toNat t351.2)), (true), (wrap64 (x51_3 + 1)), att16_0_7, att16_0_7, H', ⟨att16_0_27⟩, ⟨att16_0_20⟩, ⟨att16_0_26⟩, ⟨att16_0_19⟩, ⟨att16_0_12⟩, ⟨att16_0_18⟩, ⟨att16_0_0⟩⟩
                       ·replace c52 := Bool.eq_false_iff.mpr c52
                        subst c52
                        rw [if_neg (show ¬ (false = true) by decide)] at H
                        have H' := Aside0.mk H
                        clear H
                        have p341 : 0 ≤ (x51_3 : Int) := of_decide_eq_true att16_0_1
                        have q341 : x51_3 < (t338.length : Int) := of_decide_eq_true att16_0_1
                        obtain ⟨ad341, e341, hx341_0⟩ := Kd.at_int (Kd.R_reads' HO_49.out).2.2 x51_3 p341 q341
                        cases e341
                        replace p341 := eq_true p341
                        replace q341 := eq_true q341
                        have p342 : 0 ≤ ((rd t338 x51_3) : Int) := of_decide_eq_true att16_0_1
                        have q342 : (rd t338 x51_3) < (x3_3.length : Int) := of_decide_eq_true att16_0_1
                        obtain ⟨ad342, A342_0, c342_0, e342, hx342_0, hl342_0, hi342_0⟩ := at_L5 (Kd.S_reads' HO_3.out).2.2 (rd t338 x51_3) p342 q342
                        obtain rfl : (⟨go7, 0, none⟩ : Addr) = ad342 := (by injection e342)
                        obtain ⟨ce342, hce342, hMe342, hcc342⟩ := Kd.S_get HO_3.out [] (rd t338 x51_3) p342 att16_1_0
                        obtain ⟨ve342_0, rfl, ge342_0⟩ := hMe342
                        have hv342_0 := hcc342 0 _ rfl
                        rw [Nat.add_zero, show ((Kd.slice 83 k83)).sz = 1 from rfl, Nat.mul_one] at hv342_0
                        replace hv342_0 := Option.some.inj (hv342_0.symm.trans hx342_0)
                        rw [hv342_0] at ge342_0
                        have HL342_0 := Aside0.mk (show Kd.R k83 83 _ _ _ _ (rd_L5 x3_3 (rd t338 x51_3)) from ge342_0)
                        clear hv342_0 ge342_0
                        clear hcc342 hce342
                        (first | simp only [add_plain] at hx342_0 | simp only [add_at] at hx342_0 | simp only [Addr.add, Nat.zero_add] at hx342_0 | skip)
                        have HR342_0 := Aside0.mk hi342_0
                        have HC342_0 := Aside0.mk hl342_0
                        clear hi342_0 hl342_0
                        replace p342 := eq_true p342
                        replace q342 := eq_true q342
                        have p350 : 0 ≤ ((rd t338 x51_3) : Int) := of_decide_eq_true att16_0_1
                        have q350 : (rd t338 x51_3) < (x3_3.length : Int) := of_decide_eq_true att16_0_1
                        obtain ⟨ad350, A350_0, c350_0, e350, hx350_0, hl350_0, hi350_0⟩ := at_L5 (Kd.S_reads' HO_3.out).2.2 (rd t338 x51_3) p350 q350
                        obtain rfl : (⟨go7, 0, none⟩ : Addr) = ad350 := (by injection e350)
                        obtain ⟨ce350, hce350, hMe350, hcc350⟩ := Kd.S_get HO_3.out [] (rd t338 x51_3) p350 att16_1_6
                        obtain ⟨ve350_0, rfl, ge350_0⟩ := hMe350
                        have hv350_0 := hcc350 0 _ rfl
                        rw [Nat.add_zero, show ((Kd.slice 83 k83)).sz = 1 from rfl, Nat.mul_one] at hv350_0
                        replace hv350_0 := Option.some.inj (hv350_0.symm.trans hx350_0)
                        rw [hv350_0] at ge350_0
                        have HL350_0 := Aside0.mk (show Kd.R k83 83 _ _ _ _ (rd_L5 x3_3 (rd t338 x51_3)) from ge350_0)
                        clear hv350_0 ge350_0
                        clear hcc350 hce350
                        (first | simp only [add_plain] at hx350_0 | simp only [add_at] at hx350_0 | simp only [Addr.add, Nat.zero_add] at hx350_0 | skip)
                        have HR350_0 := Aside0.mk hi350_0
                        have HC350_0 := Aside0.mk hl350_0
                        clear hi350_0 hl350_0
                        replace p350 := eq_true p350
                        replace q350 := eq_true q350
                        have ea_ := Option.some.inj (hx342_0.symm.trans hx350_0)
                        injection ea_ with ea_ en_ ec_
                        subst ea_
                        subst ec_
                        clear en_
                        obtain ⟨Ao55, co55, eo55⟩ := Kd.R_slice HO_8.out
                        subst eo55
                        go_wp2_with (first | ((with_reducible refine gate_callee (f := 94) rfl ?_); refine goesL_ (some 72) rfl rfl Try.func94 (by kernel_rfl) rfl #[.slice A342_0 (rd_L5 x3_3 (rd t338 x51_3)).length c342_0, .slice Ao55 t335.length co55] rfl att16_0_8 ?_; obtain ⟨oki, cc, hcl, hM, hcc, hoki, hH⟩ := Kd.S_lend HO_3.out [] (rd t338 x51_3) (of_decide_eq_true att16_0_1) att16_1_2; obtain ⟨ui, rfl, hRi⟩ := hM; have hxi := hcc 0 _ rfl; rw [Nat.add_zero, show ((Kd.slice 83 k83)).sz = 1 from rfl, Nat.mul_one] at hxi; obtain rfl := Option.some.inj (hxi.symm.trans (by first | exact hx342_0 | assumption)); have hTi : Kd.R k83 83 _ w.heap.size (fun k_ => some k_ = (.slice A342_0 (rd_L5 x3_3 (rd t338 x51_3)).length c342_0 : Value).ownBlock) (.slice A342_0 (rd_L5 x3_3 (rd t338 x51_3)).length c342_0) (rd_L5 x3_3 (rd t338 x51_3)) := Kd.R_tight rfl hRi; have hOi : Kd.R k83 83 _ w.heap.size (fun k_ => ¬ (some k_ = (.slice A342_0 (rd_L5 x3_3 (rd t338 x51_3)).length c342_0 : Value).ownBlock)) (.slice Ao55 t335.length co55) t335 := Kd.R_mono (Kd.R_tight rfl HO_8.out) (fun k_ hk ho => (hoki k_ (own_ok hRi k_ ho.symm)).1.1 hk); (with_reducible refine (impl_meet.calls k3 (fun k_ => some k_ = (.slice A342_0 (rd_L5 x3_3 (rd t338 x51_3)).length c342_0 : Value).ownBlock) (.slice A342_0 (rd_L5 x3_3 (rd t338 x51_3)).length c342_0) (rd_L5 x3_3 (rd t338 x51_3)) _ _ t335 t351 w _ att16_0_33 hTi hOi A51.out).mono ?_); rintro e w54_ ⟨rfl, hR', hb', hK'⟩; refine ⟨_, rfl, ?_⟩; have n0_ := Aside0.mk (Kd.H_back (Kd.H_step hH (fun k_ hk hn hlt => hK'.2 k_ hlt (fun he => hn (own_ok hRi k_ he.symm)))) (x' := t351.2) ⟨_, rfl, hR'⟩ (fun k_ hk => own_ok hRi k_ hk.symm)); have n1_ := Aside0.mk (Kd.R_mono (ok' := fun k_ => k_ ≠ gb326) (Kd.R_step (Kd.R_tight rfl HO_8.out) (fun k_ hk hlt => hK'.2 k_ hlt (fun he => (hoki k_ (own_ok hRi k_ he.symm)).1.1 hk))) (fun k_ hk => own_ok HO_8.out k_ hk.symm)); have n2_ := Aside0.mk (Kd.R_mono (ok' := fun _ => True) (Kd.R_step (Kd.R_apart' HO_49.out (Kd.R_typed hTi) (by decide)) (fun k_ hk hlt => hK'.2 k_ hlt hk.2)) (fun _ _ => trivial)); have n3_ := Aside0.mk ((hK'.2 gb326 (blk_lt BK326.out) (fun he => (hoki _ (own_ok hRi _ he.symm)).1.2 rfl)).trans BK326.out); have n4_ := Aside0.mk ((hK'.2 gb332 (blk_lt BK332.out) (Kd.R_ne hTi BK332.out (by decide))).trans BK332.out); have n5_ := Aside0.mk hb'; clear hR' hb' hK' hoki hOi hRi hTi hH hcl hcc hxi; (try clear HO_3); (try clear HO_8); (try clear HO_49); (try clear HL342_0); (try clear HL350_0); (try clear BK326); (try clear BK332); (try clear HR342_0); (try clear HR350_0); (try clear HB); have HO_3 := n0_; have HO_8 := n1_; have HO_49 := n2_; have BK326 := n3_; have BK332 := n4_; have HB := n5_; clear n0_ n1_ n2_ n3_ n4_ n5_))
                        (try simp only [← hl3_3])
                        go_roundg k3
                        case measure => have := HK1.out; have := HK2.out; have := HK3.out; omega
                        case rel => exact ⟨((x3_3.set ((rd t338 x51_3) : Int).toNat t351.2)), (t351.1), (wrap64 (x51_3 + 1)), att16_0_7, att16_0_7, H', ⟨att16_0_27⟩, ⟨att16_0_20⟩, ⟨att16_0_26⟩, ⟨att16_0_19⟩, ⟨att16_0_12⟩, ⟨att16_0_18⟩, ⟨att16_0_0⟩⟩
                     ·rw [if_neg c41] at H
                      exact absurd H (by simp)
                    ·rw [if_neg c40] at H
                     exact absurd H (by simp)
                   ·rw [if_neg c39] at H
                    exact absurd H (by simp)
                  ·rw [if_neg c38] at H
                   exact absurd H (by simp)
                 ·rw [if_neg c37] at H
                  have c37b0 : decide (x51_3 < (t338.length : Int)) = false := decide_eq_false c37
                  clear c37
                  have H' := Aside0.mk H
                  clear H
                  go_wp2
                  (try simp only [← hl3_2, ← hl3_3])
                  go_roundg k3
                  case measure => have := HK1.out; have := HK2.out; have := HK3.out; omega
                  case rel => exact ⟨(x3_3), (x5_3), (wrap64 (x30_2 + 1)), att16_0_7, att16_0_7, H', ⟨att16_0_27⟩, ⟨by (try simp only [hl3_1]); (try simp only [hl3_2]); (try simp only [hl3_3]); (with_reducible repeat (first | apply Kd.S_alloc | apply Kd.S_drewN | apply Kd.S_drew)); exact Kd.S_mono HO_3.out (fun _ hk => hk.2)⟩, ⟨att16_0_12⟩, ⟨att16_0_0⟩⟩
             ·rw [if_neg c21] at H
              exact absurd H (by simp)
            ·rw [if_neg c20] at H
             exact absurd H (by simp)
           ·rw [if_neg c19] at H
            exact absurd H (by simp)
          ·rw [if_neg c18] at H
           have c18b0 : decide (x30_2 < (l0.length : Int)) = false := decide_eq_false c18
           clear c18
           have H' := Aside0.mk H
           clear H
           go_wp2
           (try simp only [← hl3_1, ← hl3_2])
           go_roundg k2
           case measure => have := HK1.out; have := HK2.out; omega
           case rel => exact ⟨(x3_2), (x5_2), att16_0_7, H', ⟨att16_0_30⟩, ⟨att16_0_14⟩, ⟨att16_0_9⟩, ⟨att16_0_2⟩⟩
       ·replace c17 := Bool.eq_false_iff.mpr c17
        subst c17
        rw [if_neg (show ¬ (false = true) by decide)] at H
        have H' := Aside0.mk H
        clear H
        go_wp2
        go_loopg [81] k1 (fun kq v81 w' => ∃ (x3_2 : List (List (S83))) (x81_2 : Int), v81 = .int .i64 x81_2 ∧ Aside0 (impl_KnownAt.l3 kq x3_2 (x3_1.length : Int) x81_2 = some r) ∧ Aside0 (kq ≤ k1) ∧ Aside0 (Kd.S (Kd.slice 83 k83) 81 w' w.heap.size (fun k_ => k_ ≠ gb326) (.slice (some ⟨go7, 0, none⟩) x3_1.length co7) x3_2) ∧ Aside0 (w'.heap[gb326]? = some (.cells #[.bool true, .int .i64 0] 83 (0, 0))) ∧ Aside0 (Below w.heap.size w w'))
        case atStart => exact ⟨(x3_1), (0), att16_0_7, H', ⟨Nat.le_refl _⟩, ⟨att16_0_29⟩, ⟨att16_0_28⟩, ⟨att16_0_2⟩⟩
        case round =>
         clear H'
         try clear c1
         try clear hx1
         try clear hf1
         try clear c2
         try clear p2
         try clear c3
         try clear p3
         try clear q3
         try clear hx3
         try clear c4
         try clear c4b0
         try clear c4b1
         try clear p4
         try clear q4
         try clear hx4
         try clear hf4
         try clear c5
         try clear c5b0
         try clear c5b1
         try clear c6
         try clear c6b0
         try clear c6b1
         try clear p6
         try clear c7
         try clear p7
         try clear q7
         try clear hx7
         try clear qi7
         try clear hf7
         try clear c9
         try clear c15
         try clear hx15
         try clear hf15
         try clear c17
         try clear c18
         try clear c18b0
         try clear c19
         try clear c19b0
         try clear c20
         try clear c20b0
         try clear c21
         try clear c21b0
         try clear c22
         try clear c22b0
         try clear c22b1
         try clear c22b2
         try clear c24
         try clear c30
         try clear c33
         try clear p33
         try clear q33
         try clear hx33
         try clear c34
         try clear p34
         try clear q34
         try clear hx34
         try clear c35
         try clear p35
         try clear q35
         try clear hx35
         try clear c37
         try clear c37b0
         try clear c38
         try clear c38b0
         try clear c39
         try clear c39b0
         try clear c40
         try clear c40b0
         try clear c41
         try clear c41b0
         try clear c42
         try clear c42b0
         try clear c42b1
         try clear c42b2
         try clear c43
         try clear c44
         try clear p44
         try clear q44
         try clear hx44
         try clear hf44
         try clear c49
         try clear hx49
         try clear hf49
         try clear c52
         try clear hcz12_0
         try clear hcz12_1
         try clear hcz25_0
         try clear hcz25_1
         try clear hcz25_2
         try clear hcz25_3
         try clear hcz25_4
         try clear hcz31_0
         try clear hcz31_1
         try clear hcz31_2
         try clear hcz31_3
         try clear hcz31_4
         try clear hfz12_0
         try clear hfz12_1
         try clear hfz25_0
         try clear hfz25_1
         try clear hfz25_2
         try clear hfz25_3
         try clear hfz25_4
         try clear hfz31_0
         try clear hfz31_1
         try clear hfz31_2
         try clear hfz31_3
         try clear hfz31_4
         try clear hx15_0
         try clear hx331_0
         try clear hx331_1
         try clear hx331_2
         try clear hx331_3
         try clear hx331_4
         try clear hx333_0
         try clear hx334_0
         try clear hx341_0
         try clear hx342_0
         try clear hx350_0
         try clear hx44_0
         try clear hx49_0
         try clear hx7_0
         try clear p2
         try clear p3
         try clear p33
         try clear p331
         try clear p333
         try clear p334
         try clear p341
         try clear p342
         try clear p350
         try clear p44
         try clear p6
         try clear p7
         try clear q3
         try clear q33
         try clear q331
         try clear q333
         try clear q334
         try clear q341
         try clear q342
         try clear q350
         try clear q44
         try clear q7
         obtain ⟨x3_2, x81_2, rfl, HA, HK2, HO_3, BK326, HB⟩ := hrel
         have hl3_2 := (Kd.S_reads' HO_3.out).1
         rw [hl3_2] at HO_3
         (try simp only [hl3_2])
         (try simp only [hl3_2] at BK326)
         cases gk with
         | zero => exact absurd HA.out (by simp [impl_KnownAt.l3])
         | succ k2 =>
          have H := HA.out
          clear HA
          simp only [impl_KnownAt.l3] at H
          by_cases c57 : x81_2 < (x3_1.length : Int)
          ·rw [if_pos c57] at H
           have c57b0 : decide (x81_2 < (x3_1.length : Int)) = true := decide_eq_true c57
           clear c57
           by_cases c58 : 0 ≤ x81_2
           ·rw [if_pos c58] at H
            have c58b0 : decide (0 ≤ x81_2) = true := decide_eq_true c58
            clear c58
            by_cases c59 : x81_2 < (x3_2.length : Int)
            ·rw [if_pos c59] at H
             have c59b0 : decide (x81_2 < (x3_2.length : Int)) = true := decide_eq_true c59
             clear c59
             by_cases c60 : ((rd_L5 x3_2 x81_2).length : Int) = 0
             ·rw [if_pos c60] at H
              have c60b0 : (((rd_L5 x3_2 x81_2).length : Int) == 0) = true := beq_iff_eq.mpr c60
              have c60b1 : (((rd_L5 x3_2 x81_2).length : Int) != 0) = false := bne_eq_false_iff_eq.mpr c60
              clear c60
              by_cases c61 : 4 ≤ 17592186044416
              ·rw [if_pos c61] at H
               have c61b0 := eq_true c61
               have c61b1 : decide (4 ≤ 17592186044416) = true := decide_eq_true c61
               clear c61
               obtain ⟨y353, hy353⟩ : ∃ y_ : List (S83), y_ = (List.replicate 4 z83) := ⟨_, rfl⟩
               replace H : (impl_KnownAt.l3 k2 (x3_2.set (x81_2 : Int).toNat y353) (x3_1.length : Int) (wrap64 (x81_2 + 1))) = some r := by first | (rw [hy353]; with_reducible exact H) | (have H2_ := (Option.bind_some _ _).symm.trans H; rw [hy353]; with_reducible exact H2_) | (have H2_ := (Option.bind_some _ _).symm.trans H; with_reducible exact H2_) | with_reducible exact H | (rw [hy353]; exact H) | exact H
               have Ny353 := Aside0.mk hy353
               clear hy353
               obtain ⟨y356, hy356⟩ : ∃ y_ : List (List (S83)), y_ = (x3_2.set (x81_2 : Int).toNat y353) := ⟨_, rfl⟩
               replace H : (impl_KnownAt.l3 k2 y356 (x3_1.length : Int) (wrap64 (x81_2 + 1))) = some r := by first | (rw [hy356]; with_reducible exact H) | (have H2_ := (Option.bind_some _ _).symm.trans H; rw [hy356]; with_reducible exact H2_) | (have H2_ := (Option.bind_some _ _).symm.trans H; with_reducible exact H2_) | with_reducible exact H | (rw [hy356]; exact H) | exact H
               have Ny356 := Aside0.mk hy356
               clear hy356
               have H' := Aside0.mk H
               clear H
               have p352 : 0 ≤ (x81_2 : Int) := of_decide_eq_true att16_0_1
               have q352 : x81_2 < (x3_2.length : Int) := of_decide_eq_true att16_0_1
               obtain ⟨ad352, A352_0, c352_0, e352, hx352_0, hl352_0, hi352_0⟩ := at_L5 (Kd.S_reads' HO_3.out).2.2 x81_2 p352 q352
               obtain rfl : (⟨go7, 0, none⟩ : Addr) = ad352 := (by injection e352)
               obtain ⟨ce352, hce352, hMe352, hcc352⟩ := Kd.S_get HO_3.out [] x81_2 p352 att16_1_5
               obtain ⟨ve352_0, rfl, ge352_0⟩ := hMe352
               have hv352_0 := hcc352 0 _ rfl
               rw [Nat.add_zero, show ((Kd.slice 83 k83)).sz = 1 from rfl, Nat.mul_one] at hv352_0
               replace hv352_0 := Option.some.inj (hv352_0.symm.trans hx352_0)
               rw [hv352_0] at ge352_0
               have HL352_0 := Aside0.mk (show Kd.R k83 83 _ _ _ _ (rd_L5 x3_2 x81_2) from ge352_0)
               clear hv352_0 ge352_0
               clear hcc352 hce352
               (first | simp only [add_plain] at hx352_0 | simp only [add_at] at hx352_0 | simp only [Addr.add, Nat.zero_add] at hx352_0 | skip)
               have HR352_0 := Aside0.mk hi352_0
               have HC352_0 := Aside0.mk hl352_0
               clear hi352_0 hl352_0
               replace p352 := eq_true p352
               replace q352 := eq_true q352
               go_wp2_with (first | ((with_reducible refine gate_dst (N := 92) rfl ?_); refine Kd.R_make k83 _ 83 rfl (N := 92) rfl 81 _ _ rfl 4 rfl rfl Try.underlying81 (.agg #[(.bool false), (.int .i64 0)]) 16 info83 rfl (by decide) (by omega) z83 (ok := fun _ => True) (okp := fun _ => True) (k83_mkM _ _ _ z83 ) (fun _ hk => hk) trivial (by omega) (by omega) (Below.refl _ _) (Nat.le_refl _) ?_; intro v354 w63 ho64 hb hg_ hnew_; clear hg_ hnew_; (first | rw [← Ny353.out] at ho64 | (simp only [Int.reduceToNat] at ho64; rw [← Ny353.out] at ho64)); have n0_ := Aside0.mk (Kd.S_elder' att16_0_11 (Kd.R_base ho64) hb); have n1_ := Aside0.mk (Kd.R_elder' att16_0_31 (Kd.R_base ho64) hb); have n2_ := Aside0.mk (Kd.R_lower (Kd.R_newB (Kd.R_new' ho64 (Kd.R_lt att16_0_31)) (g := gb326) (o := .cells #[.bool true, .int .i64 0] 83 (0, 0)) att16_0_3) (below_size att16_0_2)); have n3_ := Aside0.mk (blk_below (g := gb326) (o := .cells #[.bool true, .int .i64 0] 83 (0, 0)) att16_0_3 hb); have n4_ := Aside0.mk (Kd.C_below (by repeat (first | (with_reducible exact HR352_0.out) | (with_reducible refine Kd.C_alloc ?_ _) | (with_reducible refine Kd.C_drewN ?_ _) | (with_reducible refine Kd.C_drew ?_) | exact HR352_0.out)) hb); have n5_ := Aside0.mk (below_step att16_0_2 hb); clear HO_3; clear HL352_0; clear BK326; clear HR352_0; clear HB; have HO_3 := n0_; have HL352_0 := n1_; have HO355 := n2_; have BK326 := n3_; have HR352_0 := n4_; have HB := n5_; clear n0_ n1_ n2_ n3_ n4_ n5_; clear hb ho64; obtain ⟨Aq354, cq354, eq354⟩ := Kd.R_slice HO355.out; subst eq354; have p62 : 0 ≤ (x81_2 : Int) := of_decide_eq_true att16_0_1; have q62 : (x81_2 : Int) < ((x3_2.length : Int) : Int) := of_decide_eq_true att16_0_1; obtain ⟨_, ce62, hcl62, hM62, hcc62, hfr62, _, _⟩ := Kd.S_elem HO_3.out [] (x81_2 : Int) p62 q62; obtain ⟨ve62_0, rfl, ge62_0⟩ := hM62; have hx62_0 := hcc62 0 _ rfl; have hf62_0 := hfr62 0; (try simp only [show ((Kd.slice 83 k83)).sz = 1 from rfl, Nat.mul_one, Nat.add_zero] at hx62_0); (try simp only [show ((Kd.slice 83 k83)).sz = 1 from rfl, Nat.mul_one, Nat.add_zero] at hf62_0); clear hcl62 hcc62 hfr62 ; replace p62 := eq_true p62; replace q62 := eq_true q62; have HX65 := Aside0.mk (show Kd.S (Kd.slice 83 k83) 81 w63 w.heap.size (fun k_ => ((fun k_ => k_ ≠ gb326)) k_ ∧ ¬ ((fun k_ => some k_ = ((.slice Aq354 y353.length cq354) : Value).ownBlock)) k_) (.slice (some ⟨go7, 0, none⟩) x3_2.length co7) x3_2 from (by (with_reducible repeat (first | apply Kd.S_alloc | apply Kd.S_drewN | apply Kd.S_drew)); exact Kd.S_mono HO_3.out (fun k_ hk => ⟨hk.1, fun e_ => hk.2 e_⟩))); obtain ⟨oki65, ce65, hcl65, hM65, hcc65, hfr65, hoki65, hH65⟩ := Kd.S_elem HX65.out [] (x81_2 : Int) (of_decide_eq_true att16_0_1) att16_1_3; obtain ⟨ve65_0, rfl, ge65_0⟩ := hM65; have HP65 := Kd.S_seg hH65 (of_decide_eq_true att16_0_1) att16_1_3 (seg := [(.slice Aq354 y353.length cq354)]) (j := 0) (show 1 ≤ 1 from by decide) (x' := y353) (Kd.M_row (Kd.R_mono (Kd.R_tight rfl (Kd.R_mono (ok' := fun k_ => ((fun k_ => k_ ≠ gb326)) k_ ∧ k_ ≠ go7) (Kd.R_apart' (HO355.out) (Kd.S_typed HO_3.out) (by decide)) (fun k_ hk => ⟨hk.1.2, fun e_ => (hk.2) (by rw [e_]; rfl)⟩))) (fun _ h_ => Or.inr (h_)))) (fun _ hk => hk) (fun k_ hk_ => ((Kd.R_mono (ok' := fun k_ => ((fun k_ => k_ ≠ gb326)) k_ ∧ k_ ≠ go7) (Kd.R_apart' (HO355.out) (Kd.S_typed HO_3.out) (by decide)) (fun k_ hk => ⟨hk.1.2, fun e_ => (hk.2) (by rw [e_]; rfl)⟩))).1 k_ hk_.symm); have hx65_0 := hcc65 0 _ rfl; (try simp only [show ((Kd.slice 83 k83)).sz = 1 from rfl, Nat.mul_one, Nat.add_zero] at hx65_0); have hf65_0 := hfr65 0; (try simp only [show ((Kd.slice 83 k83)).sz = 1 from rfl, Nat.mul_one, Nat.add_zero] at hf65_0); clear hcl65 hcc65 hfr65 hoki65 hH65; (try simp only [show ((Kd.slice 83 k83)).sz = 1 from rfl, Nat.mul_one, Nat.add_zero] at HP65)) | ((with_reducible refine gate_store (t := 81) (p := 93) rfl ?_); refine store_event (t := 81) (p := 93) (v := ?vo_w66) (w1 := (w63.setCell ⟨go7, (x81_2 : Int).toNat, none⟩ ((.slice Aq354 y353.length cq354)))) ?hg ?ho ?hn ?hr ?_; (case ho => rfl); (case hg => rfl); (case hn => rfl); (case hr => first | (go_simp; done) | (go_simp; rfl)); intro w66 hw; have hg : w63.grownBy w66 (some go7) := (by rw [hw]; exact HP65.2); have hp_ : Kd.S (Kd.slice 83 k83) 81 w66 w.heap.size (fun k_ => k_ ≠ gb326) (.slice (some ⟨go7, 0, none⟩) x3_2.length co7) y356 := (by rw [hw, Ny356.out]; exact HP65.1); clear HP65; have n0_ := Aside0.mk (hp_); have n1_ := Aside0.mk (blk_grown (g := gb326) (o := .cells #[.bool true, .int .i64 0] 83 (0, 0)) att16_0_3 hg (Kd.S_ne HO_3.out BK326.out (by decide))); have n2_ := Aside0.mk (Kd.R_after (v := (.slice (some ⟨go7, 0, none⟩) x3_2.length co7)) (v1 := (.slice (some ⟨go7, 0, none⟩) x3_2.length co7)) (ok := (fun k_ => some k_ ≠ ((.slice Aq354 y353.length cq354) : Value).ownBlock ∧ k_ ≠ gb326)) (by (with_reducible repeat (first | apply Kd.R_alloc | apply Kd.R_drewN | apply Kd.R_drew)); exact Kd.R_mono HL352_0.out (fun _ hk => ⟨⟨hk.2, hk.1.1⟩, hk.1.2⟩)) hg (.inl rfl)); have n3_ := Aside0.mk ((by rw [hw]; exact below_set (HB.out) GB7.out : Below w.heap.size w w66)); clear HO_3; clear BK326; clear HL352_0; clear HB; clear HO355; have HO_3 := n0_; have BK326 := n1_; have HL352_0 := n2_; have HB := n3_; clear n0_ n1_ n2_ n3_; clear hg hw hp_))
               (try simp only [← hl3_2])
               go_roundg k2
               case measure => have := HK1.out; have := HK2.out; omega
               case rel => exact ⟨(y356), (wrap64 (x81_2 + 1)), att16_0_7, H', ⟨att16_0_30⟩, ⟨att16_0_14⟩, ⟨att16_0_9⟩, ⟨att16_0_2⟩⟩
              ·rw [if_neg c61] at H
               exact absurd H (by simp)
             ·rw [if_neg c60] at H
              have c60b0 : (((rd_L5 x3_2 x81_2).length : Int) == 0) = false := beq_eq_false_iff_ne.mpr c60
              have c60b1 : (((rd_L5 x3_2 x81_2).length : Int) != 0) = true := bne_iff_ne.mpr c60
              have c60b2 : ¬ ((rd_L5 x3_2 x81_2) = []) := fun h_ => c60 (by rw [h_]; rfl)
              have H' := Aside0.mk H
              clear H
              have p352 : 0 ≤ (x81_2 : Int) := of_decide_eq_true att16_0_1
              have q352 : x81_2 < (x3_2.length : Int) := of_decide_eq_true att16_0_1
              obtain ⟨ad352, A352_0, c352_0, e352, hx352_0, hl352_0, hi352_0⟩ := at_L5 (Kd.S_reads' HO_3.out).2.2 x81_2 p352 q352
              obtain rfl : (⟨go7, 0, none⟩ : Addr) = ad352 := (by injection e352)
              obtain ⟨ce352, hce352, hMe352, hcc352⟩ := Kd.S_get HO_3.out [] x81_2 p352 att16_1_5
              obtain ⟨ve352_0, rfl, ge352_0⟩ := hMe352
              have hv352_0 := hcc352 0 _ rfl
              rw [Nat.add_zero, show ((Kd.slice 83 k83)).sz = 1 from rfl, Nat.mul_one] at hv352_0
              replace hv352_0 := Option.some.inj (hv352_0.symm.trans hx352_0)
              rw [hv352_0] at ge352_0
              have HL352_0 := Aside0.mk (show Kd.R k83 83 _ _ _ _ (rd_L5 x3_2 x81_2) from ge352_0)
              clear hv352_0 ge352_0
              clear hcc352 hce352
              (first | simp only [add_plain] at hx352_0 | simp only [add_at] at hx352_0 | simp only [Addr.add, Nat.zero_add] at hx352_0 | skip)
              have HR352_0 := Aside0.mk hi352_0
              have HC352_0 := Aside0.mk hl352_0
              clear hi352_0 hl352_0
              replace p352 := eq_true p352
              replace q352 := eq_true q352
              go_wp2
              (try simp only [← hl3_2])
              go_roundg k2
              case measure => have := HK1.out; have := HK2.out; omega
              case rel => exact ⟨(x3_2), (wrap64 (x81_2 + 1)), att16_0_7, H', ⟨att16_0_30⟩, ⟨att16_0_14⟩, ⟨att16_0_9⟩, ⟨att16_0_2⟩⟩
            ·rw [if_neg c59] at H
             exact absurd H (by simp)
           ·rw [if_neg c58] at H
            exact absurd H (by simp)
          ·rw [if_neg c57] at H
           have c57b0 : decide (x81_2 < (x3_1.length : Int)) = false := decide_eq_false c57
           (try rw [hl3_2] at c57b0)
           clear c57
           obtain rfl := Option.some.inj H
           go_wp2
           go_ret
           exact ⟨_, by first | rfl | (simp [errW_none, errW_some] <;> rfl) | (simp [*, errW_none, errW_some] <;> rfl), by (with_reducible repeat (first | apply Kd.S_alloc | apply Kd.S_drewN | apply Kd.S_drew)); exact Kd.S_mono HO_3.out (fun _ hk => trivial), att16_0_2⟩
    ·rw [if_neg c6] at H
     exact absurd H (by simp)
   ·rw [if_neg c5] at H
    exact absurd H (by simp)
  ·rw [if_neg c4] at H
   exact absurd H (by simp)
 ·replace c3 := Bool.eq_false_iff.mpr c3
  subst c3
  rw [if_neg (show ¬ (false = true) by decide)] at H
  obtain rfl := Option.some.inj H
  go_enter Try.func46, Try.ntmps46
  go_wp2_with (first | ((with_reducible refine gate_callee (f := 34) rfl ?_); refine goesL_ (some 14) rfl rfl Try.func34 (by kernel_rfl) rfl #[.slice A0 l0.length c0, .int .i64 3] rfl att16_0_8 ?_; (with_reducible refine (impl_BodyOk.calls k _ _ l0 3 false _ ?side1 ?side2 A2.out).mono ?_); (case side1 => repeat (first | exact HR0.out | (with_reducible refine Kd.C_alloc ?_ _) | (with_reducible refine Kd.C_drewN ?_ _) | (with_reducible refine Kd.C_drew ?_))); (case side2 => exact HC0.out); rintro e w67 ⟨rfl, hb⟩; refine ⟨_, rfl, ?_⟩; have n0_ := Aside0.mk (below_step att16_0_5 hb); clear HB; have HB := n0_; clear n0_; (try clear hb); (try clear hb2); (try clear hk); (try clear hi)))
  go_ret
  exact ⟨_, by first | rfl | (simp [errW_none, errW_some] <;> rfl) | (simp [*, errW_none, errW_some] <;> rfl), by first | exact Kd.S_nil _ _ _ _ _ | exact Kd.N_nil _ _ _ _ _ | exact Kd.V_nil _ _ _ _ _ | exact Kd.Q_nil _ _ _ _ _ | exact Kd.R_nil _ _ _ _ _, att16_0_5⟩

end Go.Proofs.Ytocimkpafakiaaa.XFnExactKnownAt
