/- Each Go function that the law reaches as a Lean function, and that Go comes to just its answer; written by this session's xprint.py over the kit's printer. -/
import Derived.Test.YtocimkpafakiaaaXFnExactFoldBodyx0
import Derived.Test.YtocimkpafakiaaaXFnExactFoldBodyx13
import Derived.Test.YtocimkpafakiaaaXFnExactFoldBodyx15
import Derived.Test.YtocimkpafakiaaaXFnExactFoldBodyx16
namespace Go.Proofs.Ytocimkpafakiaaa.XFnExactFoldBody
open Go.RowKit Go.Proofs.YtocimkpafakiaaaW.PrintWords Go.Proofs.YtocimkpafakiaaaW.PrintLast Go.Proofs.YtocimkpafakiaaaW.PrintMore
attribute [local go_sem] max2_int min2_int max_two min_two max_three min_three max_four min_four   -- for this text's walks alone
set_option linter.unusedVariables false
set_option linter.unusedSimpArgs false

theorem att18_0_0 {p : Prop} (h : p := by repeat (first | (with_reducible first | exact HB.out | apply below_alloc | apply pw_below_drewN | apply below_drew1 | refine below_set ?_ GE361.out | refine below_set ?_ GE367.out) | exact HB.out)) : p := h
theorem att18_0_1 {p : Prop} (h : p := by first | (with_reducible assumption) | assumption) : p := h
theorem att18_0_2 {p : Prop} (h : p := by repeat (first | (with_reducible first | exact HB.out | apply below_alloc | apply pw_below_drewN | apply below_drew1 | refine below_set ?_ GE361.out) | exact HB.out)) : p := h
theorem att18_0_3 {p : Prop} (h : p := by (with_reducible repeat (first | refine blk_drewN ?_ _ | refine blk_drew ?_ | refine blk_alloc ?_ _)); exact BK361.out) : p := h
theorem att18_0_4 {p : Prop} (h : p := by rw [hw]; exact (by (with_reducible repeat (first | refine blk_drewN ?_ _ | refine blk_drew ?_ | refine blk_alloc ?_ _)); refine blk_put (cs := #[.int .i64 ((rd_T63 l0 x30_2).f0), .int .i64 ((rd_T63 l0 x30_2).f1), .int .i64 ((rd_T63 l0 x30_2).f2), .int .i64 ((rd_T63 l0 x30_2).f3), .int .i64 0]) ?_ 4 _ rfl; (with_reducible repeat (first | refine blk_drewN ?_ _ | refine blk_drew ?_ | refine blk_alloc ?_ _)); refine blk_put (cs := #[.int .i64 ((rd_T63 l0 x30_2).f0), .int .i64 ((rd_T63 l0 x30_2).f1), .int .i64 ((rd_T63 l0 x30_2).f2), .int .i64 0, .int .i64 0]) ?_ 3 _ rfl; (with_reducible repeat (first | refine blk_drewN ?_ _ | refine blk_drew ?_ | refine blk_alloc ?_ _)); refine blk_put (cs := #[.int .i64 ((rd_T63 l0 x30_2).f0), .int .i64 ((rd_T63 l0 x30_2).f1), .int .i64 0, .int .i64 0, .int .i64 0]) ?_ 2 _ rfl; (with_reducible repeat (first | refine blk_drewN ?_ _ | refine blk_drew ?_ | refine blk_alloc ?_ _)); refine blk_put (cs := #[.int .i64 ((rd_T63 l0 x30_2).f0), .int .i64 0, .int .i64 0, .int .i64 0, .int .i64 0]) ?_ 1 _ rfl; (with_reducible repeat (first | refine blk_drewN ?_ _ | refine blk_drew ?_ | refine blk_alloc ?_ _)); refine blk_put (cs := #[.int .i64 0, .int .i64 0, .int .i64 0, .int .i64 0, .int .i64 0]) ?_ 0 _ rfl; (with_reducible repeat (first | refine blk_drewN ?_ _ | refine blk_drew ?_ | refine blk_alloc ?_ _)); exact BK367.out)) : p := h
theorem att18_0_5 {p : Prop} (h : p := by repeat (first | (with_reducible first | exact HB.out | apply below_alloc | apply pw_below_drewN | apply below_drew1) | exact HB.out)) : p := h
theorem att18_0_6 {p : Prop} (h : p := by rw [hw]; exact (by (with_reducible repeat (first | refine blk_drewN ?_ _ | refine blk_drew ?_ | refine blk_alloc ?_ _)); refine blk_far ?_ NB361_367.out _; (with_reducible repeat (first | refine blk_drewN ?_ _ | refine blk_drew ?_ | refine blk_alloc ?_ _)); refine blk_far ?_ NB361_367.out _; (with_reducible repeat (first | refine blk_drewN ?_ _ | refine blk_drew ?_ | refine blk_alloc ?_ _)); refine blk_far ?_ NB361_367.out _; (with_reducible repeat (first | refine blk_drewN ?_ _ | refine blk_drew ?_ | refine blk_alloc ?_ _)); refine blk_far ?_ NB361_367.out _; (with_reducible repeat (first | refine blk_drewN ?_ _ | refine blk_drew ?_ | refine blk_alloc ?_ _)); refine blk_far ?_ NB361_367.out _; (with_reducible repeat (first | refine blk_drewN ?_ _ | refine blk_drew ?_ | refine blk_alloc ?_ _)); exact BK361.out)) : p := h
theorem att18_0_7 {p : Prop} (h : p := by first | rfl | (simp; done) | (simp [*]; done)) : p := h
theorem att18_0_8 {p : Prop} (h : p := by (try simp only [List.map_toArray, List.map_cons, List.map_nil]); first | done | rfl | (simp only [List.length_drop, List.length_take]; rfl)) : p := h
theorem att18_0_9 {p : Prop} (h : p := by (try simp only [hl3_1]); (try simp only [hl3_2]); (with_reducible repeat (first | refine blk_drewN ?_ _ | refine blk_drew ?_ | refine blk_alloc ?_ _)); exact BK361.out) : p := h
theorem att18_0_10 {p : Prop} (h : p := by rw [hw]; exact (by (with_reducible repeat (first | apply Kd.S_alloc | apply Kd.S_drewN | apply Kd.S_drew)); exact Kd.S_mono (Kd.S_far (p := ⟨gb367, 4, none⟩) (Kd.S_far (p := ⟨gb367, 3, none⟩) (Kd.S_far (p := ⟨gb367, 2, none⟩) (Kd.S_far (p := ⟨gb367, 1, none⟩) (Kd.S_far (p := ⟨gb367, 0, none⟩) (Kd.S_types HO_3.out BK367.out (by decide)) (fun _ hk => hk.2) (.int .i64 ((rd_T63 l0 x30_2).f0))) (fun _ hk => hk.2) (.int .i64 ((rd_T63 l0 x30_2).f1))) (fun _ hk => hk.2) (.int .i64 ((rd_T63 l0 x30_2).f2))) (fun _ hk => hk.2) (.int .i64 ((rd_T63 l0 x30_2).f3))) (fun _ hk => hk.2) (.int .i64 ((rd_T63 l0 x30_2).f4))) (fun _ hk => hk.1))) : p := h
theorem att18_0_11 {p : Prop} (h : p := by (with_reducible repeat (first | apply Kd.S_alloc | apply Kd.S_drewN | apply Kd.S_drew)); exact HO_3.out) : p := h
theorem att18_0_12 {p : Prop} (h : p := by (try simp only [hl3_1]); (try simp only [hl3_2]); (try simp only [hl3_3]); (with_reducible repeat (first | refine blk_drewN ?_ _ | refine blk_drew ?_ | refine blk_alloc ?_ _)); exact BK361.out) : p := h
theorem att18_0_13 {p : Prop} (h : p := by (with_reducible repeat (first | refine blk_drewN ?_ _ | refine blk_drew ?_ | refine blk_alloc ?_ _)); exact BK367.out) : p := h
theorem att18_0_14 {p : Prop} (h : p := by (try simp only [hl3_1]); (try simp only [hl3_2]); (with_reducible repeat (first | apply Kd.S_alloc | apply Kd.S_drewN | apply Kd.S_drew)); exact HO_3.out) : p := h
theorem att18_0_15 {p : Prop} (h : p := by (with_reducible repeat (first | refine blk_drewN ?_ _ | refine blk_drew ?_ | refine blk_alloc ?_ _)); refine blk_put (cs := #[.bool true, .int .i64 0]) ?_ 1 _ rfl; (with_reducible repeat (first | refine blk_drewN ?_ _ | refine blk_drew ?_ | refine blk_alloc ?_ _)); refine blk_put (cs := #[.bool false, .int .i64 0]) ?_ 0 _ rfl; (with_reducible repeat (first | refine blk_drewN ?_ _ | refine blk_drew ?_ | refine blk_alloc ?_ _)); exact BK361.out) : p := h
theorem att18_0_16 {p : Prop} (h : p := by (with_reducible repeat (first | apply Kd.R_alloc | apply Kd.R_drewN | apply Kd.R_drew)); exact HO_8.out) : p := h
theorem att18_0_17 {p : Prop} (h : p := by repeat (first | (with_reducible exact HR369_0.out) | (with_reducible refine Kd.C_alloc ?_ _) | (with_reducible refine Kd.C_drewN ?_ _) | (with_reducible refine Kd.C_drew ?_) | exact HR369_0.out)) : p := h
theorem att18_0_18 {p : Prop} (h : p := by (try simp only [hl3_1]); (try simp only [hl3_2]); (try simp only [hl3_3]); (with_reducible repeat (first | refine blk_drewN ?_ _ | refine blk_drew ?_ | refine blk_alloc ?_ _)); exact BK367.out) : p := h
theorem att18_0_19 {p : Prop} (h : p := by (try simp only [hl3_1]); (try simp only [hl3_2]); (try simp only [hl3_3]); (with_reducible repeat (first | apply Kd.R_alloc | apply Kd.R_drewN | apply Kd.R_drew)); exact HO_49.out) : p := h
theorem att18_0_20 {p : Prop} (h : p := by (try simp only [hl3_1]); (try simp only [hl3_2]); (try simp only [hl3_3]); (with_reducible repeat (first | apply Kd.S_alloc | apply Kd.S_drewN | apply Kd.S_drew)); exact HO_3.out) : p := h
theorem att18_0_21 {p : Prop} (h : p := by (with_reducible repeat (first | apply Kd.R_alloc | apply Kd.R_drewN | apply Kd.R_drew)); exact HL377_0.out) : p := h
theorem att18_0_22 {p : Prop} (h : p := by (with_reducible repeat (first | apply Kd.R_alloc | apply Kd.R_drewN | apply Kd.R_drew)); exact HL369_0.out) : p := h
theorem att18_0_23 {p : Prop} (h : p := by (with_reducible repeat (first | apply Kd.R_alloc | apply Kd.R_drewN | apply Kd.R_drew)); exact HL368_0.out) : p := h
theorem att18_0_24 {p : Prop} (h : p := by (with_reducible repeat (first | apply Kd.R_alloc | apply Kd.R_drewN | apply Kd.R_drew)); exact HO_49.out) : p := h
theorem att18_0_25 {p : Prop} (h : p := by repeat (first | (with_reducible exact HR368_0.out) | (with_reducible refine Kd.C_alloc ?_ _) | (with_reducible refine Kd.C_drewN ?_ _) | (with_reducible refine Kd.C_drew ?_) | exact HR368_0.out)) : p := h
theorem att18_0_26 {p : Prop} (h : p := by (try simp only [hl3_1]); (try simp only [hl3_2]); (try simp only [hl3_3]); (with_reducible repeat (first | apply Kd.R_alloc | apply Kd.R_drewN | apply Kd.R_drew)); exact HO_8.out) : p := h
theorem att18_0_27 {p : Prop} (h : p := by have := HK1.out; have := HK2.out; have := HK3.out; omega) : p := h
theorem att18_0_28 {p : Prop} (h : p := by (try simp only [hl3_1]); (with_reducible repeat (first | refine blk_drewN ?_ _ | refine blk_drew ?_ | refine blk_alloc ?_ _)); exact BK361.out) : p := h
theorem att18_0_29 {p : Prop} (h : p := by (try simp only [hl3_1]); (with_reducible repeat (first | apply Kd.S_alloc | apply Kd.S_drewN | apply Kd.S_drew)); exact HO_3.out) : p := h
theorem att18_0_30 {p : Prop} (h : p := by have := HK1.out; have := HK2.out; omega) : p := h
theorem att18_0_31 {p : Prop} (h : p := by (with_reducible repeat (first | apply Kd.R_alloc | apply Kd.R_drewN | apply Kd.R_drew)); exact HL387_0.out) : p := h
theorem att18_0_32 {p : Prop} (h : p := by (with_reducible repeat (first | apply Kd.S_alloc | apply Kd.S_drewN | apply Kd.S_drew)); exact HO360.out) : p := h
theorem att18_0_33 {p : Prop} (h : p := by repeat (first | exact HB.out | apply below_alloc | apply pw_below_drewN | apply below_drew1)) : p := h
theorem att18_1_0 {p : Prop} (h : p := by first | exact q377 | exact of_decide_eq_true att18_0_1 | (have e_ := (Kd.S_reads' HO_3.out).1; omega)) : p := h
theorem att18_1_1 {p : Prop} (h : p := by have h_ : ((rd t373 x51_3) : Int) < ((x3_3.length : Int) : Int) := of_decide_eq_true att18_0_1; first | exact h_ | (have e_ := (Kd.S_reads' HO_3.out).1; omega) | simpa using h_) : p := h
theorem att18_1_2 {p : Prop} (h : p := by first | exact of_decide_eq_true att18_0_1 | (have e_ := (Kd.S_reads' HO_3.out).1; have h_ : (rd t373 x51_3) < (x3_3.length : Int) := (of_decide_eq_true att18_0_1); omega)) : p := h
theorem att18_1_3 {p : Prop} (h : p := by have h_ : (x81_2 : Int) < ((x3_2.length : Int) : Int) := of_decide_eq_true att18_0_1; first | exact h_ | (have e_ := (Kd.S_reads' HO_3.out).1; omega) | simpa using h_) : p := h
theorem att18_1_4 {p : Prop} (h : p := by have h_ : (0 : Int) < ((y358.length : Int) : Int) := of_decide_eq_true att18_0_1; first | exact h_ | (have e_ := (Kd.S_reads' HO360.out).1; omega) | simpa using h_) : p := h
theorem att18_1_5 {p : Prop} (h : p := by first | exact q387 | exact of_decide_eq_true att18_0_1 | (have e_ := (Kd.S_reads' HO_3.out).1; omega)) : p := h
theorem att18_1_6 {p : Prop} (h : p := by first | exact q385 | exact of_decide_eq_true att18_0_1 | (have e_ := (Kd.S_reads' HO_3.out).1; omega)) : p := h
theorem att18_1_7 {p : Prop} (h : p := by first | exact q368 | exact of_decide_eq_true att18_0_1 | (have e_ := (Kd.S_reads' HO_3.out).1; omega)) : p := h
/-! ### impl_KnownAt: function 46 -/
mutual
def impl_KnownAt.l0 : Nat → List (S63) → List (List (S83)) → Bool → Option ((List (List (S83))))
 | 0, _, _, _ => none
 | k + 1, x0, x3, x5 => if x5 = true then (impl_KnownAt.l1 k x0 x3 false x0 (x0.length : Int) 0) else (impl_KnownAt.l3 k x3 (x3.length : Int) 0)
def impl_KnownAt.l1 : Nat → List (S63) → List (List (S83)) → Bool → List (S63) → Int → Int → Option ((List (List (S83))))
 | 0, _, _, _, _, _, _ => none
 | k + 1, x0, x3, x5, x28, x29, x30 => if x30 < x29 then (if 0 ≤ x30 then (if x30 < (x28.length : Int) then (if x30 < (x3.length : Int) then (if ((rd_L5 x3 x30).length : Int) = 0 then (impl_KnownAt.l1 k x0 x3 x5 x28 x29 (wrap64 (x30 + 1))) else ((impl_behind.f k ((rd_T63 x28 x30).f0) ((rd_T63 x28 x30).f1) ((rd_T63 x28 x30).f2) ((rd_T63 x28 x30).f3) ((rd_T63 x28 x30).f4) (rd_L5 x3 x30)).bind fun t370 => ((impl_nextOf.f x0 x30).bind fun t373 => (impl_KnownAt.l2 k x0 x3 x5 t370 x28 x29 x30 t373 (t373.length : Int) 0)))) else (none)) else (none)) else (none)) else (impl_KnownAt.l0 k x0 x3 x5)
def impl_KnownAt.l2 : Nat → List (S63) → List (List (S83)) → Bool → List (S83) → List (S63) → Int → Int → List Int → Int → Int → Option ((List (List (S83))))
 | 0, _, _, _, _, _, _, _, _, _, _ => none
 | k + 1, x0, x3, x5, x8, x28, x29, x30, x49, x50, x51 => if x51 < x50 then (if 0 ≤ x51 then (if x51 < (x49.length : Int) then (if 0 ≤ (rd x49 x51) then (if (rd x49 x51) < (x3.length : Int) then (if ((rd_L5 x3 (rd x49 x51)).length : Int) = 0 then ((some (([] : List (S83)) : List (S83))).bind fun y378 => (if y378.length + x8.length < 8796093022208 then (impl_KnownAt.l2 k x0 (x3.set ((rd x49 x51) : Int).toNat (y378 ++ x8)) true x8 x28 x29 x30 x49 x50 (wrap64 (x51 + 1))) else (none))) else ((impl_meet.f k (rd_L5 x3 (rd x49 x51)) x8).bind fun t386 => (if x5 = true then (impl_KnownAt.l2 k x0 (x3.set ((rd x49 x51) : Int).toNat t386.2) true x8 x28 x29 x30 x49 x50 (wrap64 (x51 + 1))) else (impl_KnownAt.l2 k x0 (x3.set ((rd x49 x51) : Int).toNat t386.2) t386.1 x8 x28 x29 x30 x49 x50 (wrap64 (x51 + 1)))))) else (none)) else (none)) else (none)) else (none)) else (impl_KnownAt.l1 k x0 x3 x5 x28 x29 (wrap64 (x30 + 1)))
def impl_KnownAt.l3 : Nat → List (List (S83)) → Int → Int → Option ((List (List (S83))))
 | 0, _, _, _ => none
 | k + 1, x3, x80, x81 => if x81 < x80 then (if 0 ≤ x81 then (if x81 < (x3.length : Int) then (if ((rd_L5 x3 x81).length : Int) = 0 then (if 4 ≤ 17592186044416 then (impl_KnownAt.l3 k (x3.set (x81 : Int).toNat (List.replicate 4 z83)) x80 (wrap64 (x81 + 1))) else (none)) else (impl_KnownAt.l3 k x3 x80 (wrap64 (x81 + 1)))) else (none)) else (none)) else (some x3)
end
def impl_KnownAt.f (k : Nat) (l0 : List (S63)) : Option ((List (List (S83)))) := (impl_BodyOk.f k l0 3).bind fun t357 => (if t357 = true then (if 0 ≤ (l0.length : Int) then (if ((l0.length : Int) : Int).toNat ≤ 11728124029610 then ((some (List.replicate ((l0.length : Int) : Int).toNat [] : List (List (S83)))).bind fun y358 => (if 0 < (y358.length : Int) then (impl_KnownAt.l0 k l0 (y358.set (0 : Int).toNat (([(⟨true, 0⟩ : S83), (⟨true, 0⟩ : S83), (⟨true, 0⟩ : S83), (⟨true, 0⟩ : S83)] : List (S83)))) true) else (none))) else (none)) else (none)) else (some ([] : List (List (S83)))))
theorem impl_KnownAt.mono_l : ∀ k, (∀ y0 y1 y2, LeO (impl_KnownAt.l0 k y0 y1 y2) (impl_KnownAt.l0 (k + 1) y0 y1 y2)) ∧ (∀ y0 y1 y2 y3 y4 y5, LeO (impl_KnownAt.l1 k y0 y1 y2 y3 y4 y5) (impl_KnownAt.l1 (k + 1) y0 y1 y2 y3 y4 y5)) ∧ (∀ y0 y1 y2 y3 y4 y5 y6 y7 y8 y9, LeO (impl_KnownAt.l2 k y0 y1 y2 y3 y4 y5 y6 y7 y8 y9) (impl_KnownAt.l2 (k + 1) y0 y1 y2 y3 y4 y5 y6 y7 y8 y9)) ∧ (∀ y0 y1 y2, LeO (impl_KnownAt.l3 k y0 y1 y2) (impl_KnownAt.l3 (k + 1) y0 y1 y2))
 | 0 => ⟨fun _ _ _ r h => by simp [impl_KnownAt.l0] at h, fun _ _ _ _ _ _ r h => by simp [impl_KnownAt.l1] at h, fun _ _ _ _ _ _ _ _ _ _ r h => by simp [impl_KnownAt.l2] at h, fun _ _ _ r h => by simp [impl_KnownAt.l3] at h⟩
 | k + 1 => by
  obtain ⟨ih0, ih1, ih2, ih3⟩ := impl_KnownAt.mono_l k
  refine ⟨?_, ?_, ?_, ?_⟩
  ·intro y0 y1 y2
   unfold impl_KnownAt.l0
   repeat' first
   | (with_reducible exact ih0 _ _ _)
   | (with_reducible exact ih1 _ _ _ _ _ _)
   | (with_reducible exact ih2 _ _ _ _ _ _ _ _ _ _)
   | (with_reducible exact ih3 _ _ _)
   | (with_reducible exact impl_BodyOk.mono _ _ _)
   | (with_reducible exact impl_behind.mono _ _ _ _ _ _ _)
   | (with_reducible exact impl_meet.mono _ _ _)
   | (with_reducible exact LeO.refl _)
   | (with_reducible exact LeO.none _)
   | (with_reducible refine LeO.ite ?_ ?_)
   | (with_reducible refine LeO.bind ?_ (fun _ => ?_))
   | exact ih0 _ _ _
   | exact ih1 _ _ _ _ _ _
   | exact ih2 _ _ _ _ _ _ _ _ _ _
   | exact ih3 _ _ _
   | exact impl_BodyOk.mono _ _ _
   | exact impl_behind.mono _ _ _ _ _ _ _
   | exact impl_meet.mono _ _ _
   | exact LeO.none _
   | refine LeO.ite ?_ ?_
   | refine LeO.bind ?_ (fun _ => ?_)
  ·intro y0 y1 y2 y3 y4 y5
   unfold impl_KnownAt.l1
   repeat' first
   | (with_reducible exact ih0 _ _ _)
   | (with_reducible exact ih1 _ _ _ _ _ _)
   | (with_reducible exact ih2 _ _ _ _ _ _ _ _ _ _)
   | (with_reducible exact ih3 _ _ _)
   | (with_reducible exact impl_BodyOk.mono _ _ _)
   | (with_reducible exact impl_behind.mono _ _ _ _ _ _ _)
   | (with_reducible exact impl_meet.mono _ _ _)
   | (with_reducible exact LeO.refl _)
   | (with_reducible exact LeO.none _)
   | (with_reducible refine LeO.ite ?_ ?_)
   | (with_reducible refine LeO.bind ?_ (fun _ => ?_))
   | exact ih0 _ _ _
   | exact ih1 _ _ _ _ _ _
   | exact ih2 _ _ _ _ _ _ _ _ _ _
   | exact ih3 _ _ _
   | exact impl_BodyOk.mono _ _ _
   | exact impl_behind.mono _ _ _ _ _ _ _
   | exact impl_meet.mono _ _ _
   | exact LeO.none _
   | refine LeO.ite ?_ ?_
   | refine LeO.bind ?_ (fun _ => ?_)
  ·intro y0 y1 y2 y3 y4 y5 y6 y7 y8 y9
   unfold impl_KnownAt.l2
   repeat' first
   | (with_reducible exact ih0 _ _ _)
   | (with_reducible exact ih1 _ _ _ _ _ _)
   | (with_reducible exact ih2 _ _ _ _ _ _ _ _ _ _)
   | (with_reducible exact ih3 _ _ _)
   | (with_reducible exact impl_BodyOk.mono _ _ _)
   | (with_reducible exact impl_behind.mono _ _ _ _ _ _ _)
   | (with_reducible exact impl_meet.mono _ _ _)
   | (with_reducible exact LeO.refl _)
   | (with_reducible exact LeO.none _)
   | (with_reducible refine LeO.ite ?_ ?_)
   | (with_reducible refine LeO.bind ?_ (fun _ => ?_))
   | exact ih0 _ _ _
   | exact ih1 _ _ _ _ _ _
   | exact ih2 _ _ _ _ _ _ _ _ _ _
   | exact ih3 _ _ _
   | exact impl_BodyOk.mono _ _ _
   | exact impl_behind.mono _ _ _ _ _ _ _
   | exact impl_meet.mono _ _ _
   | exact LeO.none _
   | refine LeO.ite ?_ ?_
   | refine LeO.bind ?_ (fun _ => ?_)
  ·intro y0 y1 y2
   unfold impl_KnownAt.l3
   repeat' first
   | (with_reducible exact ih0 _ _ _)
   | (with_reducible exact ih1 _ _ _ _ _ _)
   | (with_reducible exact ih2 _ _ _ _ _ _ _ _ _ _)
   | (with_reducible exact ih3 _ _ _)
   | (with_reducible exact impl_BodyOk.mono _ _ _)
   | (with_reducible exact impl_behind.mono _ _ _ _ _ _ _)
   | (with_reducible exact impl_meet.mono _ _ _)
   | (with_reducible exact LeO.refl _)
   | (with_reducible exact LeO.none _)
   | (with_reducible refine LeO.ite ?_ ?_)
   | (with_reducible refine LeO.bind ?_ (fun _ => ?_))
   | exact ih0 _ _ _
   | exact ih1 _ _ _ _ _ _
   | exact ih2 _ _ _ _ _ _ _ _ _ _
   | exact ih3 _ _ _
   | exact impl_BodyOk.mono _ _ _
   | exact impl_behind.mono _ _ _ _ _ _ _
   | exact impl_meet.mono _ _ _
   | exact LeO.none _
   | refine LeO.ite ?_ ?_
   | refine LeO.bind ?_ (fun _ => ?_)
theorem impl_KnownAt.mono : ∀ a0 k, LeO (impl_KnownAt.f k a0) (impl_KnownAt.f (k + 1) a0) := by
 intro a0 k
 obtain ⟨ih0, ih1, ih2, ih3⟩ := impl_KnownAt.mono_l k
 unfold impl_KnownAt.f
 repeat' first
   | (with_reducible exact ih0 _ _ _)
   | (with_reducible exact ih1 _ _ _ _ _ _)
   | (with_reducible exact ih2 _ _ _ _ _ _ _ _ _ _)
   | (with_reducible exact ih3 _ _ _)
   | (with_reducible exact impl_BodyOk.mono _ _ _)
   | (with_reducible exact impl_behind.mono _ _ _ _ _ _ _)
   | (with_reducible exact impl_meet.mono _ _ _)
   | (with_reducible exact LeO.refl _)
   | (with_reducible exact LeO.none _)
   | (with_reducible refine LeO.ite ?_ ?_)
   | (with_reducible refine LeO.bind ?_ (fun _ => ?_))
   | exact ih0 _ _ _
   | exact ih1 _ _ _ _ _ _
   | exact ih2 _ _ _ _ _ _ _ _ _ _
   | exact ih3 _ _ _
   | exact impl_BodyOk.mono _ _ _
   | exact impl_behind.mono _ _ _ _ _ _ _
   | exact impl_meet.mono _ _ _
   | exact LeO.none _
   | refine LeO.ite ?_ ?_
   | refine LeO.bind ?_ (fun _ => ?_)
set_option maxHeartbeats 80000000 in
set_option maxRecDepth 100000 in
theorem impl_KnownAt.calls (k : Nat) (A0 : Option Addr) (c0 : Nat) (l0 : List (S63)) (r : List (List (S83))) (w : World) (hr0 : Kd.C k63 w A0 l0.length l0) (hc0 : l0.length ≤ c0) (h : impl_KnownAt.f k l0 = some r) :
  Calls Try.prog 46 #[.slice A0 l0.length c0] w fun e w' => ∃ v0_ : Value, e = .returned (v0_) ∧ Kd.S (Kd.slice 83 k83) 81 w' w.heap.size (fun _ => True) v0_ r ∧ Below w.heap.size w w' := by
 have hu83 := Try.underlying83
 have hu63 := Try.underlying63
 have HR0 := Aside0.mk hr0
 have HC0 := Aside0.mk hc0
 clear hr0 hc0
 have HB := Aside0.mk (Below.refl w.heap.size w)
 have H : ((impl_BodyOk.f k l0 3).bind fun t357 => (if t357 = true then (if 0 ≤ (l0.length : Int) then (if ((l0.length : Int) : Int).toNat ≤ 11728124029610 then ((some (List.replicate ((l0.length : Int) : Int).toNat [] : List (List (S83)))).bind fun y358 => (if 0 < (y358.length : Int) then (impl_KnownAt.l0 k l0 (y358.set (0 : Int).toNat (([(⟨true, 0⟩ : S83), (⟨true, 0⟩ : S83), (⟨true, 0⟩ : S83), (⟨true, 0⟩ : S83)] : List (S83)))) true) else (none))) else (none)) else (none)) else (some ([] : List (List (S83)))))) = some r := h
 clear h
 replace H := Option.bind_eq_some_iff.mp H
 obtain ⟨t357, A20, H⟩ := H
 (try dsimp only at H)
 have A2 := Aside0.mk A20
 clear A20
 by_cases c3 : t357 = true
 ·subst c3
  rw [if_pos rfl] at H
  by_cases c4 : 0 ≤ (l0.length : Int)
  ·rw [if_pos c4] at H
   have c4b0 := eq_true c4
   have c4b1 : decide (0 ≤ (l0.length : Int)) = true := decide_eq_true c4
   clear c4
   by_cases c5 : ((l0.length : Int) : Int).toNat ≤ 11728124029610
   ·rw [if_pos c5] at H
    have c5b0 := eq_true c5
    have c5b1 : decide (((l0.length : Int) : Int).toNat ≤ 11728124029610) = true := decide_eq_true c5
    clear c5
    obtain ⟨y358, hy358⟩ : ∃ y_ : List (List (S83)), y_ = (List.replicate ((l0.length : Int) : Int).toNat []) := ⟨_, rfl⟩
    replace H : (if 0 < (y358.length : Int) then (impl_KnownAt.l0 k l0 (y358.set (0 : Int).toNat (([(⟨true, 0⟩ : S83), (⟨true, 0⟩ : S83), (⟨true, 0⟩ : S83), (⟨true, 0⟩ : S83)] : List (S83)))) true) else (none)) = some r := by first | (rw [hy358]; with_reducible exact H) | (have H2_ := (Option.bind_some _ _).symm.trans H; rw [hy358]; with_reducible exact H2_) | (have H2_ := (Option.bind_some _ _).symm.trans H; with_reducible exact H2_) | with_reducible exact H | (rw [hy358]; exact H) | exact H
    have Ny358 := Aside0.mk hy358
    clear hy358
    obtain ⟨y362, hy362⟩ : ∃ y_ : List (S83), y_ = (([(⟨true, 0⟩ : S83), (⟨true, 0⟩ : S83), (⟨true, 0⟩ : S83), (⟨true, 0⟩ : S83)] : List (S83))) := ⟨_, rfl⟩
    replace H : (if 0 < (y358.length : Int) then (impl_KnownAt.l0 k l0 (y358.set (0 : Int).toNat y362) true) else (none)) = some r := by first | (rw [hy362]; with_reducible exact H) | (have H2_ := (Option.bind_some _ _).symm.trans H; rw [hy362]; with_reducible exact H2_) | (have H2_ := (Option.bind_some _ _).symm.trans H; with_reducible exact H2_) | with_reducible exact H | (rw [hy362]; exact H) | exact H
    have Ny362 := Aside0.mk hy362
    clear hy362
    by_cases c6 : 0 < (y358.length : Int)
    ·rw [if_pos c6] at H
     have c6b0 : decide (0 < (y358.length : Int)) = true := decide_eq_true c6
     have c6b1 : decide (0 < y358.length) = true := decide_eq_true (by omega)
     clear c6
     obtain ⟨y365, hy365⟩ : ∃ y_ : List (List (S83)), y_ = (y358.set (0 : Int).toNat y362) := ⟨_, rfl⟩
     replace H : (impl_KnownAt.l0 k l0 y365 true) = some r := by first | (rw [hy365]; with_reducible exact H) | (have H2_ := (Option.bind_some _ _).symm.trans H; rw [hy365]; with_reducible exact H2_) | (have H2_ := (Option.bind_some _ _).symm.trans H; with_reducible exact H2_) | with_reducible exact H | (rw [hy365]; exact H) | exact H
     have Ny365 := Aside0.mk hy365
     clear hy365
     have H' := Aside0.mk H
     clear H
     go_enter Try.func46, Try.ntmps46
     go_wp2_with (first | ((with_reducible refine gate_callee (f := 34) rfl ?_); refine goesL_ (some 14) rfl rfl Try.func34 (by kernel_rfl) rfl #[.slice A0 l0.length c0, .int .i64 3] rfl att18_0_8 ?_; (with_reducible refine (impl_BodyOk.calls k _ _ l0 3 true _ ?side1 ?side2 A2.out).mono ?_); (case side1 => repeat (first | exact HR0.out | (with_reducible refine Kd.C_alloc ?_ _) | (with_reducible refine Kd.C_drewN ?_ _) | (with_reducible refine Kd.C_drew ?_))); (case side2 => exact HC0.out); rintro e w8 ⟨rfl, hb⟩; refine ⟨_, rfl, ?_⟩; have n0_ := Aside0.mk (below_step att18_0_5 hb); clear HB; have HB := n0_; clear n0_; (try clear hb); (try clear hb2); (try clear hk); (try clear hi)) | ((with_reducible refine gate_dst (N := 18) rfl ?_); refine Kd.S_make (Kd.slice 83 k83) _ 81 rfl (N := 18) rfl 46 _ _ rfl (l0.length : Int) rfl rfl Try.underlying46 (.slice none 0 0) 24 info81 rfl (by decide) (by omega) [] (ok := fun _ => True) (okp := fun _ => True) ⟨_, rfl, Kd.R_nil _ _ _ _ _⟩ (fun _ hk => hk) trivial (of_decide_eq_true att18_0_1) (Nat.le_trans (Nat.mul_le_mul_right _ (of_decide_eq_true att18_0_1 : (l0.length : Int).toNat ≤ 11728124029610)) (by omega)) (Below.refl _ _) (Nat.le_refl _) ?_; intro v359 w9 ho10 hb hg_ hnew_; clear hg_ hnew_; (first | rw [← Ny358.out] at ho10 | (simp only [Int.reduceToNat] at ho10; rw [← Ny358.out] at ho10)); have n0_ := Aside0.mk (Kd.S_lower ho10 (below_size att18_0_5)); have n1_ := Aside0.mk (below_step att18_0_5 hb); clear HB; have HO360 := n0_; have HB := n1_; clear n0_ n1_; clear hb ho10) | ((with_reducible refine gate_dst (N := 4) rfl ?_); refine box_event ?hg (N := 4) ?hd (cs := #[.bool false, .int .i64 0]) (t := 83) ?hr ?_; (case hd => rfl); (case hg => rfl); (case hr => first | (go_simp; done) | (go_simp; rfl)); intro gb361 hg w11 hbox hb; have n0_ := Aside0.mk (Kd.S_below (Kd.S_elderB att18_0_32 gb361 (Nat.le_of_eq hg.symm)) hb); have n1_ := Aside0.mk (below_step att18_0_5 hb); have n2_ := Aside0.mk (hbox); have n3_ := Aside0.mk ((by rw [hg]; exact (below_size att18_0_5) : w.heap.size ≤ gb361)); have n4_ := Aside0.mk ((by rw [hg]; exact (below_size att18_0_5) : w.heap.size ≤ gb361)); clear HO360; clear HB; have HO360 := n0_; have HB := n1_; have BK361 := n2_; have GW361 := n3_; have GE361 := n4_; clear n0_ n1_ n2_ n3_ n4_; clear hb hbox hg; have hcz12_0 : w11.cell? ⟨gb361, 0, none⟩ = some (.bool false) := (blk_cell BK361.out 0).trans rfl; have hcz12_1 : w11.cell? ⟨gb361, 1, none⟩ = some (.int .i64 0) := (blk_cell BK361.out 1).trans rfl; have hfz12_0 := blk_frozen BK361.out 0; have hfz12_1 := blk_frozen BK361.out 1) | ((with_reducible refine gate_dst (N := 25) rfl ?_); refine Kd.R_lit k83 _ 83 ?hg (N := 25) ?hd (xs := ([(⟨true, 0⟩ : S83), (⟨true, 0⟩ : S83), (⟨true, 0⟩ : S83), (⟨true, 0⟩ : S83)] : List (S83))) (inner := [.bool true, .int .i64 0, .bool true, .int .i64 0, .bool true, .int .i64 0, .bool true, .int .i64 0]) (ok := fun _ => True) (okp := fun _ => True) ?hr ?hp (fun _ hk => hk) trivial (Below.refl _ _) (Nat.le_refl _) (by simp) ?_; (case hd => rfl); (case hg => rfl); (case hr => first | (go_simp; done) | (go_simp; rfl)); (case hp => exact (Reps.c2 (show Kd.M k83 _ _ _ (⟨true, 0⟩ : S83) [.bool true, .int .i64 0] from (k83_mkM _ _ _ (⟨true, 0⟩ : S83) )) (Reps.c2 (show Kd.M k83 _ _ _ (⟨true, 0⟩ : S83) [.bool true, .int .i64 0] from (k83_mkM _ _ _ (⟨true, 0⟩ : S83) )) (Reps.c2 (show Kd.M k83 _ _ _ (⟨true, 0⟩ : S83) [.bool true, .int .i64 0] from (k83_mkM _ _ _ (⟨true, 0⟩ : S83) )) (Reps.c2 (show Kd.M k83 _ _ _ (⟨true, 0⟩ : S83) [.bool true, .int .i64 0] from (k83_mkM _ _ _ (⟨true, 0⟩ : S83) )) (Reps.none _ _)))))); intro v363 w13 ho14 hb hg_ hnew_; clear hg_ hnew_; (first | rw [← Ny362.out] at ho14 | (simp only [Int.reduceToNat] at ho14; rw [← Ny362.out] at ho14)); have n0_ := Aside0.mk (Kd.S_elder' (by (with_reducible repeat (first | apply Kd.S_alloc | apply Kd.S_drewN | apply Kd.S_drew)); exact (Kd.S_mono (Kd.S_far (p := ⟨gb361, 1, none⟩) (Kd.S_far (p := ⟨gb361, 0, none⟩) (Kd.S_mono HO360.out (fun k_ hk => (⟨hk, hk.2⟩ : _ ∧ k_ ≠ gb361))) (fun _ hk => hk.2) (.bool true)) (fun _ hk => hk.2) (.int .i64 0)) (fun _ h_ => h_.1))) (Kd.R_base ho14) hb); have n1_ := Aside0.mk (Kd.R_lower (Kd.R_newB ho14 (g := gb361) (o := .cells #[.bool true, .int .i64 0] 83 (0, 0)) att18_0_15) (below_size att18_0_2)); have n2_ := Aside0.mk (blk_below (g := gb361) (o := .cells #[.bool true, .int .i64 0] 83 (0, 0)) att18_0_15 hb); have n3_ := Aside0.mk (below_step att18_0_2 hb); clear HO360; clear BK361; clear HB; have HO360 := n0_; have HO364 := n1_; have BK361 := n2_; have HB := n3_; clear n0_ n1_ n2_ n3_; clear hb ho14; obtain ⟨Aq363, cq363, eq363⟩ := Kd.R_slice HO364.out; subst eq363; have p7 : 0 ≤ (0 : Int) := (by omega); have q7 : (0 : Int) < ((y358.length : Int) : Int) := of_decide_eq_true att18_0_1; have qi7 : (0 < y358.length) = True := eq_true (by omega); obtain ⟨go7, co7, eo7, gb7, gl7, cl7, HG7⟩ := Kd.S_form HO360.out (by omega); (first | cases eo7 | (injection eo7 with ea_ en_ ec_; (first | subst ea_ | (injection ea_ with ea_; subst ea_)); subst ec_; clear en_)); have GB7 := Aside0.mk gb7; have GG7 := Aside0.mk HG7; clear gb7 gl7 HG7; obtain ⟨_, ce7, hcl7, hM7, hcc7, hfr7, _, _⟩ := Kd.S_elem HO360.out [] (0 : Int) p7 q7; obtain ⟨ve7_0, rfl, ge7_0⟩ := hM7; have hx7_0 := hcc7 0 _ rfl; have hf7_0 := hfr7 0; (try simp only [show ((Kd.slice 83 k83)).sz = 1 from rfl, Nat.mul_one, Nat.add_zero] at hx7_0); (try simp only [show ((Kd.slice 83 k83)).sz = 1 from rfl, Nat.mul_one, Nat.add_zero] at hf7_0); clear hcl7 hcc7 hfr7 ; (try rw [show ((0 : Int)).toNat = 0 from rfl] at hx7_0); (try simp only [Nat.reduceMul, Nat.zero_mul, Nat.zero_add, Nat.reduceAdd] at hx7_0); (try rw [show ((0 : Int)).toNat = 0 from rfl] at hf7_0); (try simp only [Nat.reduceMul, Nat.zero_mul, Nat.zero_add, Nat.reduceAdd] at hf7_0); replace p7 := eq_true p7; replace q7 := eq_true q7; have n_ := Aside0.mk (Kd.S_mono (ok' := (fun k_ => some k_ ≠ ((.slice Aq363 y362.length cq363) : Value).ownBlock ∧ k_ ≠ gb361)) HO360.out (fun k_ hk => ⟨hk.2, hk.1.2⟩)); clear HO360; have HO360 := n_; clear n_; have HX15 := Aside0.mk (show Kd.S (Kd.slice 83 k83) 81 w13 w.heap.size (fun k_ => ((fun k_ => k_ ≠ gb361)) k_ ∧ ¬ ((fun k_ => some k_ = ((.slice Aq363 y362.length cq363) : Value).ownBlock)) k_) (.slice (some ⟨go7, 0, none⟩) y358.length co7) y358 from (by (with_reducible repeat (first | apply Kd.S_alloc | apply Kd.S_drewN | apply Kd.S_drew)); exact Kd.S_mono HO360.out (fun k_ hk => ⟨hk.2, fun e_ => hk.1 e_⟩))); obtain ⟨oki15, ce15, hcl15, hM15, hcc15, hfr15, hoki15, hH15⟩ := Kd.S_elem HX15.out [] (0 : Int) (by omega) att18_1_4; obtain ⟨ve15_0, rfl, ge15_0⟩ := hM15; have HP15 := Kd.S_seg hH15 (by omega) att18_1_4 (seg := [(.slice Aq363 y362.length cq363)]) (j := 0) (show 1 ≤ 1 from by decide) (x' := y362) (Kd.M_row (Kd.R_mono (Kd.R_tight rfl (Kd.R_mono (ok' := fun k_ => ((fun k_ => k_ ≠ gb361)) k_ ∧ k_ ≠ go7) (Kd.R_apart' (HO364.out) (Kd.S_typed HO360.out) (by decide)) (fun k_ hk => ⟨hk.1.2, fun e_ => (hk.2) (by rw [e_]; rfl)⟩))) (fun _ h_ => Or.inr (h_)))) (fun _ hk => hk) (fun k_ hk_ => ((Kd.R_mono (ok' := fun k_ => ((fun k_ => k_ ≠ gb361)) k_ ∧ k_ ≠ go7) (Kd.R_apart' (HO364.out) (Kd.S_typed HO360.out) (by decide)) (fun k_ hk => ⟨hk.1.2, fun e_ => (hk.2) (by rw [e_]; rfl)⟩))).1 k_ hk_.symm); have hx15_0 := hcc15 0 _ rfl; (try simp only [show ((Kd.slice 83 k83)).sz = 1 from rfl, Nat.mul_one, Nat.add_zero] at hx15_0); (try rw [show ((0 : Int)).toNat = 0 from rfl] at hx15_0); (try simp only [Nat.reduceMul, Nat.zero_mul, Nat.zero_add, Nat.reduceAdd] at hx15_0); have hf15_0 := hfr15 0; (try simp only [show ((Kd.slice 83 k83)).sz = 1 from rfl, Nat.mul_one, Nat.add_zero] at hf15_0); (try rw [show ((0 : Int)).toNat = 0 from rfl] at hf15_0); (try simp only [Nat.reduceMul, Nat.zero_mul, Nat.zero_add, Nat.reduceAdd] at hf15_0); clear hcl15 hcc15 hfr15 hoki15 hH15; (try simp only [show ((Kd.slice 83 k83)).sz = 1 from rfl, Nat.mul_one, Nat.add_zero] at HP15); obtain ⟨av_sl, cv_sl, ev_sl⟩ := Kd.R_slice HO364.out) | ((with_reducible refine gate_store (t := 81) (p := 26) rfl ?_); refine store_event (t := 81) (p := 26) (v := ?vo_w16) (w1 := (w13.setCell ⟨go7, 0, none⟩ ((.slice Aq363 y362.length cq363)))) ?hg ?ho ?hn ?hr ?_; (case ho => rfl); (case hg => rfl); (case hn => rfl); (case hr => first | (go_simp; done) | (go_simp; rfl)); intro w16 hw; have hg : w13.grownBy w16 (some go7) := (by rw [hw]; exact HP15.2); have hp_ : Kd.S (Kd.slice 83 k83) 81 w16 w.heap.size (fun k_ => k_ ≠ gb361) (.slice (some ⟨go7, 0, none⟩) y358.length co7) y365 := (by rw [hw, Ny365.out]; exact HP15.1); clear HP15; have n0_ := Aside0.mk (hp_); have n1_ := Aside0.mk (blk_grown (g := gb361) (o := .cells #[.bool true, .int .i64 0] 83 (0, 0)) att18_0_3 hg (Kd.S_ne HO360.out BK361.out (by decide))); have n2_ := Aside0.mk ((by rw [hw]; exact below_set (HB.out) GB7.out : Below w.heap.size w w16)); clear HO360; clear BK361; clear HB; clear HO364; have HO360 := n0_; have BK361 := n1_; have HB := n2_; clear n0_ n1_ n2_; clear hg hw hp_))
     go_loopg [5] k (fun kq v5 w' => ∃ (x3_1 : List (List (S83))) (x5_1 : Bool), v5 = .bool x5_1 ∧ Aside0 (impl_KnownAt.l0 kq l0 x3_1 x5_1 = some r) ∧ Aside0 (kq ≤ k) ∧ Aside0 (Kd.S (Kd.slice 83 k83) 81 w' w.heap.size (fun k_ => k_ ≠ gb361) (.slice (some ⟨go7, 0, none⟩) y358.length co7) x3_1) ∧ Aside0 (w'.heap[gb361]? = some (.cells #[.bool true, .int .i64 0] 83 (0, 0))) ∧ Aside0 (Below w.heap.size w w'))
     case atStart => exact ⟨(y365), (true), att18_0_7, H', ⟨Nat.le_refl _⟩, ⟨att18_0_32⟩, ⟨att18_0_3⟩, ⟨att18_0_2⟩⟩
     case round =>
      clear H'
      try clear c1
      try clear hx1
      try clear hf1
      try clear c2
      try clear p2
      try clear c3
      try clear c4
      try clear c4b0
      try clear c4b1
      try clear c5
      try clear c5b0
      try clear c5b1
      try clear c6
      try clear c6b0
      try clear c6b1
      try clear c7
      try clear p7
      try clear q7
      try clear hx7
      try clear qi7
      try clear hf7
      try clear c15
      try clear hx15
      try clear hf15
      try clear hcz12_0
      try clear hcz12_1
      try clear hfz12_0
      try clear hfz12_1
      try clear hx15_0
      try clear hx7_0
      try clear p7
      try clear q7
      obtain ⟨x3_1, x5_1, rfl, HA, HK1, HO_3, BK361, HB⟩ := hrel
      have hl3_1 := (Kd.S_reads' HO_3.out).1
      rw [hl3_1] at HO_3
      (try simp only [hl3_1])
      (try simp only [hl3_1] at BK361)
      cases gk with
      | zero => exact absurd HA.out (by simp [impl_KnownAt.l0])
      | succ k1 =>
       have H := HA.out
       clear HA
       simp only [impl_KnownAt.l0] at H
       by_cases c17 : x5_1 = true
       ·subst c17
        rw [if_pos rfl] at H
        have H' := Aside0.mk H
        clear H
        go_wp2
        go_loopg [5, 30] k1 (fun kq v5 v30 w' => ∃ (x3_2 : List (List (S83))) (x5_2 : Bool) (x30_2 : Int), v5 = .bool x5_2 ∧ v30 = .int .i64 x30_2 ∧ Aside0 (impl_KnownAt.l1 kq l0 x3_2 x5_2 l0 (l0.length : Int) x30_2 = some r) ∧ Aside0 (kq ≤ k1) ∧ Aside0 (Kd.S (Kd.slice 83 k83) 81 w' w.heap.size (fun k_ => k_ ≠ gb361) (.slice (some ⟨go7, 0, none⟩) x3_1.length co7) x3_2) ∧ Aside0 (w'.heap[gb361]? = some (.cells #[.bool true, .int .i64 0] 83 (0, 0))) ∧ Aside0 (Below w.heap.size w w'))
        case atStart => exact ⟨(x3_1), (false), (0), att18_0_7, att18_0_7, H', ⟨Nat.le_refl _⟩, ⟨att18_0_29⟩, ⟨att18_0_28⟩, ⟨att18_0_2⟩⟩
        case round =>
         clear H'
         try clear c1
         try clear hx1
         try clear hf1
         try clear c2
         try clear p2
         try clear c3
         try clear c4
         try clear c4b0
         try clear c4b1
         try clear c5
         try clear c5b0
         try clear c5b1
         try clear c6
         try clear c6b0
         try clear c6b1
         try clear c7
         try clear p7
         try clear q7
         try clear hx7
         try clear qi7
         try clear hf7
         try clear c15
         try clear hx15
         try clear hf15
         try clear c17
         try clear hcz12_0
         try clear hcz12_1
         try clear hfz12_0
         try clear hfz12_1
         try clear hx15_0
         try clear hx7_0
         try clear p2
         try clear p7
         try clear q7
         obtain ⟨x3_2, x5_2, x30_2, rfl, rfl, HA, HK2, HO_3, BK361, HB⟩ := hrel
         have hl3_2 := (Kd.S_reads' HO_3.out).1
         rw [hl3_2] at HO_3
         (try simp only [hl3_2])
         (try simp only [hl3_2] at BK361)
         cases gk with
         | zero => exact absurd HA.out (by simp [impl_KnownAt.l1])
         | succ k2 =>
          have H := HA.out
          clear HA
          simp only [impl_KnownAt.l1] at H
          by_cases c18 : x30_2 < (l0.length : Int)
          ·rw [if_pos c18] at H
           have c18b0 : decide (x30_2 < (l0.length : Int)) = true := decide_eq_true c18
           clear c18
           by_cases c19 : 0 ≤ x30_2
           ·rw [if_pos c19] at H
            have c19b0 : decide (0 ≤ x30_2) = true := decide_eq_true c19
            clear c19
            by_cases c20 : x30_2 < (l0.length : Int)
            ·rw [if_pos c20] at H
             have c20b0 : decide (x30_2 < (l0.length : Int)) = true := decide_eq_true c20
             clear c20
             by_cases c21 : x30_2 < (x3_2.length : Int)
             ·rw [if_pos c21] at H
              have c21b0 : decide (x30_2 < (x3_2.length : Int)) = true := decide_eq_true c21
              clear c21
              by_cases c22 : ((rd_L5 x3_2 x30_2).length : Int) = 0
              ·rw [if_pos c22] at H
               have c22b0 : (((rd_L5 x3_2 x30_2).length : Int) == 0) = true := beq_iff_eq.mpr c22
               have c22b1 : (((rd_L5 x3_2 x30_2).length : Int) != 0) = false := bne_eq_false_iff_eq.mpr c22
               clear c22
               have H' := Aside0.mk H
               clear H
               have p366 : 0 ≤ (x30_2 : Int) := of_decide_eq_true att18_0_1
               have q366 : x30_2 < (l0.length : Int) := of_decide_eq_true att18_0_1
               obtain ⟨ad366, e366, hx366_0, hx366_1, hx366_2, hx366_3, hx366_4⟩ := at_T63 HR0.out x30_2 p366 q366
               cases e366
               replace hx366_0 := (HB.out.cell (World.block_lt_of_cell? w _ hx366_0)).trans hx366_0
               replace hx366_1 := (HB.out.cell (World.block_lt_of_cell? w _ hx366_1)).trans hx366_1
               replace hx366_2 := (HB.out.cell (World.block_lt_of_cell? w _ hx366_2)).trans hx366_2
               replace hx366_3 := (HB.out.cell (World.block_lt_of_cell? w _ hx366_3)).trans hx366_3
               replace hx366_4 := (HB.out.cell (World.block_lt_of_cell? w _ hx366_4)).trans hx366_4
               replace p366 := eq_true p366
               replace q366 := eq_true q366
               go_wp2_with (first | ((with_reducible refine gate_dst (N := 7) rfl ?_); refine box_event ?hg (N := 7) ?hd (cs := #[.int .i64 0, .int .i64 0, .int .i64 0, .int .i64 0, .int .i64 0]) (t := 63) ?hr ?_; (case hd => rfl); (case hg => rfl); (case hr => first | (go_simp; done) | (go_simp; rfl)); intro gb367 hg w23 hbox hb; have n0_ := Aside0.mk (Kd.S_below att18_0_11 hb); have n1_ := Aside0.mk (blk_below (g := gb361) (o := .cells #[.bool true, .int .i64 0] 83 (0, 0)) att18_0_3 hb); have n2_ := Aside0.mk (below_step att18_0_2 hb); have n3_ := Aside0.mk (hbox); have n4_ := Aside0.mk ((by rw [hg]; exact (below_size att18_0_2) : w.heap.size ≤ gb367)); have n5_ := Aside0.mk ((by rw [hg]; exact (below_size att18_0_2) : w.heap.size ≤ gb367)); have n6_ := Aside0.mk ((by rw [hg]; exact Nat.ne_of_lt (blk_lt (g := gb361) (o := .cells #[.bool true, .int .i64 0] 83 (0, 0)) att18_0_3) : gb361 ≠ gb367)); have n7_ := Aside0.mk ((by rw [hg]; exact Nat.ne_of_gt (blk_lt (g := gb361) (o := .cells #[.bool true, .int .i64 0] 83 (0, 0)) att18_0_3) : gb367 ≠ gb361)); clear HO_3; clear BK361; clear HB; have HO_3 := n0_; have BK361 := n1_; have HB := n2_; have BK367 := n3_; have GW367 := n4_; have GE367 := n5_; have NB361_367 := n6_; have NB367_361 := n7_; clear n0_ n1_ n2_ n3_ n4_ n5_ n6_ n7_; clear hb hbox hg; have hnb24 := NB367_361.out; have hnc24 := NB361_367.out; have hcz25_0 : w23.cell? ⟨gb367, 0, none⟩ = some (.int .i64 0) := (blk_cell BK367.out 0).trans rfl; have hcz25_1 : w23.cell? ⟨gb367, 1, none⟩ = some (.int .i64 0) := (blk_cell BK367.out 1).trans rfl; have hcz25_2 : w23.cell? ⟨gb367, 2, none⟩ = some (.int .i64 0) := (blk_cell BK367.out 2).trans rfl; have hcz25_3 : w23.cell? ⟨gb367, 3, none⟩ = some (.int .i64 0) := (blk_cell BK367.out 3).trans rfl; have hcz25_4 : w23.cell? ⟨gb367, 4, none⟩ = some (.int .i64 0) := (blk_cell BK367.out 4).trans rfl; have hfz25_0 := blk_frozen BK367.out 0; have hfz25_1 := blk_frozen BK367.out 1; have hfz25_2 := blk_frozen BK367.out 2; have hfz25_3 := blk_frozen BK367.out 3; have hfz25_4 := blk_frozen BK367.out 4) | ((with_reducible refine gate_store (t := 63) (p := 7) rfl ?_); refine store_event (t := 63) (p := 7) (v := ?vo_w26) (w1 := (((((w23.setCell ⟨gb367, 0, none⟩ (.int .i64 ((rd_T63 l0 x30_2).f0))).setCell ⟨gb367, 1, none⟩ (.int .i64 ((rd_T63 l0 x30_2).f1))).setCell ⟨gb367, 2, none⟩ (.int .i64 ((rd_T63 l0 x30_2).f2))).setCell ⟨gb367, 3, none⟩ (.int .i64 ((rd_T63 l0 x30_2).f3))).setCell ⟨gb367, 4, none⟩ (.int .i64 ((rd_T63 l0 x30_2).f4)))) ?hg ?ho ?hn ?hr ?_; (case ho => rfl); (case hg => rfl); (case hn => rfl); (case hr => first | (go_simp; done) | (go_simp; rfl)); intro w26 hw; have n0_ : Aside0 (Kd.S (Kd.slice 83 k83) 81 w26 w.heap.size (fun k_ => k_ ≠ gb361) (.slice (some ⟨go7, 0, none⟩) x3_2.length co7) x3_2) := ⟨att18_0_10⟩; have n1_ : Aside0 (w26.heap[gb361]? = some (.cells #[.bool true, .int .i64 0] 83 (0, 0))) := ⟨att18_0_6⟩; have n2_ : Aside0 (w26.heap[gb367]? = some (.cells #[.int .i64 ((rd_T63 l0 x30_2).f0), .int .i64 ((rd_T63 l0 x30_2).f1), .int .i64 ((rd_T63 l0 x30_2).f2), .int .i64 ((rd_T63 l0 x30_2).f3), .int .i64 ((rd_T63 l0 x30_2).f4)] 63 (0, 0))) := ⟨att18_0_4⟩; have n3_ : Aside0 (Below w.heap.size w w26) := ⟨(by rw [hw]; exact att18_0_0)⟩; clear hw; clear HO_3; clear BK361; clear BK367; clear HB; have HO_3 := n0_; have BK361 := n1_; have BK367 := n2_; have HB := n3_; clear n0_ n1_ n2_ n3_; have p368 : 0 ≤ (x30_2 : Int) := of_decide_eq_true att18_0_1; have q368 : x30_2 < (x3_2.length : Int) := of_decide_eq_true att18_0_1; obtain ⟨ad368, A368_0, c368_0, e368, hx368_0, hl368_0, hi368_0⟩ := at_L5 (Kd.S_reads' HO_3.out).2.2 x30_2 p368 q368; obtain rfl : (⟨go7, 0, none⟩ : Addr) = ad368 := (by injection e368); obtain ⟨ce368, hce368, hMe368, hcc368⟩ := Kd.S_get HO_3.out [] x30_2 p368 att18_1_7; obtain ⟨ve368_0, rfl, ge368_0⟩ := hMe368; have hv368_0 := hcc368 0 _ rfl; rw [Nat.add_zero, show ((Kd.slice 83 k83)).sz = 1 from rfl, Nat.mul_one] at hv368_0; replace hv368_0 := Option.some.inj (hv368_0.symm.trans hx368_0); rw [hv368_0] at ge368_0; have HL368_0 := Aside0.mk (show Kd.R k83 83 _ _ _ _ (rd_L5 x3_2 x30_2) from ge368_0); clear hv368_0 ge368_0; clear hcc368 hce368; (first | simp only [add_plain] at hx368_0 | simp only [add_at] at hx368_0 | simp only [Addr.add, Nat.zero_add] at hx368_0 | skip); have HR368_0 := Aside0.mk hi368_0; have HC368_0 := Aside0.mk hl368_0; clear hi368_0 hl368_0; replace p368 := eq_true p368; replace q368 := eq_true q368))
               (try simp only [← hl3_2])
               go_roundg k2
               case measure => have := HK1.out; have := HK2.out; omega
               case rel => exact ⟨(x3_2), (x5_2), (wrap64 (x30_2 + 1)), att18_0_7, att18_0_7, H', ⟨att18_0_30⟩, ⟨att18_0_14⟩, ⟨att18_0_9⟩, ⟨att18_0_0⟩⟩
              ·rw [if_neg c22] at H
               have c22b0 : (((rd_L5 x3_2 x30_2).length : Int) == 0) = false := beq_eq_false_iff_ne.mpr c22
               have c22b1 : (((rd_L5 x3_2 x30_2).length : Int) != 0) = true := bne_iff_ne.mpr c22
               have c22b2 : ¬ ((rd_L5 x3_2 x30_2) = []) := fun h_ => c22 (by rw [h_]; rfl)
               replace H := Option.bind_eq_some_iff.mp H
               obtain ⟨t370, A270, H⟩ := H
               (try dsimp only at H)
               have A27 := Aside0.mk A270
               clear A270
               replace H := Option.bind_eq_some_iff.mp H
               obtain ⟨t373, A280, H⟩ := H
               (try dsimp only at H)
               have A28 := Aside0.mk A280
               clear A280
               have H' := Aside0.mk H
               clear H
               have p366 : 0 ≤ (x30_2 : Int) := of_decide_eq_true att18_0_1
               have q366 : x30_2 < (l0.length : Int) := of_decide_eq_true att18_0_1
               obtain ⟨ad366, e366, hx366_0, hx366_1, hx366_2, hx366_3, hx366_4⟩ := at_T63 HR0.out x30_2 p366 q366
               cases e366
               replace hx366_0 := (HB.out.cell (World.block_lt_of_cell? w _ hx366_0)).trans hx366_0
               replace hx366_1 := (HB.out.cell (World.block_lt_of_cell? w _ hx366_1)).trans hx366_1
               replace hx366_2 := (HB.out.cell (World.block_lt_of_cell? w _ hx366_2)).trans hx366_2
               replace hx366_3 := (HB.out.cell (World.block_lt_of_cell? w _ hx366_3)).trans hx366_3
               replace hx366_4 := (HB.out.cell (World.block_lt_of_cell? w _ hx366_4)).trans hx366_4
               replace p366 := eq_true p366
               replace q366 := eq_true q366
               try go_wp2_with (first | ((with_reducible refine gate_dst (N := 7) rfl ?_); refine box_event ?hg (N := 7) ?hd (cs := #[.int .i64 0, .int .i64 0, .int .i64 0, .int .i64 0, .int .i64 0]) (t := 63) ?hr ?_; (case hd => rfl); (case hg => rfl); (case hr => first | (go_simp; done) | (go_simp; rfl)); intro gb367 hg w29 hbox hb; have n0_ := Aside0.mk (Kd.S_below att18_0_11 hb); have n1_ := Aside0.mk (blk_below (g := gb361) (o := .cells #[.bool true, .int .i64 0] 83 (0, 0)) att18_0_3 hb); have n2_ := Aside0.mk (below_step att18_0_2 hb); have n3_ := Aside0.mk (hbox); have n4_ := Aside0.mk ((by rw [hg]; exact (below_size att18_0_2) : w.heap.size ≤ gb367)); have n5_ := Aside0.mk ((by rw [hg]; exact (below_size att18_0_2) : w.heap.size ≤ gb367)); have n6_ := Aside0.mk ((by rw [hg]; exact Nat.ne_of_lt (blk_lt (g := gb361) (o := .cells #[.bool true, .int .i64 0] 83 (0, 0)) att18_0_3) : gb361 ≠ gb367)); have n7_ := Aside0.mk ((by rw [hg]; exact Nat.ne_of_gt (blk_lt (g := gb361) (o := .cells #[.bool true, .int .i64 0] 83 (0, 0)) att18_0_3) : gb367 ≠ gb361)); clear HO_3; clear BK361; clear HB; have HO_3 := n0_; have BK361 := n1_; have HB := n2_; have BK367 := n3_; have GW367 := n4_; have GE367 := n5_; have NB361_367 := n6_; have NB367_361 := n7_; clear n0_ n1_ n2_ n3_ n4_ n5_ n6_ n7_; clear hb hbox hg; have hnb30 := NB367_361.out; have hnc30 := NB361_367.out; have hcz31_0 : w29.cell? ⟨gb367, 0, none⟩ = some (.int .i64 0) := (blk_cell BK367.out 0).trans rfl; have hcz31_1 : w29.cell? ⟨gb367, 1, none⟩ = some (.int .i64 0) := (blk_cell BK367.out 1).trans rfl; have hcz31_2 : w29.cell? ⟨gb367, 2, none⟩ = some (.int .i64 0) := (blk_cell BK367.out 2).trans rfl; have hcz31_3 : w29.cell? ⟨gb367, 3, none⟩ = some (.int .i64 0) := (blk_cell BK367.out 3).trans rfl; have hcz31_4 : w29.cell? ⟨gb367, 4, none⟩ = some (.int .i64 0) := (blk_cell BK367.out 4).trans rfl; have hfz31_0 := blk_frozen BK367.out 0; have hfz31_1 := blk_frozen BK367.out 1; have hfz31_2 := blk_frozen BK367.out 2; have hfz31_3 := blk_frozen BK367.out 3; have hfz31_4 := blk_frozen BK367.out 4) | ((with_reducible refine gate_store (t := 63) (p := 7) rfl ?_); refine store_event (t := 63) (p := 7) (v := ?vo_w32) (w1 := (((((w29.setCell ⟨gb367, 0, none⟩ (.int .i64 ((rd_T63 l0 x30_2).f0))).setCell ⟨gb367, 1, none⟩ (.int .i64 ((rd_T63 l0 x30_2).f1))).setCell ⟨gb367, 2, none⟩ (.int .i64 ((rd_T63 l0 x30_2).f2))).setCell ⟨gb367, 3, none⟩ (.int .i64 ((rd_T63 l0 x30_2).f3))).setCell ⟨gb367, 4, none⟩ (.int .i64 ((rd_T63 l0 x30_2).f4)))) ?hg ?ho ?hn ?hr ?_; (case ho => rfl); (case hg => rfl); (case hn => rfl); (case hr => first | (go_simp; done) | (go_simp; rfl)); intro w32 hw; have n0_ : Aside0 (Kd.S (Kd.slice 83 k83) 81 w32 w.heap.size (fun k_ => k_ ≠ gb361) (.slice (some ⟨go7, 0, none⟩) x3_2.length co7) x3_2) := ⟨att18_0_10⟩; have n1_ : Aside0 (w32.heap[gb361]? = some (.cells #[.bool true, .int .i64 0] 83 (0, 0))) := ⟨att18_0_6⟩; have n2_ : Aside0 (w32.heap[gb367]? = some (.cells #[.int .i64 ((rd_T63 l0 x30_2).f0), .int .i64 ((rd_T63 l0 x30_2).f1), .int .i64 ((rd_T63 l0 x30_2).f2), .int .i64 ((rd_T63 l0 x30_2).f3), .int .i64 ((rd_T63 l0 x30_2).f4)] 63 (0, 0))) := ⟨att18_0_4⟩; have n3_ : Aside0 (Below w.heap.size w w32) := ⟨(by rw [hw]; exact att18_0_0)⟩; clear hw; clear HO_3; clear BK361; clear BK367; clear HB; have HO_3 := n0_; have BK361 := n1_; have BK367 := n2_; have HB := n3_; clear n0_ n1_ n2_ n3_; have p368 : 0 ≤ (x30_2 : Int) := of_decide_eq_true att18_0_1; have q368 : x30_2 < (x3_2.length : Int) := of_decide_eq_true att18_0_1; obtain ⟨ad368, A368_0, c368_0, e368, hx368_0, hl368_0, hi368_0⟩ := at_L5 (Kd.S_reads' HO_3.out).2.2 x30_2 p368 q368; obtain rfl : (⟨go7, 0, none⟩ : Addr) = ad368 := (by injection e368); obtain ⟨ce368, hce368, hMe368, hcc368⟩ := Kd.S_get HO_3.out [] x30_2 p368 att18_1_7; obtain ⟨ve368_0, rfl, ge368_0⟩ := hMe368; have hv368_0 := hcc368 0 _ rfl; rw [Nat.add_zero, show ((Kd.slice 83 k83)).sz = 1 from rfl, Nat.mul_one] at hv368_0; replace hv368_0 := Option.some.inj (hv368_0.symm.trans hx368_0); rw [hv368_0] at ge368_0; have HL368_0 := Aside0.mk (show Kd.R k83 83 _ _ _ _ (rd_L5 x3_2 x30_2) from ge368_0); clear hv368_0 ge368_0; clear hcc368 hce368; (first | simp only [add_plain] at hx368_0 | simp only [add_at] at hx368_0 | simp only [Addr.add, Nat.zero_add] at hx368_0 | skip); have HR368_0 := Aside0.mk hi368_0; have HC368_0 := Aside0.mk hl368_0; clear hi368_0 hl368_0; replace p368 := eq_true p368; replace q368 := eq_true q368))
               have n0_ := Aside0.mk (Kd.S_drew HO_3.out)
               have n1_ := Aside0.mk (Kd.R_drew HL368_0.out)
               have n2_ := Aside0.mk (blk_drew BK361.out)
               have n3_ := Aside0.mk (blk_drew BK367.out)
               have n4_ := Aside0.mk (Kd.C_drew HR368_0.out)
               have n5_ := Aside0.mk (below_drew1 HB.out)
               clear HO_3
               clear HL368_0
               clear BK361
               clear BK367
               clear HR368_0
               clear HB
               have HO_3 := n0_
               have HL368_0 := n1_
               have BK361 := n2_
               have BK367 := n3_
               have HR368_0 := n4_
               have HB := n5_
               clear n0_ n1_ n2_ n3_ n4_ n5_
               have p369 : 0 ≤ (x30_2 : Int) := of_decide_eq_true att18_0_1
               have q369 : x30_2 < (x3_2.length : Int) := of_decide_eq_true att18_0_1
               obtain ⟨ad369, A369_0, c369_0, e369, hx369_0, hl369_0, hi369_0⟩ := at_L5 (Kd.S_reads' HO_3.out).2.2 x30_2 p369 q369
               obtain rfl : (⟨go7, 0, none⟩ : Addr) = ad369 := (by injection e369)
               obtain ⟨ce369, hce369, hMe369, hcc369⟩ := Kd.S_get HO_3.out [] x30_2 p369 (by first | exact q369 | exact of_decide_eq_true att18_0_1 | (have e_ := (Kd.S_reads' HO_3.out).1; omega))
               obtain ⟨ve369_0, rfl, ge369_0⟩ := hMe369
               have hv369_0 := hcc369 0 _ rfl
               rw [Nat.add_zero, show ((Kd.slice 83 k83)).sz = 1 from rfl, Nat.mul_one] at hv369_0
               replace hv369_0 := Option.some.inj (hv369_0.symm.trans hx369_0)
               rw [hv369_0] at ge369_0
               have HL369_0 := Aside0.mk (show Kd.R k83 83 _ _ _ _ (rd_L5 x3_2 x30_2) from ge369_0)
               clear hv369_0 ge369_0
               clear hcc369 hce369
               (first | simp only [add_plain] at hx369_0 | simp only [add_at] at hx369_0 | simp only [Addr.add, Nat.zero_add] at hx369_0 | skip)
               have HR369_0 := Aside0.mk hi369_0
               have HC369_0 := Aside0.mk hl369_0
               clear hi369_0 hl369_0
               replace p369 := eq_true p369
               replace q369 := eq_true q369
               refine start_ (n := 7) (S := fun w' => w'.cell? ⟨gb367, 0, none⟩ = some (.int .i64 ((rd_T63 l0 x30_2).f0)) ∧ w'.cell? ⟨gb367, 1, none⟩ = some (.int .i64 ((rd_T63 l0 x30_2).f1)) ∧ w'.cell? ⟨gb367, 2, none⟩ = some (.int .i64 ((rd_T63 l0 x30_2).f2)) ∧ w'.cell? ⟨gb367, 3, none⟩ = some (.int .i64 ((rd_T63 l0 x30_2).f3)) ∧ w'.cell? ⟨gb367, 4, none⟩ = some (.int .i64 ((rd_T63 l0 x30_2).f4)) ∧ w'.cell? ⟨go7, (x30_2).toNat, none⟩ = some (.slice A369_0 (rd_L5 x3_2 x30_2).length c369_0)) (ds := []) (tf_ 0 7) (by kernel_rfl) rfl rfl ⟨(blk_cell BK367.out 0).trans rfl, (blk_cell BK367.out 1).trans rfl, (blk_cell BK367.out 2).trans rfl, (blk_cell BK367.out 3).trans rfl, (blk_cell BK367.out 4).trans rfl, hx369_0⟩ (fun hHeld => ?_)
               generalize w32.drew = w33 at HO_3 HL368_0 BK361 BK367 HR368_0 HB HL369_0 HR369_0 hx369_0 hHeld ⊢
               refine pureP_ (i := 1) (N := some 42) #[false, true, false, false, false, false, false] (by kernel_rfl) (h := ?_)
               refine pureP_ (i := 2) (N := some 43) #[false, true, true, false, false, false, false] (by kernel_rfl) (h := ?_)
               refine pureP_ (i := 3) (N := some 44) #[false, true, true, true, false, false, false] (by kernel_rfl) (h := ?_)
               refine takeP_ (i := 0) (N := some 41) (tf_ 4 3) (by kernel_rfl) hHeld (hy := Or.inl ⟨by rfl, by rintro w' ⟨s0, s1, s2, s3, s4, s5⟩; go_simp; with_reducible rfl⟩) (h := ?_)
               refine takeP_ (i := 4) (N := some 45) (tf_ 5 2) (by kernel_rfl) hHeld (hy := Or.inl ⟨by rfl, by rintro w' ⟨s0, s1, s2, s3, s4, s5⟩; go_simp; with_reducible rfl⟩) (h := ?_)
               refine one_ (i := 5) (N := some 46) (tf_ 6 1) rfl rfl (by kernel_rfl) (by decide) (fun K hK => ?_)
               refine goes_ Try.func93 (by kernel_rfl) rfl #[.agg #[.int .i64 ((rd_T63 l0 x30_2).f0), .int .i64 ((rd_T63 l0 x30_2).f1), .int .i64 ((rd_T63 l0 x30_2).f2), .int .i64 ((rd_T63 l0 x30_2).f3), .int .i64 ((rd_T63 l0 x30_2).f4)], .slice A369_0 (rd_L5 x3_2 x30_2).length c369_0] (by rfl) rfl rfl att18_0_8 ?_
               with_reducible refine (impl_behind.calls k2 ((rd_T63 l0 x30_2).f0) ((rd_T63 l0 x30_2).f1) ((rd_T63 l0 x30_2).f2) ((rd_T63 l0 x30_2).f3) ((rd_T63 l0 x30_2).f4) _ _ (rd_L5 x3_2 x30_2) t370 _ ?side1 ?side2 A27.out).mono ?_
               (case side1 => repeat (first | exact att18_0_17 | (with_reducible refine Kd.C_alloc ?_ _) | (with_reducible refine Kd.C_drewN ?_ _) | (with_reducible refine Kd.C_drew ?_)))
               (case side2 => exact HC369_0.out)
               rintro e w34 ⟨v371, rfl, ho0, hb⟩
               have HS5_ := (hb.cell (World.block_lt_of_cell? _ _ (hHeld.2.2.2.2.2))).trans (hHeld.2.2.2.2.2)
               refine ⟨_, rfl, ?_⟩
               have n0_ := Aside0.mk (Kd.S_elder' att18_0_11 (Kd.R_base ho0) hb)
               have n1_ := Aside0.mk (Kd.R_elder' att18_0_23 (Kd.R_base ho0) hb)
               have n2_ := Aside0.mk (Kd.R_elder' att18_0_22 (Kd.R_base ho0) hb)
               have n3_ := Aside0.mk (Kd.R_lower (Kd.R_newB (Kd.R_new' (Kd.R_new' ho0 (Kd.R_lt att18_0_23)) (Kd.R_lt att18_0_22)) (g := gb361) (o := .cells #[.bool true, .int .i64 0] 83 (0, 0)) att18_0_3) (below_size att18_0_0))
               have n4_ := Aside0.mk (blk_below (g := gb361) (o := .cells #[.bool true, .int .i64 0] 83 (0, 0)) att18_0_3 hb)
               have n5_ := Aside0.mk (blk_below (g := gb367) (o := .cells #[.int .i64 ((rd_T63 l0 x30_2).f0), .int .i64 ((rd_T63 l0 x30_2).f1), .int .i64 ((rd_T63 l0 x30_2).f2), .int .i64 ((rd_T63 l0 x30_2).f3), .int .i64 ((rd_T63 l0 x30_2).f4)] 63 (0, 0)) att18_0_13 hb)
               have n6_ := Aside0.mk (Kd.C_below att18_0_25 hb)
               have n7_ := Aside0.mk (Kd.C_below att18_0_17 hb)
               have n8_ := Aside0.mk (below_step att18_0_0 hb)
               clear HO_3
               clear HL368_0
               clear HL369_0
               clear BK361
               clear BK367
               clear HR368_0
               clear HR369_0
               clear HB
               have HO_3 := n0_
               have HL368_0 := n1_
               have HL369_0 := n2_
               have HO372 := n3_
               have BK361 := n4_
               have BK367 := n5_
               have HR368_0 := n6_
               have HR369_0 := n7_
               have HB := n8_
               clear n0_ n1_ n2_ n3_ n4_ n5_ n6_ n7_ n8_
               (try clear hb)
               (try clear hb2)
               (try clear hk)
               (try clear hi)
               (try clear ho0)
               refine hK.out _ _ ⟨(blk_cell BK367.out 0).trans rfl, (blk_cell BK367.out 1).trans rfl, (blk_cell BK367.out 2).trans rfl, (blk_cell BK367.out 3).trans rfl, (blk_cell BK367.out 4).trans rfl, HS5_⟩ (fun hHeld => ?_)
               clear hK K
               refine normP_ (h := ?_)
               refine pureP_ (i := 6) (N := some 8) (tf_ 7 0) (by kernel_rfl) (h := ?_)
               refine done_ (by kernel_rfl) ?_
               try go_wp2_with (first | ((with_reducible refine gate_callee (f := 78) rfl ?_); refine goesL_ (some 49) rfl rfl Try.func78 (by kernel_rfl) rfl #[.slice (some ad366) l0.length c0, .int .i64 x30_2] rfl att18_0_8 ?_; (with_reducible refine (impl_nextOf.calls _ _ l0 x30_2 t373 _ ?side1 ?side2 A28.out).mono ?_); (case side1 => repeat (first | exact (Kd.C_below HR0.out HB.out) | (with_reducible refine Kd.C_alloc ?_ _) | (with_reducible refine Kd.C_drewN ?_ _) | (with_reducible refine Kd.C_drew ?_))); (case side2 => exact HC0.out); rintro e w35 ⟨v374, rfl, ho0, hb⟩; refine ⟨_, rfl, ?_⟩; have n0_ := Aside0.mk (Kd.S_below att18_0_11 hb); have n1_ := Aside0.mk (Kd.R_below att18_0_23 hb); have n2_ := Aside0.mk (Kd.R_below att18_0_22 hb); have n3_ := Aside0.mk (Kd.R_below (by (with_reducible repeat (first | apply Kd.R_alloc | apply Kd.R_drewN | apply Kd.R_drew)); exact HO372.out) hb); have n4_ := Aside0.mk (Kd.R_lower ho0 (below_size att18_0_0)); have n5_ := Aside0.mk (blk_below (g := gb361) (o := .cells #[.bool true, .int .i64 0] 83 (0, 0)) att18_0_3 hb); have n6_ := Aside0.mk (blk_below (g := gb367) (o := .cells #[.int .i64 ((rd_T63 l0 x30_2).f0), .int .i64 ((rd_T63 l0 x30_2).f1), .int .i64 ((rd_T63 l0 x30_2).f2), .int .i64 ((rd_T63 l0 x30_2).f3), .int .i64 ((rd_T63 l0 x30_2).f4)] 63 (0, 0)) att18_0_13 hb); have n7_ := Aside0.mk (Kd.C_below att18_0_25 hb); have n8_ := Aside0.mk (Kd.C_below att18_0_17 hb); have n9_ := Aside0.mk (below_step att18_0_0 hb); clear HO_3; clear HL368_0; clear HL369_0; clear HO372; clear BK361; clear BK367; clear HR368_0; clear HR369_0; clear HB; have HO_3 := n0_; have HL368_0 := n1_; have HL369_0 := n2_; have HO372 := n3_; have HO375 := n4_; have BK361 := n5_; have BK367 := n6_; have HR368_0 := n7_; have HR369_0 := n8_; have HB := n9_; clear n0_ n1_ n2_ n3_ n4_ n5_ n6_ n7_ n8_ n9_; (try clear hb); (try clear hb2); (try clear hk); (try clear hi); (try clear ho0); obtain ⟨Ao36, co36, eo36⟩ := Kd.R_slice HO375.out; subst eo36))
               go_loopg [5, 51] k2 (fun kq v5 v51 w' => ∃ (x3_3 : List (List (S83))) (x5_3 : Bool) (x51_3 : Int), v5 = .bool x5_3 ∧ v51 = .int .i64 x51_3 ∧ Aside0 (impl_KnownAt.l2 kq l0 x3_3 x5_3 t370 l0 (l0.length : Int) x30_2 t373 (t373.length : Int) x51_3 = some r) ∧ Aside0 (kq ≤ k2) ∧ Aside0 (Kd.S (Kd.slice 83 k83) 81 w' w.heap.size (fun k_ => some k_ ≠ (v371 : Value).ownBlock ∧ k_ ≠ gb361) (.slice (some ⟨go7, 0, none⟩) x3_2.length co7) x3_3) ∧ Aside0 (Kd.R k83 83 w' w.heap.size (fun k_ => k_ ≠ gb361) v371 t370) ∧ Aside0 (Kd.R (Kd.int .i64) 3 w' w.heap.size (fun _ => True) (.slice Ao36 t373.length co36) t373) ∧ Aside0 (w'.heap[gb361]? = some (.cells #[.bool true, .int .i64 0] 83 (0, 0))) ∧ Aside0 (w'.heap[gb367]? = some (.cells #[.int .i64 ((rd_T63 l0 x30_2).f0), .int .i64 ((rd_T63 l0 x30_2).f1), .int .i64 ((rd_T63 l0 x30_2).f2), .int .i64 ((rd_T63 l0 x30_2).f3), .int .i64 ((rd_T63 l0 x30_2).f4)] 63 (0, 0))) ∧ Aside0 (Below w.heap.size w w'))
               case atStart => exact ⟨(x3_2), (x5_2), (0), att18_0_7, att18_0_7, H', ⟨Nat.le_refl _⟩, ⟨by (try simp only [hl3_1]); (try simp only [hl3_2]); (with_reducible repeat (first | apply Kd.S_alloc | apply Kd.S_drewN | apply Kd.S_drew)); exact Kd.S_mono HO_3.out (fun _ hk => ⟨hk.2, hk.1⟩)⟩, ⟨by (try simp only [hl3_1]); (try simp only [hl3_2]); (with_reducible repeat (first | apply Kd.R_alloc | apply Kd.R_drewN | apply Kd.R_drew)); exact Kd.R_mono HO372.out (fun _ hk => hk.2)⟩, ⟨by (try simp only [hl3_1]); (try simp only [hl3_2]); (with_reducible repeat (first | apply Kd.R_alloc | apply Kd.R_drewN | apply Kd.R_drew)); exact HO375.out⟩, ⟨att18_0_9⟩, ⟨by (try simp only [hl3_1]); (try simp only [hl3_2]); (with_reducible repeat (first | refine blk_drewN ?_ _ | refine blk_drew ?_ | refine blk_alloc ?_ _)); exact BK367.out⟩, ⟨att18_0_0⟩⟩
               case round =>
                clear H'
                try clear c1
                try clear hx1
                try clear hf1
                try clear c2
                try clear p2
                try clear c3
                try clear p3
                try clear q3
                try clear hx3
                try clear c4
                try clear c4b0
                try clear c4b1
                try clear c5
                try clear c5b0
                try clear c5b1
                try clear c6
                try clear c6b0
                try clear c6b1
                try clear p6
                try clear c7
                try clear p7
                try clear q7
                try clear hx7
                try clear qi7
                try clear hf7
                try clear c9
                try clear c15
                try clear hx15
                try clear hf15
                try clear c17
                try clear c18
                try clear c18b0
                try clear c19
                try clear c19b0
                try clear c20
                try clear c20b0
                try clear c21
                try clear c21b0
                try clear c22
                try clear c22b0
                try clear c22b1
                try clear c22b2
                try clear c24
                try clear c30
                try clear c34
                try clear c36
                try clear p36
                try clear q36
                try clear hx36
                try clear hcz12_0
                try clear hcz12_1
                try clear hcz25_0
                try clear hcz25_1
                try clear hcz25_2
                try clear hcz25_3
                try clear hcz25_4
                try clear hcz31_0
                try clear hcz31_1
                try clear hcz31_2
                try clear hcz31_3
                try clear hcz31_4
                try clear hfz12_0
                try clear hfz12_1
                try clear hfz25_0
                try clear hfz25_1
                try clear hfz25_2
                try clear hfz25_3
                try clear hfz25_4
                try clear hfz31_0
                try clear hfz31_1
                try clear hfz31_2
                try clear hfz31_3
                try clear hfz31_4
                try clear hx15_0
                try clear hx366_0
                try clear hx366_1
                try clear hx366_2
                try clear hx366_3
                try clear hx366_4
                try clear hx368_0
                try clear hx369_0
                try clear hx7_0
                try clear p2
                try clear p366
                try clear p368
                try clear p369
                try clear p7
                try clear q366
                try clear q368
                try clear q369
                try clear q7
                obtain ⟨x3_3, x5_3, x51_3, rfl, rfl, HA, HK3, HO_3, HO_8, HO_49, BK361, BK367, HB⟩ := hrel
                have hl3_3 := (Kd.S_reads' HO_3.out).1
                rw [hl3_3] at HO_3
                (try simp only [hl3_3])
                (try simp only [hl3_3] at BK361)
                (try simp only [hl3_3] at BK367)
                (try simp only [hl3_3] at HO_8)
                (try simp only [hl3_3] at HO_49)
                cases gk with
                | zero => exact absurd HA.out (by simp [impl_KnownAt.l2])
                | succ k3 =>
                 have H := HA.out
                 clear HA
                 simp only [impl_KnownAt.l2] at H
                 by_cases c37 : x51_3 < (t373.length : Int)
                 ·rw [if_pos c37] at H
                  have c37b0 : decide (x51_3 < (t373.length : Int)) = true := decide_eq_true c37
                  clear c37
                  by_cases c38 : 0 ≤ x51_3
                  ·rw [if_pos c38] at H
                   have c38b0 : decide (0 ≤ x51_3) = true := decide_eq_true c38
                   clear c38
                   by_cases c39 : x51_3 < (t373.length : Int)
                   ·rw [if_pos c39] at H
                    have c39b0 : decide (x51_3 < (t373.length : Int)) = true := decide_eq_true c39
                    clear c39
                    by_cases c40 : 0 ≤ (rd t373 x51_3)
                    ·rw [if_pos c40] at H
                     have c40b0 : decide (0 ≤ (rd t373 x51_3)) = true := decide_eq_true c40
                     clear c40
                     by_cases c41 : (rd t373 x51_3) < (x3_3.length : Int)
                     ·rw [if_pos c41] at H
                      have c41b0 : decide ((rd t373 x51_3) < (x3_3.length : Int)) = true := decide_eq_true c41
                      clear c41
                      by_cases c42 : ((rd_L5 x3_3 (rd t373 x51_3)).length : Int) = 0
                      ·rw [if_pos c42] at H
                       have c42b0 : (((rd_L5 x3_3 (rd t373 x51_3)).length : Int) == 0) = true := beq_iff_eq.mpr c42
                       have c42b1 : (((rd_L5 x3_3 (rd t373 x51_3)).length : Int) != 0) = false := bne_eq_false_iff_eq.mpr c42
                       clear c42
                       obtain ⟨y378, hy378⟩ : ∃ y_ : List (S83), y_ = (([] : List (S83))) := ⟨_, rfl⟩
                       replace H : (if y378.length + t370.length < 8796093022208 then (impl_KnownAt.l2 k3 l0 (x3_3.set ((rd t373 x51_3) : Int).toNat (y378 ++ t370)) true t370 l0 (l0.length : Int) x30_2 t373 (t373.length : Int) (wrap64 (x51_3 + 1))) else (none)) = some r := by first | (rw [hy378]; with_reducible exact H) | (have H2_ := (Option.bind_some _ _).symm.trans H; rw [hy378]; with_reducible exact H2_) | (have H2_ := (Option.bind_some _ _).symm.trans H; with_reducible exact H2_) | with_reducible exact H | (rw [hy378]; exact H) | exact H
                       have Ny378 := Aside0.mk hy378
                       clear hy378
                       by_cases c43 : y378.length + t370.length < 8796093022208
                       ·rw [if_pos c43] at H
                        have LMc43 := Aside0.mk c43
                        clear c43
                        obtain ⟨y381, hy381⟩ : ∃ y_ : List (S83), y_ = (y378 ++ t370) := ⟨_, rfl⟩
                        replace H : (impl_KnownAt.l2 k3 l0 (x3_3.set ((rd t373 x51_3) : Int).toNat y381) true t370 l0 (l0.length : Int) x30_2 t373 (t373.length : Int) (wrap64 (x51_3 + 1))) = some r := by first | (rw [hy381]; with_reducible exact H) | (have H2_ := (Option.bind_some _ _).symm.trans H; rw [hy381]; with_reducible exact H2_) | (have H2_ := (Option.bind_some _ _).symm.trans H; with_reducible exact H2_) | with_reducible exact H | (rw [hy381]; exact H) | exact H
                        have Ny381 := Aside0.mk hy381
                        clear hy381
                        obtain ⟨y384, hy384⟩ : ∃ y_ : List (List (S83)), y_ = (x3_3.set ((rd t373 x51_3) : Int).toNat y381) := ⟨_, rfl⟩
                        replace H : (impl_KnownAt.l2 k3 l0 y384 true t370 l0 (l0.length : Int) x30_2 t373 (t373.length : Int) (wrap64 (x51_3 + 1))) = some r := by first | (rw [hy384]; with_reducible exact H) | (have H2_ := (Option.bind_some _ _).symm.trans H; rw [hy384]; with_reducible exact H2_) | (have H2_ := (Option.bind_some _ _).symm.trans H; with_reducible exact H2_) | with_reducible exact H | (rw [hy384]; exact H) | exact H
                        have Ny384 := Aside0.mk hy384
                        clear hy384
                        have H' := Aside0.mk H
                        clear H
                        have p376 : 0 ≤ (x51_3 : Int) := of_decide_eq_true att18_0_1
                        have q376 : x51_3 < (t373.length : Int) := of_decide_eq_true att18_0_1
                        obtain ⟨ad376, e376, hx376_0⟩ := Kd.at_int (Kd.R_reads' HO_49.out).2.2 x51_3 p376 q376
                        cases e376
                        replace p376 := eq_true p376
                        replace q376 := eq_true q376
                        have p377 : 0 ≤ ((rd t373 x51_3) : Int) := of_decide_eq_true att18_0_1
                        have q377 : (rd t373 x51_3) < (x3_3.length : Int) := of_decide_eq_true att18_0_1
                        obtain ⟨ad377, A377_0, c377_0, e377, hx377_0, hl377_0, hi377_0⟩ := at_L5 (Kd.S_reads' HO_3.out).2.2 (rd t373 x51_3) p377 q377
                        obtain rfl : (⟨go7, 0, none⟩ : Addr) = ad377 := (by injection e377)
                        obtain ⟨ce377, hce377, hMe377, hcc377⟩ := Kd.S_get HO_3.out [] (rd t373 x51_3) p377 att18_1_0
                        obtain ⟨ve377_0, rfl, ge377_0⟩ := hMe377
                        have hv377_0 := hcc377 0 _ rfl
                        rw [Nat.add_zero, show ((Kd.slice 83 k83)).sz = 1 from rfl, Nat.mul_one] at hv377_0
                        replace hv377_0 := Option.some.inj (hv377_0.symm.trans hx377_0)
                        rw [hv377_0] at ge377_0
                        have HL377_0 := Aside0.mk (show Kd.R k83 83 _ _ _ _ (rd_L5 x3_3 (rd t373 x51_3)) from ge377_0)
                        clear hv377_0 ge377_0
                        clear hcc377 hce377
                        (first | simp only [add_plain] at hx377_0 | simp only [add_at] at hx377_0 | simp only [Addr.add, Nat.zero_add] at hx377_0 | skip)
                        have HR377_0 := Aside0.mk hi377_0
                        have HC377_0 := Aside0.mk hl377_0
                        clear hi377_0 hl377_0
                        replace p377 := eq_true p377
                        replace q377 := eq_true q377
                        go_wp2_with (first | ((with_reducible refine gate_dst (N := 63) rfl ?_); refine Kd.R_lit k83 _ 83 ?hg (N := 63) ?hd (xs := ([] : List (S83))) (inner := []) (ok := fun _ => True) (okp := fun _ => True) ?hr ?hp (fun _ hk => hk) trivial (Below.refl _ _) (Nat.le_refl _) (by simp) ?_; (case hd => rfl); (case hg => rfl); (case hr => first | (go_simp; done) | (go_simp; rfl)); (case hp => exact (Reps.none _ _)); intro v379 w45 ho46 hb hg_ hnew_; clear hg_ hnew_; (first | rw [← Ny378.out] at ho46 | (simp only [Int.reduceToNat] at ho46; rw [← Ny378.out] at ho46)); have n0_ := Aside0.mk (Kd.S_elder' att18_0_11 (Kd.R_base ho46) hb); have n1_ := Aside0.mk (Kd.R_elder' att18_0_16 (Kd.R_base ho46) hb); have n2_ := Aside0.mk (Kd.R_below att18_0_24 hb); have n3_ := Aside0.mk (Kd.R_elder' att18_0_21 (Kd.R_base ho46) hb); have n4_ := Aside0.mk (Kd.R_lower (Kd.R_newB (Kd.R_new' (Kd.R_new' ho46 (Kd.R_lt att18_0_16)) (Kd.R_lt att18_0_21)) (g := gb361) (o := .cells #[.bool true, .int .i64 0] 83 (0, 0)) att18_0_3) (below_size att18_0_0)); have n5_ := Aside0.mk (blk_below (g := gb361) (o := .cells #[.bool true, .int .i64 0] 83 (0, 0)) att18_0_3 hb); have n6_ := Aside0.mk (blk_below (g := gb367) (o := .cells #[.int .i64 ((rd_T63 l0 x30_2).f0), .int .i64 ((rd_T63 l0 x30_2).f1), .int .i64 ((rd_T63 l0 x30_2).f2), .int .i64 ((rd_T63 l0 x30_2).f3), .int .i64 ((rd_T63 l0 x30_2).f4)] 63 (0, 0)) att18_0_13 hb); have n7_ := Aside0.mk (Kd.C_below (by repeat (first | (with_reducible exact HR377_0.out) | (with_reducible refine Kd.C_alloc ?_ _) | (with_reducible refine Kd.C_drewN ?_ _) | (with_reducible refine Kd.C_drew ?_) | exact HR377_0.out)) hb); have n8_ := Aside0.mk (below_step att18_0_0 hb); clear HO_3; clear HO_8; clear HO_49; clear HL377_0; clear BK361; clear BK367; clear HR377_0; clear HB; have HO_3 := n0_; have HO_8 := n1_; have HO_49 := n2_; have HL377_0 := n3_; have HO380 := n4_; have BK361 := n5_; have BK367 := n6_; have HR377_0 := n7_; have HB := n8_; clear n0_ n1_ n2_ n3_ n4_ n5_ n6_ n7_ n8_; clear hb ho46; obtain ⟨Ao48, co48, eo48⟩ := Kd.R_slice HO_8.out; subst eo48) | ((with_reducible refine gate_builtin (b := .append) (xs := #[.tmp 63, .tmp 64]) rfl ?_); at_builtin; refine Kd.R_append_rows k83 (w0 := w) w.heap.size rfl (.tmp 63) (.tmp 64) 81 83 (.agg #[(.bool false), (.int .i64 0)]) 16 rfl Try.underlying81 info83 rfl (by decide) (by omega) v379 y378 t370 _ _ _ (fun k_ => some k_ ≠ (.slice Ao48 t370.length co48 : Value).ownBlock ∧ some k_ ≠ (.slice A377_0 (rd_L5 x3_3 (rd t373 x51_3)).length c377_0 : Value).ownBlock ∧ k_ ≠ gb361) (fun _ => False) rfl rfl ?aO ?aR (fun _ _ h => h) (fun _ h => h.elim) ?aF ?aB ?aS ?aL ?_; (case aR => repeat (first | exact (Kd.R_reads' HO_8.out).2.2 | (with_reducible refine Kd.C_alloc ?_ _) | (with_reducible refine Kd.C_drewN ?_ _) | (with_reducible refine Kd.C_drew ?_))); (case aB => exact att18_0_0); (case aF => exact (fun k_ hk => ⟨Kd.fresh' (Kd.R_lt att18_0_16) k_ hk, Kd.fresh' (Kd.R_lt att18_0_21) k_ hk, Kd.freshB (g := gb361) (o := .cells #[.bool true, .int .i64 0] 83 (0, 0)) att18_0_3 k_ hk⟩)); (case aO => exact (by (with_reducible repeat (first | apply Kd.R_alloc | apply Kd.R_drewN | apply Kd.R_drew)); exact Kd.R_mono HO380.out (fun _ hk => ⟨hk.1.1.2, ⟨hk.1.2, hk.2⟩⟩))); (case aS => exact (below_size att18_0_0)); (case aL => have := LMc43.out; omega); intro v382 w47 ho hb hg hat; rw [← Ny381.out] at ho; have n0_ := Aside0.mk (Kd.S_after (ok := (fun k_ => some k_ ≠ (.slice Ao48 t370.length co48 : Value).ownBlock ∧ k_ ≠ gb361)) att18_0_11 hg hat); have n1_ := Aside0.mk (Kd.R_after (ok := (fun k_ => k_ ≠ gb361)) att18_0_16 hg hat); have n2_ := Aside0.mk (Kd.R_over' att18_0_24 (Kd.R_typed (by (with_reducible repeat (first | apply Kd.R_alloc | apply Kd.R_drewN | apply Kd.R_drew)); exact HO380.out)) (by decide) hg); have n3_ := Aside0.mk (blk_grown (g := gb361) (o := .cells #[.bool true, .int .i64 0] 83 (0, 0)) att18_0_3 hg (Kd.R_away HO380.out (fun _ hk => hk.2))); have n4_ := Aside0.mk (blk_grown (g := gb367) (o := .cells #[.int .i64 ((rd_T63 l0 x30_2).f0), .int .i64 ((rd_T63 l0 x30_2).f1), .int .i64 ((rd_T63 l0 x30_2).f2), .int .i64 ((rd_T63 l0 x30_2).f3), .int .i64 ((rd_T63 l0 x30_2).f4)] 63 (0, 0)) att18_0_13 hg (Kd.R_ne HO380.out BK367.out (by decide))); have n5_ := Aside0.mk (Kd.R_after (ok := (fun k_ => some k_ ≠ (.slice (some ⟨go7, 0, none⟩) x3_3.length co7 : Value).ownBlock ∧ some k_ ≠ (.slice Ao48 t370.length co48 : Value).ownBlock ∧ k_ ≠ gb361)) (by (with_reducible repeat (first | apply Kd.R_alloc | apply Kd.R_drewN | apply Kd.R_drew)); exact Kd.R_mono HL377_0.out (fun _ hk => ⟨⟨hk.1.2, ⟨hk.1.1.1, hk.1.1.2⟩⟩, hk.2⟩)) hg hat); have n6_ := Aside0.mk (hb); have n7_ := Aside0.mk (ho); clear HO_3; clear HO_8; clear HO_49; clear BK361; clear BK367; clear HL377_0; clear HB; clear HO380; have HO_3 := n0_; have HO_8 := n1_; have HO_49 := n2_; have BK361 := n3_; have BK367 := n4_; have HL377_0 := n5_; have HB := n6_; have HO383 := n7_; clear n0_ n1_ n2_ n3_ n4_ n5_ n6_ n7_; clear ho hb hg hat; obtain ⟨Aq382, cq382, eq382⟩ := Kd.R_slice HO383.out; subst eq382; have p44 : 0 ≤ ((rd t373 x51_3) : Int) := of_decide_eq_true att18_0_1; have q44 : ((rd t373 x51_3) : Int) < ((x3_3.length : Int) : Int) := of_decide_eq_true att18_0_1; obtain ⟨_, ce44, hcl44, hM44, hcc44, hfr44, _, _⟩ := Kd.S_elem HO_3.out [] ((rd t373 x51_3) : Int) p44 q44; obtain ⟨ve44_0, rfl, ge44_0⟩ := hM44; have hx44_0 := hcc44 0 _ rfl; have hf44_0 := hfr44 0; (try simp only [show ((Kd.slice 83 k83)).sz = 1 from rfl, Nat.mul_one, Nat.add_zero] at hx44_0); (try simp only [show ((Kd.slice 83 k83)).sz = 1 from rfl, Nat.mul_one, Nat.add_zero] at hf44_0); clear hcl44 hcc44 hfr44 ; replace p44 := eq_true p44; replace q44 := eq_true q44; have n_ := Aside0.mk (Kd.S_mono (ok' := (fun k_ => some k_ ≠ (.slice Ao48 t370.length co48 : Value).ownBlock ∧ some k_ ≠ ((.slice Aq382 y381.length cq382) : Value).ownBlock ∧ k_ ≠ gb361)) HO_3.out (fun k_ hk => ⟨hk.1.1, ⟨hk.2, hk.1.2⟩⟩)); clear HO_3; have HO_3 := n_; clear n_; have HX49 := Aside0.mk (show Kd.S (Kd.slice 83 k83) 81 w47 w.heap.size (fun k_ => ((fun k_ => some k_ ≠ (.slice Ao48 t370.length co48 : Value).ownBlock ∧ k_ ≠ gb361)) k_ ∧ ¬ ((fun k_ => some k_ = ((.slice Aq382 y381.length cq382) : Value).ownBlock)) k_) (.slice (some ⟨go7, 0, none⟩) x3_3.length co7) x3_3 from (by (with_reducible repeat (first | apply Kd.S_alloc | apply Kd.S_drewN | apply Kd.S_drew)); exact Kd.S_mono HO_3.out (fun k_ hk => ⟨⟨hk.1, hk.2.2⟩, fun e_ => hk.2.1 e_⟩))); obtain ⟨oki49, ce49, hcl49, hM49, hcc49, hfr49, hoki49, hH49⟩ := Kd.S_elem HX49.out [] ((rd t373 x51_3) : Int) (of_decide_eq_true att18_0_1) att18_1_1; obtain ⟨ve49_0, rfl, ge49_0⟩ := hM49; have HP49 := Kd.S_seg hH49 (of_decide_eq_true att18_0_1) att18_1_1 (seg := [(.slice Aq382 y381.length cq382)]) (j := 0) (show 1 ≤ 1 from by decide) (x' := y381) (Kd.M_row (Kd.R_mono (Kd.R_tight rfl (Kd.R_mono (ok' := fun k_ => ((fun k_ => some k_ ≠ (.slice Ao48 t370.length co48 : Value).ownBlock ∧ k_ ≠ gb361)) k_ ∧ k_ ≠ go7) (Kd.R_apart' (HO383.out) (Kd.S_typed HO_3.out) (by decide)) (fun k_ hk => ⟨⟨hk.1.1, hk.1.2.2⟩, fun e_ => (hk.2) (by rw [e_]; rfl)⟩))) (fun _ h_ => Or.inr (h_)))) (fun _ hk => hk) (fun k_ hk_ => ((Kd.R_mono (ok' := fun k_ => ((fun k_ => some k_ ≠ (.slice Ao48 t370.length co48 : Value).ownBlock ∧ k_ ≠ gb361)) k_ ∧ k_ ≠ go7) (Kd.R_apart' (HO383.out) (Kd.S_typed HO_3.out) (by decide)) (fun k_ hk => ⟨⟨hk.1.1, hk.1.2.2⟩, fun e_ => (hk.2) (by rw [e_]; rfl)⟩))).1 k_ hk_.symm); have hx49_0 := hcc49 0 _ rfl; (try simp only [show ((Kd.slice 83 k83)).sz = 1 from rfl, Nat.mul_one, Nat.add_zero] at hx49_0); have hf49_0 := hfr49 0; (try simp only [show ((Kd.slice 83 k83)).sz = 1 from rfl, Nat.mul_one, Nat.add_zero] at hf49_0); clear hcl49 hcc49 hfr49 hoki49 hH49; (try simp only [show ((Kd.slice 83 k83)).sz = 1 from rfl, Nat.mul_one, Nat.add_zero] at HP49)) | ((with_reducible refine gate_store (t := 81) (p := 66) rfl ?_); refine store_event (t := 81) (p := 66) (v := ?vo_w50) (w1 := (w47.setCell ⟨go7, ((rd t373 x51_3) : Int).toNat, none⟩ ((.slice Aq382 y381.length cq382)))) ?hg ?ho ?hn ?hr ?_; (case ho => rfl); (case hg => rfl); (case hn => rfl); (case hr => first | (go_simp; done) | (go_simp; rfl)); intro w50 hw; have hg : w47.grownBy w50 (some go7) := (by rw [hw]; exact HP49.2); have hp_ : Kd.S (Kd.slice 83 k83) 81 w50 w.heap.size (fun k_ => some k_ ≠ (.slice Ao48 t370.length co48 : Value).ownBlock ∧ k_ ≠ gb361) (.slice (some ⟨go7, 0, none⟩) x3_3.length co7) y384 := (by rw [hw, Ny384.out]; exact HP49.1); clear HP49; have n0_ := Aside0.mk (hp_); have n1_ := Aside0.mk (Kd.R_over' (v := (.slice (some ⟨go7, 0, none⟩) x3_3.length co7)) att18_0_16 (Kd.S_typed HO_3.out) (by decide) hg); have n2_ := Aside0.mk (Kd.R_over' (v := (.slice (some ⟨go7, 0, none⟩) x3_3.length co7)) att18_0_24 (Kd.S_typed HO_3.out) (by decide) hg); have n3_ := Aside0.mk (blk_grown (g := gb361) (o := .cells #[.bool true, .int .i64 0] 83 (0, 0)) att18_0_3 hg (Kd.S_ne HO_3.out BK361.out (by decide))); have n4_ := Aside0.mk (blk_grown (g := gb367) (o := .cells #[.int .i64 ((rd_T63 l0 x30_2).f0), .int .i64 ((rd_T63 l0 x30_2).f1), .int .i64 ((rd_T63 l0 x30_2).f2), .int .i64 ((rd_T63 l0 x30_2).f3), .int .i64 ((rd_T63 l0 x30_2).f4)] 63 (0, 0)) att18_0_13 hg (Kd.S_ne HO_3.out BK367.out (by decide))); have n5_ := Aside0.mk (Kd.R_after (v := (.slice (some ⟨go7, 0, none⟩) x3_3.length co7)) (v1 := (.slice (some ⟨go7, 0, none⟩) x3_3.length co7)) (ok := (fun k_ => some k_ ≠ (.slice Ao48 t370.length co48 : Value).ownBlock ∧ some k_ ≠ ((.slice Aq382 y381.length cq382) : Value).ownBlock ∧ k_ ≠ gb361)) (by (with_reducible repeat (first | apply Kd.R_alloc | apply Kd.R_drewN | apply Kd.R_drew)); exact Kd.R_mono HL377_0.out (fun _ hk => ⟨⟨hk.1.2.1, ⟨hk.2, hk.1.2.2⟩⟩, hk.1.1⟩)) hg (.inl rfl)); have n6_ := Aside0.mk ((by rw [hw]; exact below_set (HB.out) GB7.out : Below w.heap.size w w50)); clear HO_3; clear HO_8; clear HO_49; clear BK361; clear BK367; clear HL377_0; clear HB; clear HO383; have HO_3 := n0_; have HO_8 := n1_; have HO_49 := n2_; have BK361 := n3_; have BK367 := n4_; have HL377_0 := n5_; have HB := n6_; clear n0_ n1_ n2_ n3_ n4_ n5_ n6_; clear hg hw hp_))
                        (try simp only [← hl3_3])
                        go_roundg k3
                        case measure => have := HK1.out; have := HK2.out; have := HK3.out; omega
                        case rel => exact ⟨(y384), (true), (wrap64 (x51_3 + 1)), att18_0_7, att18_0_7, H', ⟨att18_0_27⟩, ⟨att18_0_20⟩, ⟨by (try simp only [hl3_1]); (try simp only [hl3_2]); (try simp only [hl3_3]); (with_reducible repeat (first | apply Kd.R_alloc | apply Kd.R_drewN | apply Kd.R_drew)); exact Kd.R_mono HO_8.out (fun _ hk => hk.1)⟩, ⟨att18_0_19⟩, ⟨att18_0_12⟩, ⟨att18_0_18⟩, ⟨att18_0_0⟩⟩
                       ·rw [if_neg c43] at H
                        exact absurd H (by simp)
                      ·rw [if_neg c42] at H
                       have c42b0 : (((rd_L5 x3_3 (rd t373 x51_3)).length : Int) == 0) = false := beq_eq_false_iff_ne.mpr c42
                       have c42b1 : (((rd_L5 x3_3 (rd t373 x51_3)).length : Int) != 0) = true := bne_iff_ne.mpr c42
                       have c42b2 : ¬ ((rd_L5 x3_3 (rd t373 x51_3)) = []) := fun h_ => c42 (by rw [h_]; rfl)
                       replace H := Option.bind_eq_some_iff.mp H
                       obtain ⟨t386, A510, H⟩ := H
                       (try dsimp only at H)
                       have A51 := Aside0.mk A510
                       clear A510
                       by_cases c52 : x5_3 = true
                       ·subst c52
                        rw [if_pos rfl] at H
                        have H' := Aside0.mk H
                        clear H
                        have p376 : 0 ≤ (x51_3 : Int) := of_decide_eq_true att18_0_1
                        have q376 : x51_3 < (t373.length : Int) := of_decide_eq_true att18_0_1
                        obtain ⟨ad376, e376, hx376_0⟩ := Kd.at_int (Kd.R_reads' HO_49.out).2.2 x51_3 p376 q376
                        cases e376
                        replace p376 := eq_true p376
                        replace q376 := eq_true q376
                        have p377 : 0 ≤ ((rd t373 x51_3) : Int) := of_decide_eq_true att18_0_1
                        have q377 : (rd t373 x51_3) < (x3_3.length : Int) := of_decide_eq_true att18_0_1
                        obtain ⟨ad377, A377_0, c377_0, e377, hx377_0, hl377_0, hi377_0⟩ := at_L5 (Kd.S_reads' HO_3.out).2.2 (rd t373 x51_3) p377 q377
                        obtain rfl : (⟨go7, 0, none⟩ : Addr) = ad377 := (by injection e377)
                        obtain ⟨ce377, hce377, hMe377, hcc377⟩ := Kd.S_get HO_3.out [] (rd t373 x51_3) p377 att18_1_0
                        obtain ⟨ve377_0, rfl, ge377_0⟩ := hMe377
                        have hv377_0 := hcc377 0 _ rfl
                        rw [Nat.add_zero, show ((Kd.slice 83 k83)).sz = 1 from rfl, Nat.mul_one] at hv377_0
                        replace hv377_0 := Option.some.inj (hv377_0.symm.trans hx377_0)
                        rw [hv377_0] at ge377_0
                        have HL377_0 := Aside0.mk (show Kd.R k83 83 _ _ _ _ (rd_L5 x3_3 (rd t373 x51_3)) from ge377_0)
                        clear hv377_0 ge377_0
                        clear hcc377 hce377
                        (first | simp only [add_plain] at hx377_0 | simp only [add_at] at hx377_0 | simp only [Addr.add, Nat.zero_add] at hx377_0 | skip)
                        have HR377_0 := Aside0.mk hi377_0
                        have HC377_0 := Aside0.mk hl377_0
                        clear hi377_0 hl377_0
                        replace p377 := eq_true p377
                        replace q377 := eq_true q377
                        have p385 : 0 ≤ ((rd t373 x51_3) : Int) := of_decide_eq_true att18_0_1
                        have q385 : (rd t373 x51_3) < (x3_3.length : Int) := of_decide_eq_true att18_0_1
                        obtain ⟨ad385, A385_0, c385_0, e385, hx385_0, hl385_0, hi385_0⟩ := at_L5 (Kd.S_reads' HO_3.out).2.2 (rd t373 x51_3) p385 q385
                        obtain rfl : (⟨go7, 0, none⟩ : Addr) = ad385 := (by injection e385)
                        obtain ⟨ce385, hce385, hMe385, hcc385⟩ := Kd.S_get HO_3.out [] (rd t373 x51_3) p385 att18_1_6
                        obtain ⟨ve385_0, rfl, ge385_0⟩ := hMe385
                        have hv385_0 := hcc385 0 _ rfl
                        rw [Nat.add_zero, show ((Kd.slice 83 k83)).sz = 1 from rfl, Nat.mul_one] at hv385_0
                        replace hv385_0 := Option.some.inj (hv385_0.symm.trans hx385_0)
                        rw [hv385_0] at ge385_0
                        have HL385_0 := Aside0.mk (show Kd.R k83 83 _ _ _ _ (rd_L5 x3_3 (rd t373 x51_3)) from ge385_0)
                        clear hv385_0 ge385_0
                        clear hcc385 hce385
                        (first | simp only [add_plain] at hx385_0 | simp only [add_at] at hx385_0 | simp only [Addr.add, Nat.zero_add] at hx385_0 | skip)
                        have HR385_0 := Aside0.mk hi385_0
                        have HC385_0 := Aside0.mk hl385_0
                        clear hi385_0 hl385_0
                        replace p385 := eq_true p385
                        replace q385 := eq_true q385
                        have ea_ := Option.some.inj (hx377_0.symm.trans hx385_0)
                        injection ea_ with ea_ en_ ec_
                        subst ea_
                        subst ec_
                        clear en_
                        obtain ⟨Ao53, co53, eo53⟩ := Kd.R_slice HO_8.out
                        subst eo53
                        go_wp2_with (first | ((with_reducible refine gate_callee (f := 94) rfl ?_); refine goesL_ (some 72) rfl rfl Try.func94 (by kernel_rfl) rfl #[.slice A377_0 (rd_L5 x3_3 (rd t373 x51_3)).length c377_0, .slice Ao53 t370.length co53] rfl att18_0_8 ?_; obtain ⟨oki, cc, hcl, hM, hcc, hoki, hH⟩ := Kd.S_lend HO_3.out [] (rd t373 x51_3) (of_decide_eq_true att18_0_1) att18_1_2; obtain ⟨ui, rfl, hRi⟩ := hM; have hxi := hcc 0 _ rfl; rw [Nat.add_zero, show ((Kd.slice 83 k83)).sz = 1 from rfl, Nat.mul_one] at hxi; obtain rfl := Option.some.inj (hxi.symm.trans (by first | exact hx377_0 | assumption)); have hTi : Kd.R k83 83 _ w.heap.size (fun k_ => some k_ = (.slice A377_0 (rd_L5 x3_3 (rd t373 x51_3)).length c377_0 : Value).ownBlock) (.slice A377_0 (rd_L5 x3_3 (rd t373 x51_3)).length c377_0) (rd_L5 x3_3 (rd t373 x51_3)) := Kd.R_tight rfl hRi; have hOi : Kd.R k83 83 _ w.heap.size (fun k_ => ¬ (some k_ = (.slice A377_0 (rd_L5 x3_3 (rd t373 x51_3)).length c377_0 : Value).ownBlock)) (.slice Ao53 t370.length co53) t370 := Kd.R_mono (Kd.R_tight rfl HO_8.out) (fun k_ hk ho => (hoki k_ (own_ok hRi k_ ho.symm)).1.1 hk); (with_reducible refine (impl_meet.calls k3 (fun k_ => some k_ = (.slice A377_0 (rd_L5 x3_3 (rd t373 x51_3)).length c377_0 : Value).ownBlock) (.slice A377_0 (rd_L5 x3_3 (rd t373 x51_3)).length c377_0) (rd_L5 x3_3 (rd t373 x51_3)) _ _ t370 t386 w _ att18_0_33 hTi hOi A51.out).mono ?_); rintro e w54_ ⟨rfl, hR', hb', hK'⟩; refine ⟨_, rfl, ?_⟩; have n0_ := Aside0.mk (Kd.H_back (Kd.H_step hH (fun k_ hk hn hlt => hK'.2 k_ hlt (fun he => hn (own_ok hRi k_ he.symm)))) (x' := t386.2) ⟨_, rfl, hR'⟩ (fun k_ hk => own_ok hRi k_ hk.symm)); have n1_ := Aside0.mk (Kd.R_mono (ok' := fun k_ => k_ ≠ gb361) (Kd.R_step (Kd.R_tight rfl HO_8.out) (fun k_ hk hlt => hK'.2 k_ hlt (fun he => (hoki k_ (own_ok hRi k_ he.symm)).1.1 hk))) (fun k_ hk => own_ok HO_8.out k_ hk.symm)); have n2_ := Aside0.mk (Kd.R_mono (ok' := fun _ => True) (Kd.R_step (Kd.R_apart' HO_49.out (Kd.R_typed hTi) (by decide)) (fun k_ hk hlt => hK'.2 k_ hlt hk.2)) (fun _ _ => trivial)); have n3_ := Aside0.mk ((hK'.2 gb361 (blk_lt BK361.out) (fun he => (hoki _ (own_ok hRi _ he.symm)).1.2 rfl)).trans BK361.out); have n4_ := Aside0.mk ((hK'.2 gb367 (blk_lt BK367.out) (Kd.R_ne hTi BK367.out (by decide))).trans BK367.out); have n5_ := Aside0.mk hb'; clear hR' hb' hK' hoki hOi hRi hTi hH hcl hcc hxi; (try clear HO_3); (try clear HO_8); (try clear HO_49); (try clear HL377_0); (try clear HL385_0); (try clear BK361); (try clear BK367); (try clear HR377_0); (try clear HR385_0); (try clear HB); have HO_3 := n0_; have HO_8 := n1_; have HO_49 := n2_; have BK361 := n3_; have BK367 := n4_; have HB := n5_; clear n0_ n1_ n2_ n3_ n4_ n5_))
                        (try simp only [← hl3_3])
                        go_roundg k3
                        case measure => have := HK1.out; have := HK2.out; have := HK3.out; omega
                        case rel => exact ⟨((x3_3.set ((rd t373 x51_3) : Int).toNat t386.2)), (true), (wrap64 (x51_3 + 1)), att18_0_7, att18_0_7, H', ⟨att18_0_27⟩, ⟨att18_0_20⟩, ⟨att18_0_26⟩, ⟨att18_0_19⟩, ⟨att18_0_12⟩, ⟨att18_0_18⟩, ⟨att18_0_0⟩⟩
                       ·replace c52 := Bool.eq_false_iff.mpr c52
                        subst c52
                        rw [if_neg (show ¬ (false = true) by decide)] at H
                        have H' := Aside0.mk H
                        clear H
                        have p376 : 0 ≤ (x51_3 : Int) := of_decide_eq_true att18_0_1
                        have q376 : x51_3 < (t373.length : Int) := of_decide_eq_true att18_0_1
                        obtain ⟨ad376, e376, hx376_0⟩ := Kd.at_int (Kd.R_reads' HO_49.out).2.2 x51_3 p376 q376
                        cases e376
                        replace p376 := eq_true p376
                        replace q376 := eq_true q376
                        have p377 : 0 ≤ ((rd t373 x51_3) : Int) := of_decide_eq_true att18_0_1
                        have q377 : (rd t373 x51_3) < (x3_3.length : Int) := of_decide_eq_true att18_0_1
                        obtain ⟨ad377, A377_0, c377_0, e377, hx377_0, hl377_0, hi377_0⟩ := at_L5 (Kd.S_reads' HO_3.out).2.2 (rd t373 x51_3) p377 q377
                        obtain rfl : (⟨go7, 0, none⟩ : Addr) = ad377 := (by injection e377)
                        obtain ⟨ce377, hce377, hMe377, hcc377⟩ := Kd.S_get HO_3.out [] (rd t373 x51_3) p377 att18_1_0
                        obtain ⟨ve377_0, rfl, ge377_0⟩ := hMe377
                        have hv377_0 := hcc377 0 _ rfl
                        rw [Nat.add_zero, show ((Kd.slice 83 k83)).sz = 1 from rfl, Nat.mul_one] at hv377_0
                        replace hv377_0 := Option.some.inj (hv377_0.symm.trans hx377_0)
                        rw [hv377_0] at ge377_0
                        have HL377_0 := Aside0.mk (show Kd.R k83 83 _ _ _ _ (rd_L5 x3_3 (rd t373 x51_3)) from ge377_0)
                        clear hv377_0 ge377_0
                        clear hcc377 hce377
                        (first | simp only [add_plain] at hx377_0 | simp only [add_at] at hx377_0 | simp only [Addr.add, Nat.zero_add] at hx377_0 | skip)
                        have HR377_0 := Aside0.mk hi377_0
                        have HC377_0 := Aside0.mk hl377_0
                        clear hi377_0 hl377_0
                        replace p377 := eq_true p377
                        replace q377 := eq_true q377
                        have p385 : 0 ≤ ((rd t373 x51_3) : Int) := of_decide_eq_true att18_0_1
                        have q385 : (rd t373 x51_3) < (x3_3.length : Int) := of_decide_eq_true att18_0_1
                        obtain ⟨ad385, A385_0, c385_0, e385, hx385_0, hl385_0, hi385_0⟩ := at_L5 (Kd.S_reads' HO_3.out).2.2 (rd t373 x51_3) p385 q385
                        obtain rfl : (⟨go7, 0, none⟩ : Addr) = ad385 := (by injection e385)
                        obtain ⟨ce385, hce385, hMe385, hcc385⟩ := Kd.S_get HO_3.out [] (rd t373 x51_3) p385 att18_1_6
                        obtain ⟨ve385_0, rfl, ge385_0⟩ := hMe385
                        have hv385_0 := hcc385 0 _ rfl
                        rw [Nat.add_zero, show ((Kd.slice 83 k83)).sz = 1 from rfl, Nat.mul_one] at hv385_0
                        replace hv385_0 := Option.some.inj (hv385_0.symm.trans hx385_0)
                        rw [hv385_0] at ge385_0
                        have HL385_0 := Aside0.mk (show Kd.R k83 83 _ _ _ _ (rd_L5 x3_3 (rd t373 x51_3)) from ge385_0)
                        clear hv385_0 ge385_0
                        clear hcc385 hce385
                        (first | simp only [add_plain] at hx385_0 | simp only [add_at] at hx385_0 | simp only [Addr.add, Nat.zero_add] at hx385_0 | skip)
                        have HR385_0 := Aside0.mk hi385_0
                        have HC385_0 := Aside0.mk hl385_0
                        clear hi385_0 hl385_0
                        replace p385 := eq_true p385
                        replace q385 := eq_true q385
                        have ea_ := Option.some.inj (hx377_0.symm.trans hx385_0)
                        injection ea_ with ea_ en_ ec_
                        subst ea_
                        subst ec_
                        clear en_
                        obtain ⟨Ao55, co55, eo55⟩ := Kd.R_slice HO_8.out
                        subst eo55
                        go_wp2_with (first | ((with_reducible refine gate_callee (f := 94) rfl ?_); refine goesL_ (some 72) rfl rfl Try.func94 (by kernel_rfl) rfl #[.slice A377_0 (rd_L5 x3_3 (rd t373 x51_3)).length c377_0, .slice Ao55 t370.length co55] rfl att18_0_8 ?_; obtain ⟨oki, cc, hcl, hM, hcc, hoki, hH⟩ := Kd.S_lend HO_3.out [] (rd t373 x51_3) (of_decide_eq_true att18_0_1) att18_1_2; obtain ⟨ui, rfl, hRi⟩ := hM; have hxi := hcc 0 _ rfl; rw [Nat.add_zero, show ((Kd.slice 83 k83)).sz = 1 from rfl, Nat.mul_one] at hxi; obtain rfl := Option.some.inj (hxi.symm.trans (by first | exact hx377_0 | assumption)); have hTi : Kd.R k83 83 _ w.heap.size (fun k_ => some k_ = (.slice A377_0 (rd_L5 x3_3 (rd t373 x51_3)).length c377_0 : Value).ownBlock) (.slice A377_0 (rd_L5 x3_3 (rd t373 x51_3)).length c377_0) (rd_L5 x3_3 (rd t373 x51_3)) := Kd.R_tight rfl hRi; have hOi : Kd.R k83 83 _ w.heap.size (fun k_ => ¬ (some k_ = (.slice A377_0 (rd_L5 x3_3 (rd t373 x51_3)).length c377_0 : Value).ownBlock)) (.slice Ao55 t370.length co55) t370 := Kd.R_mono (Kd.R_tight rfl HO_8.out) (fun k_ hk ho => (hoki k_ (own_ok hRi k_ ho.symm)).1.1 hk); (with_reducible refine (impl_meet.calls k3 (fun k_ => some k_ = (.slice A377_0 (rd_L5 x3_3 (rd t373 x51_3)).length c377_0 : Value).ownBlock) (.slice A377_0 (rd_L5 x3_3 (rd t373 x51_3)).length c377_0) (rd_L5 x3_3 (rd t373 x51_3)) _ _ t370 t386 w _ att18_0_33 hTi hOi A51.out).mono ?_); rintro e w54_ ⟨rfl, hR', hb', hK'⟩; refine ⟨_, rfl, ?_⟩; have n0_ := Aside0.mk (Kd.H_back (Kd.H_step hH (fun k_ hk hn hlt => hK'.2 k_ hlt (fun he => hn (own_ok hRi k_ he.symm)))) (x' := t386.2) ⟨_, rfl, hR'⟩ (fun k_ hk => own_ok hRi k_ hk.symm)); have n1_ := Aside0.mk (Kd.R_mono (ok' := fun k_ => k_ ≠ gb361) (Kd.R_step (Kd.R_tight rfl HO_8.out) (fun k_ hk hlt => hK'.2 k_ hlt (fun he => (hoki k_ (own_ok hRi k_ he.symm)).1.1 hk))) (fun k_ hk => own_ok HO_8.out k_ hk.symm)); have n2_ := Aside0.mk (Kd.R_mono (ok' := fun _ => True) (Kd.R_step (Kd.R_apart' HO_49.out (Kd.R_typed hTi) (by decide)) (fun k_ hk hlt => hK'.2 k_ hlt hk.2)) (fun _ _ => trivial)); have n3_ := Aside0.mk ((hK'.2 gb361 (blk_lt BK361.out) (fun he => (hoki _ (own_ok hRi _ he.symm)).1.2 rfl)).trans BK361.out); have n4_ := Aside0.mk ((hK'.2 gb367 (blk_lt BK367.out) (Kd.R_ne hTi BK367.out (by decide))).trans BK367.out); have n5_ := Aside0.mk hb'; clear hR' hb' hK' hoki hOi hRi hTi hH hcl hcc hxi; (try clear HO_3); (try clear HO_8); (try clear HO_49); (try clear HL377_0); (try clear HL385_0); (try clear BK361); (try clear BK367); (try clear HR377_0); (try clear HR385_0); (try clear HB); have HO_3 := n0_; have HO_8 := n1_; have HO_49 := n2_; have BK361 := n3_; have BK367 := n4_; have HB := n5_; clear n0_ n1_ n2_ n3_ n4_ n5_))
                        (try simp only [← hl3_3])
                        go_roundg k3
                        case measure => have := HK1.out; have := HK2.out; have := HK3.out; omega
                        case rel => exact ⟨((x3_3.set ((rd t373 x51_3) : Int).toNat t386.2)), (t386.1), (wrap64 (x51_3 + 1)), att18_0_7, att18_0_7, H', ⟨att18_0_27⟩, ⟨att18_0_20⟩, ⟨att18_0_26⟩, ⟨att18_0_19⟩, ⟨att18_0_12⟩, ⟨att18_0_18⟩, ⟨att18_0_0⟩⟩
                     ·rw [if_neg c41] at H
                      exact absurd H (by simp)
                    ·rw [if_neg c40] at H
                     exact absurd H (by simp)
                   ·rw [if_neg c39] at H
                    exact absurd H (by simp)
                  ·rw [if_neg c38] at H
                   exact absurd H (by simp)
                 ·rw [if_neg c37] at H
                  have c37b0 : decide (x51_3 < (t373.length : Int)) = false := decide_eq_false c37
                  clear c37
                  have H' := Aside0.mk H
                  clear H
                  go_wp2
                  (try simp only [← hl3_2, ← hl3_3])
                  go_roundg k3
                  case measure => have := HK1.out; have := HK2.out; have := HK3.out; omega
                  case rel => exact ⟨(x3_3), (x5_3), (wrap64 (x30_2 + 1)), att18_0_7, att18_0_7, H', ⟨att18_0_27⟩, ⟨by (try simp only [hl3_1]); (try simp only [hl3_2]); (try simp only [hl3_3]); (with_reducible repeat (first | apply Kd.S_alloc | apply Kd.S_drewN | apply Kd.S_drew)); exact Kd.S_mono HO_3.out (fun _ hk => hk.2)⟩, ⟨att18_0_12⟩, ⟨att18_0_0⟩⟩
             ·rw [if_neg c21] at H
              exact absurd H (by simp)
            ·rw [if_neg c20] at H
             exact absurd H (by simp)
           ·rw [if_neg c19] at H
            exact absurd H (by simp)
          ·rw [if_neg c18] at H
           have c18b0 : decide (x30_2 < (l0.length : Int)) = false := decide_eq_false c18
           clear c18
           have H' := Aside0.mk H
           clear H
           go_wp2
           (try simp only [← hl3_1, ← hl3_2])
           go_roundg k2
           case measure => have := HK1.out; have := HK2.out; omega
           case rel => exact ⟨(x3_2), (x5_2), att18_0_7, H', ⟨att18_0_30⟩, ⟨att18_0_14⟩, ⟨att18_0_9⟩, ⟨att18_0_2⟩⟩
       ·replace c17 := Bool.eq_false_iff.mpr c17
        subst c17
        rw [if_neg (show ¬ (false = true) by decide)] at H
        have H' := Aside0.mk H
        clear H
        go_wp2
        go_loopg [81] k1 (fun kq v81 w' => ∃ (x3_2 : List (List (S83))) (x81_2 : Int), v81 = .int .i64 x81_2 ∧ Aside0 (impl_KnownAt.l3 kq x3_2 (x3_1.length : Int) x81_2 = some r) ∧ Aside0 (kq ≤ k1) ∧ Aside0 (Kd.S (Kd.slice 83 k83) 81 w' w.heap.size (fun k_ => k_ ≠ gb361) (.slice (some ⟨go7, 0, none⟩) x3_1.length co7) x3_2) ∧ Aside0 (w'.heap[gb361]? = some (.cells #[.bool true, .int .i64 0] 83 (0, 0))) ∧ Aside0 (Below w.heap.size w w'))
        case atStart => exact ⟨(x3_1), (0), att18_0_7, H', ⟨Nat.le_refl _⟩, ⟨att18_0_29⟩, ⟨att18_0_28⟩, ⟨att18_0_2⟩⟩
        case round =>
         clear H'
         try clear c1
         try clear hx1
         try clear hf1
         try clear c2
         try clear p2
         try clear c3
         try clear p3
         try clear q3
         try clear hx3
         try clear c4
         try clear c4b0
         try clear c4b1
         try clear p4
         try clear q4
         try clear hx4
         try clear hf4
         try clear c5
         try clear c5b0
         try clear c5b1
         try clear c6
         try clear c6b0
         try clear c6b1
         try clear p6
         try clear c7
         try clear p7
         try clear q7
         try clear hx7
         try clear qi7
         try clear hf7
         try clear c9
         try clear c15
         try clear hx15
         try clear hf15
         try clear c17
         try clear c18
         try clear c18b0
         try clear c19
         try clear c19b0
         try clear c20
         try clear c20b0
         try clear c21
         try clear c21b0
         try clear c22
         try clear c22b0
         try clear c22b1
         try clear c22b2
         try clear c24
         try clear c30
         try clear c34
         try clear c36
         try clear p36
         try clear q36
         try clear hx36
         try clear c37
         try clear c37b0
         try clear p37
         try clear q37
         try clear hx37
         try clear c38
         try clear c38b0
         try clear p38
         try clear q38
         try clear hx38
         try clear c39
         try clear c39b0
         try clear c40
         try clear c40b0
         try clear c41
         try clear c41b0
         try clear c42
         try clear c42b0
         try clear c42b1
         try clear c42b2
         try clear c43
         try clear c44
         try clear p44
         try clear q44
         try clear hx44
         try clear hf44
         try clear c49
         try clear hx49
         try clear hf49
         try clear c52
         try clear hcz12_0
         try clear hcz12_1
         try clear hcz25_0
         try clear hcz25_1
         try clear hcz25_2
         try clear hcz25_3
         try clear hcz25_4
         try clear hcz31_0
         try clear hcz31_1
         try clear hcz31_2
         try clear hcz31_3
         try clear hcz31_4
         try clear hfz12_0
         try clear hfz12_1
         try clear hfz25_0
         try clear hfz25_1
         try clear hfz25_2
         try clear hfz25_3
         try clear hfz25_4
         try clear hfz31_0
         try clear hfz31_1
         try clear hfz31_2
         try clear hfz31_3
         try clear hfz31_4
         try clear hx15_0
         try clear hx366_0
         try clear hx366_1
         try clear hx366_2
         try clear hx366_3
         try clear hx366_4
         try clear hx368_0
         try clear hx369_0
         try clear hx376_0
         try clear hx377_0
         try clear hx385_0
         try clear hx44_0
         try clear hx49_0
         try clear hx7_0
         try clear p2
         try clear p3
         try clear p36
         try clear p366
         try clear p368
         try clear p369
         try clear p376
         try clear p377
         try clear p385
         try clear p44
         try clear p6
         try clear p7
         try clear q3
         try clear q36
         try clear q366
         try clear q368
         try clear q369
         try clear q376
         try clear q377
         try clear q385
         try clear q44
         try clear q7
         obtain ⟨x3_2, x81_2, rfl, HA, HK2, HO_3, BK361, HB⟩ := hrel
         have hl3_2 := (Kd.S_reads' HO_3.out).1
         rw [hl3_2] at HO_3
         (try simp only [hl3_2])
         (try simp only [hl3_2] at BK361)
         cases gk with
         | zero => exact absurd HA.out (by simp [impl_KnownAt.l3])
         | succ k2 =>
          have H := HA.out
          clear HA
          simp only [impl_KnownAt.l3] at H
          by_cases c57 : x81_2 < (x3_1.length : Int)
          ·rw [if_pos c57] at H
           have c57b0 : decide (x81_2 < (x3_1.length : Int)) = true := decide_eq_true c57
           clear c57
           by_cases c58 : 0 ≤ x81_2
           ·rw [if_pos c58] at H
            have c58b0 : decide (0 ≤ x81_2) = true := decide_eq_true c58
            clear c58
            by_cases c59 : x81_2 < (x3_2.length : Int)
            ·rw [if_pos c59] at H
             have c59b0 : decide (x81_2 < (x3_2.length : Int)) = true := decide_eq_true c59
             clear c59
             by_cases c60 : ((rd_L5 x3_2 x81_2).length : Int) = 0
             ·rw [if_pos c60] at H
              have c60b0 : (((rd_L5 x3_2 x81_2).length : Int) == 0) = true := beq_iff_eq.mpr c60
              have c60b1 : (((rd_L5 x3_2 x81_2).length : Int) != 0) = false := bne_eq_false_iff_eq.mpr c60
              clear c60
              by_cases c61 : 4 ≤ 17592186044416
              ·rw [if_pos c61] at H
               have c61b0 := eq_true c61
               have c61b1 : decide (4 ≤ 17592186044416) = true := decide_eq_true c61
               clear c61
               obtain ⟨y388, hy388⟩ : ∃ y_ : List (S83), y_ = (List.replicate 4 z83) := ⟨_, rfl⟩
               replace H : (impl_KnownAt.l3 k2 (x3_2.set (x81_2 : Int).toNat y388) (x3_1.length : Int) (wrap64 (x81_2 + 1))) = some r := by first | (rw [hy388]; with_reducible exact H) | (have H2_ := (Option.bind_some _ _).symm.trans H; rw [hy388]; with_reducible exact H2_) | (have H2_ := (Option.bind_some _ _).symm.trans H; with_reducible exact H2_) | with_reducible exact H | (rw [hy388]; exact H) | exact H
               have Ny388 := Aside0.mk hy388
               clear hy388
               obtain ⟨y391, hy391⟩ : ∃ y_ : List (List (S83)), y_ = (x3_2.set (x81_2 : Int).toNat y388) := ⟨_, rfl⟩
               replace H : (impl_KnownAt.l3 k2 y391 (x3_1.length : Int) (wrap64 (x81_2 + 1))) = some r := by first | (rw [hy391]; with_reducible exact H) | (have H2_ := (Option.bind_some _ _).symm.trans H; rw [hy391]; with_reducible exact H2_) | (have H2_ := (Option.bind_some _ _).symm.trans H; with_reducible exact H2_) | with_reducible exact H | (rw [hy391]; exact H) | exact H
               have Ny391 := Aside0.mk hy391
               clear hy391
               have H' := Aside0.mk H
               clear H
               have p387 : 0 ≤ (x81_2 : Int) := of_decide_eq_true att18_0_1
               have q387 : x81_2 < (x3_2.length : Int) := of_decide_eq_true att18_0_1
               obtain ⟨ad387, A387_0, c387_0, e387, hx387_0, hl387_0, hi387_0⟩ := at_L5 (Kd.S_reads' HO_3.out).2.2 x81_2 p387 q387
               obtain rfl : (⟨go7, 0, none⟩ : Addr) = ad387 := (by injection e387)
               obtain ⟨ce387, hce387, hMe387, hcc387⟩ := Kd.S_get HO_3.out [] x81_2 p387 att18_1_5
               obtain ⟨ve387_0, rfl, ge387_0⟩ := hMe387
               have hv387_0 := hcc387 0 _ rfl
               rw [Nat.add_zero, show ((Kd.slice 83 k83)).sz = 1 from rfl, Nat.mul_one] at hv387_0
               replace hv387_0 := Option.some.inj (hv387_0.symm.trans hx387_0)
               rw [hv387_0] at ge387_0
               have HL387_0 := Aside0.mk (show Kd.R k83 83 _ _ _ _ (rd_L5 x3_2 x81_2) from ge387_0)
               clear hv387_0 ge387_0
               clear hcc387 hce387
               (first | simp only [add_plain] at hx387_0 | simp only [add_at] at hx387_0 | simp only [Addr.add, Nat.zero_add] at hx387_0 | skip)
               have HR387_0 := Aside0.mk hi387_0
               have HC387_0 := Aside0.mk hl387_0
               clear hi387_0 hl387_0
               replace p387 := eq_true p387
               replace q387 := eq_true q387
               go_wp2_with (first | ((with_reducible refine gate_dst (N := 92) rfl ?_); refine Kd.R_make k83 _ 83 rfl (N := 92) rfl 81 _ _ rfl 4 rfl rfl Try.underlying81 (.agg #[(.bool false), (.int .i64 0)]) 16 info83 rfl (by decide) (by omega) z83 (ok := fun _ => True) (okp := fun _ => True) (k83_mkM _ _ _ z83 ) (fun _ hk => hk) trivial (by omega) (by omega) (Below.refl _ _) (Nat.le_refl _) ?_; intro v389 w63 ho64 hb hg_ hnew_; clear hg_ hnew_; (first | rw [← Ny388.out] at ho64 | (simp only [Int.reduceToNat] at ho64; rw [← Ny388.out] at ho64)); have n0_ := Aside0.mk (Kd.S_elder' att18_0_11 (Kd.R_base ho64) hb); have n1_ := Aside0.mk (Kd.R_elder' att18_0_31 (Kd.R_base ho64) hb); have n2_ := Aside0.mk (Kd.R_lower (Kd.R_newB (Kd.R_new' ho64 (Kd.R_lt att18_0_31)) (g := gb361) (o := .cells #[.bool true, .int .i64 0] 83 (0, 0)) att18_0_3) (below_size att18_0_2)); have n3_ := Aside0.mk (blk_below (g := gb361) (o := .cells #[.bool true, .int .i64 0] 83 (0, 0)) att18_0_3 hb); have n4_ := Aside0.mk (Kd.C_below (by repeat (first | (with_reducible exact HR387_0.out) | (with_reducible refine Kd.C_alloc ?_ _) | (with_reducible refine Kd.C_drewN ?_ _) | (with_reducible refine Kd.C_drew ?_) | exact HR387_0.out)) hb); have n5_ := Aside0.mk (below_step att18_0_2 hb); clear HO_3; clear HL387_0; clear BK361; clear HR387_0; clear HB; have HO_3 := n0_; have HL387_0 := n1_; have HO390 := n2_; have BK361 := n3_; have HR387_0 := n4_; have HB := n5_; clear n0_ n1_ n2_ n3_ n4_ n5_; clear hb ho64; obtain ⟨Aq389, cq389, eq389⟩ := Kd.R_slice HO390.out; subst eq389; have p62 : 0 ≤ (x81_2 : Int) := of_decide_eq_true att18_0_1; have q62 : (x81_2 : Int) < ((x3_2.length : Int) : Int) := of_decide_eq_true att18_0_1; obtain ⟨_, ce62, hcl62, hM62, hcc62, hfr62, _, _⟩ := Kd.S_elem HO_3.out [] (x81_2 : Int) p62 q62; obtain ⟨ve62_0, rfl, ge62_0⟩ := hM62; have hx62_0 := hcc62 0 _ rfl; have hf62_0 := hfr62 0; (try simp only [show ((Kd.slice 83 k83)).sz = 1 from rfl, Nat.mul_one, Nat.add_zero] at hx62_0); (try simp only [show ((Kd.slice 83 k83)).sz = 1 from rfl, Nat.mul_one, Nat.add_zero] at hf62_0); clear hcl62 hcc62 hfr62 ; replace p62 := eq_true p62; replace q62 := eq_true q62; have HX65 := Aside0.mk (show Kd.S (Kd.slice 83 k83) 81 w63 w.heap.size (fun k_ => ((fun k_ => k_ ≠ gb361)) k_ ∧ ¬ ((fun k_ => some k_ = ((.slice Aq389 y388.length cq389) : Value).ownBlock)) k_) (.slice (some ⟨go7, 0, none⟩) x3_2.length co7) x3_2 from (by (with_reducible repeat (first | apply Kd.S_alloc | apply Kd.S_drewN | apply Kd.S_drew)); exact Kd.S_mono HO_3.out (fun k_ hk => ⟨hk.1, fun e_ => hk.2 e_⟩))); obtain ⟨oki65, ce65, hcl65, hM65, hcc65, hfr65, hoki65, hH65⟩ := Kd.S_elem HX65.out [] (x81_2 : Int) (of_decide_eq_true att18_0_1) att18_1_3; obtain ⟨ve65_0, rfl, ge65_0⟩ := hM65; have HP65 := Kd.S_seg hH65 (of_decide_eq_true att18_0_1) att18_1_3 (seg := [(.slice Aq389 y388.length cq389)]) (j := 0) (show 1 ≤ 1 from by decide) (x' := y388) (Kd.M_row (Kd.R_mono (Kd.R_tight rfl (Kd.R_mono (ok' := fun k_ => ((fun k_ => k_ ≠ gb361)) k_ ∧ k_ ≠ go7) (Kd.R_apart' (HO390.out) (Kd.S_typed HO_3.out) (by decide)) (fun k_ hk => ⟨hk.1.2, fun e_ => (hk.2) (by rw [e_]; rfl)⟩))) (fun _ h_ => Or.inr (h_)))) (fun _ hk => hk) (fun k_ hk_ => ((Kd.R_mono (ok' := fun k_ => ((fun k_ => k_ ≠ gb361)) k_ ∧ k_ ≠ go7) (Kd.R_apart' (HO390.out) (Kd.S_typed HO_3.out) (by decide)) (fun k_ hk => ⟨hk.1.2, fun e_ => (hk.2) (by rw [e_]; rfl)⟩))).1 k_ hk_.symm); have hx65_0 := hcc65 0 _ rfl; (try simp only [show ((Kd.slice 83 k83)).sz = 1 from rfl, Nat.mul_one, Nat.add_zero] at hx65_0); have hf65_0 := hfr65 0; (try simp only [show ((Kd.slice 83 k83)).sz = 1 from rfl, Nat.mul_one, Nat.add_zero] at hf65_0); clear hcl65 hcc65 hfr65 hoki65 hH65; (try simp only [show ((Kd.slice 83 k83)).sz = 1 from rfl, Nat.mul_one, Nat.add_zero] at HP65)) | ((with_reducible refine gate_store (t := 81) (p := 93) rfl ?_); refine store_event (t := 81) (p := 93) (v := ?vo_w66) (w1 := (w63.setCell ⟨go7, (x81_2 : Int).toNat, none⟩ ((.slice Aq389 y388.length cq389)))) ?hg ?ho ?hn ?hr ?_; (case ho => rfl); (case hg => rfl); (case hn => rfl); (case hr => first | (go_simp; done) | (go_simp; rfl)); intro w66 hw; have hg : w63.grownBy w66 (some go7) := (by rw [hw]; exact HP65.2); have hp_ : Kd.S (Kd.slice 83 k83) 81 w66 w.heap.size (fun k_ => k_ ≠ gb361) (.slice (some ⟨go7, 0, none⟩) x3_2.length co7) y391 := (by rw [hw, Ny391.out]; exact HP65.1); clear HP65; have n0_ := Aside0.mk (hp_); have n1_ := Aside0.mk (blk_grown (g := gb361) (o := .cells #[.bool true, .int .i64 0] 83 (0, 0)) att18_0_3 hg (Kd.S_ne HO_3.out BK361.out (by decide))); have n2_ := Aside0.mk (Kd.R_after (v := (.slice (some ⟨go7, 0, none⟩) x3_2.length co7)) (v1 := (.slice (some ⟨go7, 0, none⟩) x3_2.length co7)) (ok := (fun k_ => some k_ ≠ ((.slice Aq389 y388.length cq389) : Value).ownBlock ∧ k_ ≠ gb361)) (by (with_reducible repeat (first | apply Kd.R_alloc | apply Kd.R_drewN | apply Kd.R_drew)); exact Kd.R_mono HL387_0.out (fun _ hk => ⟨⟨hk.2, hk.1.1⟩, hk.1.2⟩)) hg (.inl rfl)); have n3_ := Aside0.mk ((by rw [hw]; exact below_set (HB.out) GB7.out : Below w.heap.size w w66)); clear HO_3; clear BK361; clear HL387_0; clear HB; clear HO390; have HO_3 := n0_; have BK361 := n1_; have HL387_0 := n2_; have HB := n3_; clear n0_ n1_ n2_ n3_; clear hg hw hp_))
               (try simp only [← hl3_2])
               go_roundg k2
               case measure => have := HK1.out; have := HK2.out; omega
               case rel => exact ⟨(y391), (wrap64 (x81_2 + 1)), att18_0_7, H', ⟨att18_0_30⟩, ⟨att18_0_14⟩, ⟨att18_0_9⟩, ⟨att18_0_2⟩⟩
              ·rw [if_neg c61] at H
               exact absurd H (by simp)
             ·rw [if_neg c60] at H
              have c60b0 : (((rd_L5 x3_2 x81_2).length : Int) == 0) = false := beq_eq_false_iff_ne.mpr c60
              have c60b1 : (((rd_L5 x3_2 x81_2).length : Int) != 0) = true := bne_iff_ne.mpr c60
              have c60b2 : ¬ ((rd_L5 x3_2 x81_2) = []) := fun h_ => c60 (by rw [h_]; rfl)
              have H' := Aside0.mk H
              clear H
              have p387 : 0 ≤ (x81_2 : Int) := of_decide_eq_true att18_0_1
              have q387 : x81_2 < (x3_2.length : Int) := of_decide_eq_true att18_0_1
              obtain ⟨ad387, A387_0, c387_0, e387, hx387_0, hl387_0, hi387_0⟩ := at_L5 (Kd.S_reads' HO_3.out).2.2 x81_2 p387 q387
              obtain rfl : (⟨go7, 0, none⟩ : Addr) = ad387 := (by injection e387)
              obtain ⟨ce387, hce387, hMe387, hcc387⟩ := Kd.S_get HO_3.out [] x81_2 p387 att18_1_5
              obtain ⟨ve387_0, rfl, ge387_0⟩ := hMe387
              have hv387_0 := hcc387 0 _ rfl
              rw [Nat.add_zero, show ((Kd.slice 83 k83)).sz = 1 from rfl, Nat.mul_one] at hv387_0
              replace hv387_0 := Option.some.inj (hv387_0.symm.trans hx387_0)
              rw [hv387_0] at ge387_0
              have HL387_0 := Aside0.mk (show Kd.R k83 83 _ _ _ _ (rd_L5 x3_2 x81_2) from ge387_0)
              clear hv387_0 ge387_0
              clear hcc387 hce387
              (first | simp only [add_plain] at hx387_0 | simp only [add_at] at hx387_0 | simp only [Addr.add, Nat.zero_add] at hx387_0 | skip)
              have HR387_0 := Aside0.mk hi387_0
              have HC387_0 := Aside0.mk hl387_0
              clear hi387_0 hl387_0
              replace p387 := eq_true p387
              replace q387 := eq_true q387
              go_wp2
              (try simp only [← hl3_2])
              go_roundg k2
              case measure => have := HK1.out; have := HK2.out; omega
              case rel => exact ⟨(x3_2), (wrap64 (x81_2 + 1)), att18_0_7, H', ⟨att18_0_30⟩, ⟨att18_0_14⟩, ⟨att18_0_9⟩, ⟨att18_0_2⟩⟩
            ·rw [if_neg c59] at H
             exact absurd H (by simp)
           ·rw [if_neg c58] at H
            exact absurd H (by simp)
          ·rw [if_neg c57] at H
           have c57b0 : decide (x81_2 < (x3_1.length : Int)) = false := decide_eq_false c57
           (try rw [hl3_2] at c57b0)
           clear c57
           obtain rfl := Option.some.inj H
           go_wp2
           go_ret
           exact ⟨_, by first | rfl | (simp [errW_none, errW_some] <;> rfl) | (simp [*, errW_none, errW_some] <;> rfl), by (with_reducible repeat (first | apply Kd.S_alloc | apply Kd.S_drewN | apply Kd.S_drew)); exact Kd.S_mono HO_3.out (fun _ hk => trivial), att18_0_2⟩
    ·rw [if_neg c6] at H
     exact absurd H (by simp)
   ·rw [if_neg c5] at H
    exact absurd H (by simp)
  ·rw [if_neg c4] at H
   exact absurd H (by simp)
 ·replace c3 := Bool.eq_false_iff.mpr c3
  subst c3
  rw [if_neg (show ¬ (false = true) by decide)] at H
  obtain rfl := Option.some.inj H
  go_enter Try.func46, Try.ntmps46
  go_wp2_with (first | ((with_reducible refine gate_callee (f := 34) rfl ?_); refine goesL_ (some 14) rfl rfl Try.func34 (by kernel_rfl) rfl #[.slice A0 l0.length c0, .int .i64 3] rfl att18_0_8 ?_; (with_reducible refine (impl_BodyOk.calls k _ _ l0 3 false _ ?side1 ?side2 A2.out).mono ?_); (case side1 => repeat (first | exact HR0.out | (with_reducible refine Kd.C_alloc ?_ _) | (with_reducible refine Kd.C_drewN ?_ _) | (with_reducible refine Kd.C_drew ?_))); (case side2 => exact HC0.out); rintro e w67 ⟨rfl, hb⟩; refine ⟨_, rfl, ?_⟩; have n0_ := Aside0.mk (below_step att18_0_5 hb); clear HB; have HB := n0_; clear n0_; (try clear hb); (try clear hb2); (try clear hk); (try clear hi)))
  go_ret
  exact ⟨_, by first | rfl | (simp [errW_none, errW_some] <;> rfl) | (simp [*, errW_none, errW_some] <;> rfl), by first | exact Kd.S_nil _ _ _ _ _ | exact Kd.N_nil _ _ _ _ _ | exact Kd.V_nil _ _ _ _ _ | exact Kd.Q_nil _ _ _ _ _ | exact Kd.R_nil _ _ _ _ _, att18_0_5⟩

end Go.Proofs.Ytocimkpafakiaaa.XFnExactFoldBody
