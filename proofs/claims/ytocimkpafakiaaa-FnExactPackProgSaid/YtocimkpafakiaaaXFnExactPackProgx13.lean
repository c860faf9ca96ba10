/- Each Go function that the law reaches as a Lean function, and that Go comes to just its answer; written by this session's xprint.py over the kit's printer. -/
import Derived.Test.YtocimkpafakiaaaXFnExactPackProgx0
import Derived.Test.YtocimkpafakiaaaXFnExactPackProgx11
import Derived.Test.YtocimkpafakiaaaXFnExactPackProgx12
namespace Go.Proofs.Ytocimkpafakiaaa.XFnExactPackProg
open Go.RowKit Go.Proofs.YtocimkpafakiaaaW.PrintWords Go.Proofs.YtocimkpafakiaaaW.PrintLast Go.Proofs.YtocimkpafakiaaaW.PrintMore
attribute [local go_sem] max2_int min2_int max_two min_two max_three min_three max_four min_four   -- for this text's walks alone
set_option linter.unusedVariables false
set_option linter.unusedSimpArgs false

theorem att14_0_0 {p : Prop} (h : p := by repeat (first | (with_reducible first | exact HB.out | apply below_alloc | apply pw_below_drewN | apply below_drew1) | exact HB.out)) : p := h
theorem att14_0_1 {p : Prop} (h : p := by first | (with_reducible assumption) | assumption) : p := h
theorem att14_0_2 {p : Prop} (h : p := by repeat (first | (with_reducible first | exact HB.out | apply below_alloc | apply pw_below_drewN | apply below_drew1 | refine below_set ?_ GE398.out) | exact HB.out)) : p := h
theorem att14_0_3 {p : Prop} (h : p := by (with_reducible repeat (first | apply Kd.R_alloc | apply Kd.R_drewN | apply Kd.R_drew)); exact HO_3.out) : p := h
theorem att14_0_4 {p : Prop} (h : p := by (with_reducible repeat (first | refine blk_drewN ?_ _ | refine blk_drew ?_ | refine blk_alloc ?_ _)); refine blk_put (cs := #[.int .i64 ((rd_T63 l0 x22_1).f0), .int .i64 ((rd_T63 l0 x22_1).f1), .int .i64 ((rd_T63 l0 x22_1).f2), .int .i64 ((rd_T63 l0 x22_1).f3), .int .i64 0]) ?_ 4 _ rfl; (with_reducible repeat (first | refine blk_drewN ?_ _ | refine blk_drew ?_ | refine blk_alloc ?_ _)); refine blk_put (cs := #[.int .i64 ((rd_T63 l0 x22_1).f0), .int .i64 ((rd_T63 l0 x22_1).f1), .int .i64 ((rd_T63 l0 x22_1).f2), .int .i64 0, .int .i64 0]) ?_ 3 _ rfl; (with_reducible repeat (first | refine blk_drewN ?_ _ | refine blk_drew ?_ | refine blk_alloc ?_ _)); refine blk_put (cs := #[.int .i64 ((rd_T63 l0 x22_1).f0), .int .i64 ((rd_T63 l0 x22_1).f1), .int .i64 0, .int .i64 0, .int .i64 0]) ?_ 2 _ rfl; (with_reducible repeat (first | refine blk_drewN ?_ _ | refine blk_drew ?_ | refine blk_alloc ?_ _)); refine blk_put (cs := #[.int .i64 ((rd_T63 l0 x22_1).f0), .int .i64 0, .int .i64 0, .int .i64 0, .int .i64 0]) ?_ 1 _ rfl; (with_reducible repeat (first | refine blk_drewN ?_ _ | refine blk_drew ?_ | refine blk_alloc ?_ _)); refine blk_put (cs := #[.int .i64 0, .int .i64 0, .int .i64 0, .int .i64 0, .int .i64 0]) ?_ 0 _ rfl; (with_reducible repeat (first | refine blk_drewN ?_ _ | refine blk_drew ?_ | refine blk_alloc ?_ _)); exact BK378.out) : p := h
theorem att14_0_5 {p : Prop} (h : p := by (with_reducible repeat (first | refine blk_drewN ?_ _ | refine blk_drew ?_ | refine blk_alloc ?_ _)); refine blk_put (cs := #[.int .i64 ((rd_T63 x3_1 x69_3).f0), .int .i64 ((rd_T63 x3_1 x69_3).f1), .int .i64 ((rd_T63 x3_1 x69_3).f2), .int .i64 ((rd_T63 x3_1 x69_3).f3), .int .i64 ((rd_T63 x3_1 x69_3).f4)]) ?_ 4 _ rfl; (with_reducible repeat (first | refine blk_drewN ?_ _ | refine blk_drew ?_ | refine blk_alloc ?_ _)); exact BK398.out) : p := h
theorem att14_0_6 {p : Prop} (h : p := by (with_reducible repeat (first | apply Kd.R_alloc | apply Kd.R_drewN | apply Kd.R_drew)); exact HO_6.out) : p := h
theorem att14_0_7 {p : Prop} (h : p := by (with_reducible repeat (first | apply Kd.R_alloc | apply Kd.R_drewN | apply Kd.R_drew)); exact HO_7.out) : p := h
theorem att14_0_8 {p : Prop} (h : p := by repeat (first | (with_reducible first | exact HB.out | apply below_alloc | apply pw_below_drewN | apply below_drew1 | refine below_set ?_ GE378.out) | exact HB.out)) : p := h
theorem att14_0_9 {p : Prop} (h : p := by (with_reducible repeat (first | apply Kd.R_alloc | apply Kd.R_drewN | apply Kd.R_drew)); exact (Kd.R_mono (Kd.R_far (p := ⟨gb398, 4, none⟩) (Kd.R_mono HO_10.out (fun k_ hk => (⟨hk, hk.2⟩ : _ ∧ k_ ≠ gb398))) (fun _ hk => hk.2) (.int .i64 (rd x7_2 ((rd_T63 x3_1 x69_3).f4)))) (fun _ h_ => h_.1))) : p := h
theorem att14_0_10 {p : Prop} (h : p := by (try simp only [List.map_toArray, List.map_cons, List.map_nil]); first | done | rfl | (simp only [List.length_drop, List.length_take]; rfl)) : p := h
theorem att14_0_11 {p : Prop} (h : p := by (with_reducible repeat (first | apply Kd.R_alloc | apply Kd.R_drewN | apply Kd.R_drew)); exact (Kd.R_mono (Kd.R_far (p := ⟨gb378, 4, none⟩) (Kd.R_far (p := ⟨gb378, 3, none⟩) (Kd.R_far (p := ⟨gb378, 2, none⟩) (Kd.R_far (p := ⟨gb378, 1, none⟩) (Kd.R_far (p := ⟨gb378, 0, none⟩) (Kd.R_mono HO_3.out (fun k_ hk => (⟨hk, hk.2⟩ : _ ∧ k_ ≠ gb378))) (fun _ hk => hk.2) (.int .i64 ((rd_T63 l0 x22_1).f0))) (fun _ hk => hk.2) (.int .i64 ((rd_T63 l0 x22_1).f1))) (fun _ hk => hk.2) (.int .i64 ((rd_T63 l0 x22_1).f2))) (fun _ hk => hk.2) (.int .i64 ((rd_T63 l0 x22_1).f3))) (fun _ hk => hk.2) (.int .i64 ((rd_T63 l0 x22_1).f4))) (fun _ h_ => h_.1))) : p := h
theorem att14_0_12 {p : Prop} (h : p := by first | rfl | (simp; done) | (simp [*]; done)) : p := h
theorem att14_0_13 {p : Prop} (h : p := by (with_reducible repeat (first | apply Kd.R_alloc | apply Kd.R_drewN | apply Kd.R_drew)); exact HO_67.out) : p := h
theorem att14_0_14 {p : Prop} (h : p := by (with_reducible repeat (first | apply Kd.R_alloc | apply Kd.R_drewN | apply Kd.R_drew)); exact HO_10.out) : p := h
theorem att14_0_15 {p : Prop} (h : p := by (with_reducible repeat (first | apply Kd.R_alloc | apply Kd.R_drewN | apply Kd.R_drew)); exact Kd.R_mono (Kd.R_far (p := ⟨gb398, 4, none⟩) (Kd.R_mono HO_67.out (fun k_ hk => (⟨hk, hk.2⟩ : _ ∧ k_ ≠ gb398))) (fun _ hk => hk.2) (.int .i64 (rd x7_2 ((rd_T63 x3_1 x69_3).f4)))) (fun _ hk => ⟨hk.1.2, hk.1.1⟩)) : p := h
theorem att14_0_16 {p : Prop} (h : p := by (with_reducible repeat (first | apply Kd.R_alloc | apply Kd.R_drewN | apply Kd.R_drew)); exact Kd.R_mono (Kd.R_far (p := ⟨gb398, 4, none⟩) (Kd.R_mono HO_10.out (fun k_ hk => (⟨hk, hk.2⟩ : _ ∧ k_ ≠ gb398))) (fun _ hk => hk.2) (.int .i64 (rd x7_2 ((rd_T63 x3_1 x69_3).f4)))) (fun _ hk => ⟨hk.1.1, hk.1.2⟩)) : p := h
theorem att14_0_17 {p : Prop} (h : p := by (with_reducible repeat (first | apply Kd.R_alloc | apply Kd.R_drewN | apply Kd.R_drew)); exact (Kd.R_mono (Kd.R_far (p := ⟨gb398, 4, none⟩) (Kd.R_mono HO_67.out (fun k_ hk => (⟨hk, hk.2⟩ : _ ∧ k_ ≠ gb398))) (fun _ hk => hk.2) (.int .i64 (rd x7_2 ((rd_T63 x3_1 x69_3).f4)))) (fun _ h_ => h_.1))) : p := h
theorem att14_0_18 {p : Prop} (h : p := by (with_reducible repeat (first | apply Kd.R_alloc | apply Kd.R_drewN | apply Kd.R_drew)); exact (Kd.R_mono (Kd.R_far (p := ⟨gb398, 4, none⟩) (Kd.R_types HO_7.out BK398.out (by decide)) (fun _ hk => hk.2) (.int .i64 (rd x7_2 ((rd_T63 x3_1 x69_3).f4)))) (fun _ h_ => h_.1))) : p := h
theorem att14_0_19 {p : Prop} (h : p := by (with_reducible repeat (first | apply Kd.R_alloc | apply Kd.R_drewN | apply Kd.R_drew)); exact (Kd.R_mono (Kd.R_far (p := ⟨gb398, 4, none⟩) (Kd.R_types HO_6.out BK398.out (by decide)) (fun _ hk => hk.2) (.int .i64 (rd x7_2 ((rd_T63 x3_1 x69_3).f4)))) (fun _ h_ => h_.1))) : p := h
theorem att14_0_20 {p : Prop} (h : p := by (with_reducible repeat (first | apply Kd.R_alloc | apply Kd.R_drewN | apply Kd.R_drew)); exact Kd.R_mono HO_67.out (fun _ hk => hk.2)) : p := h
theorem att14_0_21 {p : Prop} (h : p := by (with_reducible repeat (first | apply Kd.R_alloc | apply Kd.R_drewN | apply Kd.R_drew)); exact HO385.out) : p := h
theorem att14_0_22 {p : Prop} (h : p := by (with_reducible repeat (first | apply Kd.R_alloc | apply Kd.R_drewN | apply Kd.R_drew)); exact (Kd.R_mono (Kd.R_mono HO_10.out (fun k_ hk => (⟨hk, hk.2⟩ : _ ∧ k_ ≠ gb398))) (fun _ h_ => h_.1))) : p := h
theorem att14_0_23 {p : Prop} (h : p := by have := HK1.out; have := HK2.out; have := HK3.out; omega) : p := h
theorem att14_0_24 {p : Prop} (h : p := by (with_reducible repeat (first | apply Kd.R_alloc | apply Kd.R_drewN | apply Kd.R_drew)); exact Kd.R_mono HO_3.out (fun _ hk => trivial)) : p := h
theorem att14_0_25 {p : Prop} (h : p := by (with_reducible repeat (first | refine blk_drewN ?_ _ | refine blk_drew ?_ | refine blk_alloc ?_ _)); exact BK398.out) : p := h
theorem att14_0_26 {p : Prop} (h : p := by (with_reducible repeat (first | refine blk_drewN ?_ _ | refine blk_drew ?_ | refine blk_alloc ?_ _)); exact BK378.out) : p := h
theorem att14_0_27 {p : Prop} (h : p := by (with_reducible repeat (first | apply Kd.R_alloc | apply Kd.R_drewN | apply Kd.R_drew)); exact HO388.out) : p := h
theorem att14_0_28 {p : Prop} (h : p := by first | (go_simp; done) | (go_simp; rfl)) : p := h
theorem att14_1_0 {p : Prop} (h : p := by have h_ : (x22_1 : Int) < ((x3_1.length : Int) : Int) := of_decide_eq_true att14_0_1; first | exact h_ | (have e_ := (Kd.R_reads' HO_3.out).1; omega) | simpa using h_) : p := h
/-! ### impl_PackBody: function 15 -/
theorem far5i_ {α : Type} {d : Kd α} {e b g : Nat} {ok : Nat → Prop} {v a0 a1 a2 a3 a4 : Value} {xs : List α} {W : World} (h : d.R e W b (fun k => ok k ∧ k ≠ g) v xs) : d.R e (((((W.setCell ⟨g, 0, none⟩ a0).setCell ⟨g, 1, none⟩ a1).setCell ⟨g, 2, none⟩ a2).setCell ⟨g, 3, none⟩ a3).setCell ⟨g, 4, none⟩ a4) b ok v xs :=
Kd.R_mono (Kd.R_far (p := ⟨g, 4, none⟩) (Kd.R_far (p := ⟨g, 3, none⟩) (Kd.R_far (p := ⟨g, 2, none⟩) (Kd.R_far (p := ⟨g, 1, none⟩) (Kd.R_far (p := ⟨g, 0, none⟩) h (fun _ hk => hk.2) a0) (fun _ hk => hk.2) a1) (fun _ hk => hk.2) a2) (fun _ hk => hk.2) a3) (fun _ hk => hk.2) a4) (fun _ h => h.1)
theorem below5i_ {g : Nat} {w W : World} {a0 a1 a2 a3 a4 : Value} (h : Below w.heap.size w W) (hg : w.heap.size ≤ g) : Below w.heap.size w (((((W.setCell ⟨g, 0, none⟩ a0).setCell ⟨g, 1, none⟩ a1).setCell ⟨g, 2, none⟩ a2).setCell ⟨g, 3, none⟩ a3).setCell ⟨g, 4, none⟩ a4) := below_set (below_set (below_set (below_set (below_set h hg) hg) hg) hg) hg
theorem blk5i_ {g t : Nat} {W : World} {z0 z1 z2 z3 z4 : Value} (a0 a1 a2 a3 a4 : Value) (h : W.heap[g]? = some (.cells #[z0, z1, z2, z3, z4] t (0, 0))) : (((((W.setCell ⟨g, 0, none⟩ a0).setCell ⟨g, 1, none⟩ a1).setCell ⟨g, 2, none⟩ a2).setCell ⟨g, 3, none⟩ a3).setCell ⟨g, 4, none⟩ a4).heap[g]? = some (.cells #[a0, a1, a2, a3, a4] t (0, 0)) :=
blk_put (cs := #[a0, a1, a2, a3, z4]) (blk_put (cs := #[a0, a1, a2, z3, z4]) (blk_put (cs := #[a0, a1, z2, z3, z4]) (blk_put (cs := #[a0, z1, z2, z3, z4]) (blk_put (cs := #[z0, z1, z2, z3, z4]) h 0 a0 rfl) 1 a1 rfl) 2 a2 rfl) 3 a3 rfl) 4 a4 rfl
mutual
def impl_PackBody.l0 : Nat → List (S63) → List (S63) → List (S63) → Int → Int → Option ((List (S63)))
 | 0, _, _, _, _, _ => none
 | k + 1, x0, x3, x20, x21, x22 => if x22 < x21 then (if 0 ≤ x22 then (if x22 < (x20.length : Int) then (if ((rd_T63 x20 x22).f0) = 11 then ((impl_Skip.f k x0 ((rd_T63 x20 x22).f4)).bind fun t379 => (if x22 < (x3.length : Int) then (impl_PackBody.l0 k x0 (x3.set (x22 : Int).toNat (⟨(rd_T63 x3 x22).f0, (rd_T63 x3 x22).f1, (rd_T63 x3 x22).f2, (rd_T63 x3 x22).f3, t379⟩ : S63)) x20 x21 (wrap64 (x22 + 1))) else (none))) else (if ((rd_T63 x20 x22).f0) = 12 then ((impl_Skip.f k x0 ((rd_T63 x20 x22).f4)).bind fun t381 => (if x22 < (x3.length : Int) then (impl_PackBody.l0 k x0 (x3.set (x22 : Int).toNat (⟨(rd_T63 x3 x22).f0, (rd_T63 x3 x22).f1, (rd_T63 x3 x22).f2, (rd_T63 x3 x22).f3, t381⟩ : S63)) x20 x21 (wrap64 (x22 + 1))) else (none))) else (impl_PackBody.l0 k x0 x3 x20 x21 (wrap64 (x22 + 1))))) else (none)) else (none)) else ((impl_reached.f k x3 (([0] : List Int))).bind fun t386 => (if 0 ≤ (x0.length : Int) then (if ((x0.length : Int) : Int).toNat ≤ 35184372088832 then (impl_PackBody.l1 k x3 t386 (List.replicate ((x0.length : Int) : Int).toNat 0) 0 (x0.length : Int) 0) else (none)) else (none)))
def impl_PackBody.l1 : Nat → List (S63) → List Bool → List Int → Int → Int → Int → Option ((List (S63)))
 | 0, _, _, _, _, _, _ => none
 | k + 1, x3, x6, x7, x8, x51, x52 => if x52 < x51 then (if 0 ≤ x52 then (if x52 < (x7.length : Int) then ((some (x7.set (x52 : Int).toNat x8 : List Int)).bind fun y392 => (if x52 < (x6.length : Int) then (if rdOf false x6 x52 = true then (impl_PackBody.l1 k x3 x6 y392 (wrap64 (x8 + 1)) x51 (wrap64 (x52 + 1))) else (impl_PackBody.l1 k x3 x6 y392 x8 x51 (wrap64 (x52 + 1)))) else (none))) else (none)) else (none)) else (impl_PackBody.l2 k x6 x7 (([] : List (S63))) x3 (x3.length : Int) 0)
def impl_PackBody.l2 : Nat → List Bool → List Int → List (S63) → List (S63) → Int → Int → Option ((List (S63)))
 | 0, _, _, _, _, _, _ => none
 | k + 1, x6, x7, x10, x67, x68, x69 => if x69 < x68 then (if 0 ≤ x69 then (if x69 < (x67.length : Int) then (if x69 < (x6.length : Int) then (if rdOf false x6 x69 = true then (if ((rd_T63 x67 x69).f0) = 11 then (if 0 ≤ ((rd_T63 x67 x69).f4) then (if ((rd_T63 x67 x69).f4) < (x7.length : Int) then (if x10.length < 3518437208883 then (impl_PackBody.l2 k x6 x7 (x10 ++ [(⟨(rd_T63 x67 x69).f0, (rd_T63 x67 x69).f1, (rd_T63 x67 x69).f2, (rd_T63 x67 x69).f3, rd x7 ((rd_T63 x67 x69).f4)⟩ : S63)]) x67 x68 (wrap64 (x69 + 1))) else (none)) else (none)) else (none)) else (if ((rd_T63 x67 x69).f0) = 12 then (if 0 ≤ ((rd_T63 x67 x69).f4) then (if ((rd_T63 x67 x69).f4) < (x7.length : Int) then (if x10.length < 3518437208883 then (impl_PackBody.l2 k x6 x7 (x10 ++ [(⟨(rd_T63 x67 x69).f0, (rd_T63 x67 x69).f1, (rd_T63 x67 x69).f2, (rd_T63 x67 x69).f3, rd x7 ((rd_T63 x67 x69).f4)⟩ : S63)]) x67 x68 (wrap64 (x69 + 1))) else (none)) else (none)) else (none)) else (if x10.length < 3518437208883 then (impl_PackBody.l2 k x6 x7 (x10 ++ [(⟨(rd_T63 x67 x69).f0, (rd_T63 x67 x69).f1, (rd_T63 x67 x69).f2, (rd_T63 x67 x69).f3, (rd_T63 x67 x69).f4⟩ : S63)]) x67 x68 (wrap64 (x69 + 1))) else (none)))) else (impl_PackBody.l2 k x6 x7 x10 x67 x68 (wrap64 (x69 + 1)))) else (none)) else (none)) else (none)) else (some x10)
end
def impl_PackBody.f (k : Nat) (l0 : List (S63)) : Option ((List (S63))) := (impl_BodyOk.f k l0 3).bind fun t370 => (if t370 = true then ((impl_copyBody.f l0).bind fun t374 => (impl_PackBody.l0 k l0 t374 l0 (l0.length : Int) 0)) else ((impl_copyBody.f l0).bind fun t371 => (some t371)))
theorem impl_PackBody.mono_l : ∀ k, (∀ y0 y1 y2 y3 y4, LeO (impl_PackBody.l0 k y0 y1 y2 y3 y4) (impl_PackBody.l0 (k + 1) y0 y1 y2 y3 y4)) ∧ (∀ y0 y1 y2 y3 y4 y5, LeO (impl_PackBody.l1 k y0 y1 y2 y3 y4 y5) (impl_PackBody.l1 (k + 1) y0 y1 y2 y3 y4 y5)) ∧ (∀ y0 y1 y2 y3 y4 y5, LeO (impl_PackBody.l2 k y0 y1 y2 y3 y4 y5) (impl_PackBody.l2 (k + 1) y0 y1 y2 y3 y4 y5))
 | 0 => ⟨fun _ _ _ _ _ r h => by simp [impl_PackBody.l0] at h, fun _ _ _ _ _ _ r h => by simp [impl_PackBody.l1] at h, fun _ _ _ _ _ _ r h => by simp [impl_PackBody.l2] at h⟩
 | k + 1 => by
  obtain ⟨ih0, ih1, ih2⟩ := impl_PackBody.mono_l k
  refine ⟨?_, ?_, ?_⟩
  ·intro y0 y1 y2 y3 y4
   unfold impl_PackBody.l0
   repeat' first
   | (with_reducible exact ih0 _ _ _ _ _)
   | (with_reducible exact ih1 _ _ _ _ _ _)
   | (with_reducible exact ih2 _ _ _ _ _ _)
   | (with_reducible exact impl_BodyOk.mono _ _ _)
   | (with_reducible exact impl_Skip.mono _ _ _)
   | (with_reducible exact impl_reached.mono _ _ _)
   | (with_reducible exact LeO.refl _)
   | (with_reducible exact LeO.none _)
   | (with_reducible refine LeO.ite ?_ ?_)
   | (with_reducible refine LeO.bind ?_ (fun _ => ?_))
   | exact ih0 _ _ _ _ _
   | exact ih1 _ _ _ _ _ _
   | exact ih2 _ _ _ _ _ _
   | exact impl_BodyOk.mono _ _ _
   | exact impl_Skip.mono _ _ _
   | exact impl_reached.mono _ _ _
   | exact LeO.none _
   | refine LeO.ite ?_ ?_
   | refine LeO.bind ?_ (fun _ => ?_)
  ·intro y0 y1 y2 y3 y4 y5
   unfold impl_PackBody.l1
   repeat' first
   | (with_reducible exact ih0 _ _ _ _ _)
   | (with_reducible exact ih1 _ _ _ _ _ _)
   | (with_reducible exact ih2 _ _ _ _ _ _)
   | (with_reducible exact impl_BodyOk.mono _ _ _)
   | (with_reducible exact impl_Skip.mono _ _ _)
   | (with_reducible exact impl_reached.mono _ _ _)
   | (with_reducible exact LeO.refl _)
   | (with_reducible exact LeO.none _)
   | (with_reducible refine LeO.ite ?_ ?_)
   | (with_reducible refine LeO.bind ?_ (fun _ => ?_))
   | exact ih0 _ _ _ _ _
   | exact ih1 _ _ _ _ _ _
   | exact ih2 _ _ _ _ _ _
   | exact impl_BodyOk.mono _ _ _
   | exact impl_Skip.mono _ _ _
   | exact impl_reached.mono _ _ _
   | exact LeO.none _
   | refine LeO.ite ?_ ?_
   | refine LeO.bind ?_ (fun _ => ?_)
  ·intro y0 y1 y2 y3 y4 y5
   unfold impl_PackBody.l2
   repeat' first
   | (with_reducible exact ih0 _ _ _ _ _)
   | (with_reducible exact ih1 _ _ _ _ _ _)
   | (with_reducible exact ih2 _ _ _ _ _ _)
   | (with_reducible exact impl_BodyOk.mono _ _ _)
   | (with_reducible exact impl_Skip.mono _ _ _)
   | (with_reducible exact impl_reached.mono _ _ _)
   | (with_reducible exact LeO.refl _)
   | (with_reducible exact LeO.none _)
   | (with_reducible refine LeO.ite ?_ ?_)
   | (with_reducible refine LeO.bind ?_ (fun _ => ?_))
   | exact ih0 _ _ _ _ _
   | exact ih1 _ _ _ _ _ _
   | exact ih2 _ _ _ _ _ _
   | exact impl_BodyOk.mono _ _ _
   | exact impl_Skip.mono _ _ _
   | exact impl_reached.mono _ _ _
   | exact LeO.none _
   | refine LeO.ite ?_ ?_
   | refine LeO.bind ?_ (fun _ => ?_)
theorem impl_PackBody.mono : ∀ a0 k, LeO (impl_PackBody.f k a0) (impl_PackBody.f (k + 1) a0) := by
 intro a0 k
 obtain ⟨ih0, ih1, ih2⟩ := impl_PackBody.mono_l k
 unfold impl_PackBody.f
 repeat' first
   | (with_reducible exact ih0 _ _ _ _ _)
   | (with_reducible exact ih1 _ _ _ _ _ _)
   | (with_reducible exact ih2 _ _ _ _ _ _)
   | (with_reducible exact impl_BodyOk.mono _ _ _)
   | (with_reducible exact impl_Skip.mono _ _ _)
   | (with_reducible exact impl_reached.mono _ _ _)
   | (with_reducible exact LeO.refl _)
   | (with_reducible exact LeO.none _)
   | (with_reducible refine LeO.ite ?_ ?_)
   | (with_reducible refine LeO.bind ?_ (fun _ => ?_))
   | exact ih0 _ _ _ _ _
   | exact ih1 _ _ _ _ _ _
   | exact ih2 _ _ _ _ _ _
   | exact impl_BodyOk.mono _ _ _
   | exact impl_Skip.mono _ _ _
   | exact impl_reached.mono _ _ _
   | exact LeO.none _
   | refine LeO.ite ?_ ?_
   | refine LeO.bind ?_ (fun _ => ?_)
set_option maxHeartbeats 80000000 in
set_option maxRecDepth 100000 in
theorem impl_PackBody.calls (k : Nat) (A0 : Option Addr) (c0 : Nat) (l0 : List (S63)) (r : List (S63)) (w : World) (hr0 : Kd.C k63 w A0 l0.length l0) (hc0 : l0.length ≤ c0) (h : impl_PackBody.f k l0 = some r) :
  Calls Try.prog 15 #[.slice A0 l0.length c0] w fun e w' => ∃ v0_ : Value, e = .returned (v0_) ∧ Kd.R k63 63 w' w.heap.size (fun _ => True) v0_ r ∧ Below w.heap.size w w' := by
 have hu63 := Try.underlying63
 have HR0 := Aside0.mk hr0
 have HC0 := Aside0.mk hc0
 clear hr0 hc0
 have HB := Aside0.mk (Below.refl w.heap.size w)
 have H : ((impl_BodyOk.f k l0 3).bind fun t370 => (if t370 = true then ((impl_copyBody.f l0).bind fun t374 => (impl_PackBody.l0 k l0 t374 l0 (l0.length : Int) 0)) else ((impl_copyBody.f l0).bind fun t371 => (some t371)))) = some r := h
 clear h
 replace H := Option.bind_eq_some_iff.mp H
 obtain ⟨t370, A20, H⟩ := H
 (try dsimp only at H)
 have A2 := Aside0.mk A20
 clear A20
 by_cases c3 : t370 = true
 ·subst c3
  rw [if_pos rfl] at H
  replace H := Option.bind_eq_some_iff.mp H
  obtain ⟨t374, A40, H⟩ := H
  (try dsimp only at H)
  have A4 := Aside0.mk A40
  clear A40
  have H' := Aside0.mk H
  clear H
  go_enter Try.func15, Try.ntmps15
  go_wp2_with (first | ((with_reducible refine gate_callee (f := 34) rfl ?_); refine goesL_ (some 14) rfl rfl Try.func34 (by kernel_rfl) rfl #[.slice A0 l0.length c0, .int .i64 3] rfl att14_0_10 ?_; (with_reducible refine (impl_BodyOk.calls k _ _ l0 3 true _ ?side1 ?side2 A2.out).mono ?_); (case side1 => repeat (first | exact HR0.out | (with_reducible refine Kd.C_alloc ?_ _) | (with_reducible refine Kd.C_drewN ?_ _) | (with_reducible refine Kd.C_drew ?_))); (case side2 => exact HC0.out); rintro e w5 ⟨rfl, hb⟩; refine ⟨_, rfl, ?_⟩; have n0_ := Aside0.mk (below_step att14_0_0 hb); clear HB; have HB := n0_; clear n0_; (try clear hb); (try clear hb2); (try clear hk); (try clear hi)) | ((with_reducible refine gate_callee (f := 66) rfl ?_); refine goesL_ (some 19) rfl rfl Try.func66 (by kernel_rfl) rfl #[.slice A0 l0.length c0] rfl att14_0_10 ?_; (with_reducible refine (impl_copyBody.calls _ _ l0 t374 _ ?side1 ?side2 A4.out).mono ?_); (case side1 => repeat (first | exact (Kd.C_below HR0.out HB.out) | (with_reducible refine Kd.C_alloc ?_ _) | (with_reducible refine Kd.C_drewN ?_ _) | (with_reducible refine Kd.C_drew ?_))); (case side2 => exact HC0.out); rintro e w6 ⟨v375, rfl, ho0, hb⟩; refine ⟨_, rfl, ?_⟩; have n0_ := Aside0.mk (Kd.R_lower ho0 (below_size att14_0_0)); have n1_ := Aside0.mk (below_step att14_0_0 hb); clear HB; have HO376 := n0_; have HB := n1_; clear n0_ n1_; (try clear hb); (try clear hb2); (try clear hk); (try clear hi); (try clear ho0)))
  go_loopg [22] k (fun kq v22 w' => ∃ (x3_1 : List (S63)) (x22_1 : Int), v22 = .int .i64 x22_1 ∧ Aside0 (impl_PackBody.l0 kq l0 x3_1 l0 (l0.length : Int) x22_1 = some r) ∧ Aside0 (kq ≤ k) ∧ Aside0 (Kd.R k63 63 w' w.heap.size (fun _ => True) v375 x3_1) ∧ Aside0 (Below w.heap.size w w'))
  case atStart => exact ⟨(t374), (0), att14_0_12, H', ⟨Nat.le_refl _⟩, ⟨by (with_reducible repeat (first | apply Kd.R_alloc | apply Kd.R_drewN | apply Kd.R_drew)); exact HO376.out⟩, ⟨att14_0_0⟩⟩
  case round =>
   clear H'
   try clear c1
   try clear p2
   try clear c3
   try clear c6
   obtain ⟨x3_1, x22_1, rfl, HA, HK1, HO_3, HB⟩ := hrel
   cases gk with
   | zero => exact absurd HA.out (by simp [impl_PackBody.l0])
   | succ k1 =>
    have H := HA.out
    clear HA
    simp only [impl_PackBody.l0] at H
    by_cases c7 : x22_1 < (l0.length : Int)
    ·rw [if_pos c7] at H
     have c7b0 : decide (x22_1 < (l0.length : Int)) = true := decide_eq_true c7
     clear c7
     by_cases c8 : 0 ≤ x22_1
     ·rw [if_pos c8] at H
      have c8b0 : decide (0 ≤ x22_1) = true := decide_eq_true c8
      clear c8
      by_cases c9 : x22_1 < (l0.length : Int)
      ·rw [if_pos c9] at H
       have c9b0 : decide (x22_1 < (l0.length : Int)) = true := decide_eq_true c9
       clear c9
       by_cases c10 : ((rd_T63 l0 x22_1).f0) = 11
       ·rw [if_pos c10] at H
        have c10b0 : (((rd_T63 l0 x22_1).f0) == 11) = true := beq_iff_eq.mpr c10
        have c10b1 : (((rd_T63 l0 x22_1).f0) != 11) = false := bne_eq_false_iff_eq.mpr c10
        clear c10
        replace H := Option.bind_eq_some_iff.mp H
        obtain ⟨t379, A110, H⟩ := H
        (try dsimp only at H)
        have A11 := Aside0.mk A110
        clear A110
        by_cases c12 : x22_1 < (x3_1.length : Int)
        ·rw [if_pos c12] at H
         have c12b0 : decide (x22_1 < (x3_1.length : Int)) = true := decide_eq_true c12
         clear c12
         obtain ⟨y380, hy380⟩ : ∃ y_ : List (S63), y_ = (x3_1.set (x22_1 : Int).toNat (⟨(rd_T63 x3_1 x22_1).f0, (rd_T63 x3_1 x22_1).f1, (rd_T63 x3_1 x22_1).f2, (rd_T63 x3_1 x22_1).f3, t379⟩ : S63)) := ⟨_, rfl⟩
         replace H : (impl_PackBody.l0 k1 l0 y380 l0 (l0.length : Int) (wrap64 (x22_1 + 1))) = some r := by first | (rw [hy380]; with_reducible exact H) | (have H2_ := (Option.bind_some _ _).symm.trans H; rw [hy380]; with_reducible exact H2_) | (have H2_ := (Option.bind_some _ _).symm.trans H; with_reducible exact H2_) | with_reducible exact H | (rw [hy380]; exact H) | exact H
         have Ny380 := Aside0.mk hy380
         clear hy380
         have H' := Aside0.mk H
         clear H
         have p377 : 0 ≤ (x22_1 : Int) := of_decide_eq_true att14_0_1
         have q377 : x22_1 < (l0.length : Int) := of_decide_eq_true att14_0_1
         obtain ⟨ad377, e377, hx377_0, hx377_1, hx377_2, hx377_3, hx377_4⟩ := at_T63 HR0.out x22_1 p377 q377
         cases e377
         replace hx377_0 := (HB.out.cell (World.block_lt_of_cell? w _ hx377_0)).trans hx377_0
         replace hx377_1 := (HB.out.cell (World.block_lt_of_cell? w _ hx377_1)).trans hx377_1
         replace hx377_2 := (HB.out.cell (World.block_lt_of_cell? w _ hx377_2)).trans hx377_2
         replace hx377_3 := (HB.out.cell (World.block_lt_of_cell? w _ hx377_3)).trans hx377_3
         replace hx377_4 := (HB.out.cell (World.block_lt_of_cell? w _ hx377_4)).trans hx377_4
         replace p377 := eq_true p377
         replace q377 := eq_true q377
         go_wp2_with (first | ((with_reducible refine gate_dst (N := 5) rfl ?_); refine box_event ?hg (N := 5) ?hd (cs := #[.int .i64 0, .int .i64 0, .int .i64 0, .int .i64 0, .int .i64 0]) (t := 63) ?hr ?_; (case hd => rfl); (case hg => rfl); (case hr => first | (go_simp; done) | (go_simp; rfl)); intro gb378 hg w14 hbox hb; have n0_ := Aside0.mk (Kd.R_below (Kd.R_elderB att14_0_3 gb378 (Nat.le_of_eq hg.symm)) hb); have n1_ := Aside0.mk (below_step att14_0_0 hb); have n2_ := Aside0.mk (hbox); have n3_ := Aside0.mk ((by rw [hg]; exact (below_size att14_0_0) : w.heap.size ≤ gb378)); have n4_ := Aside0.mk ((by rw [hg]; exact (below_size att14_0_0) : w.heap.size ≤ gb378)); clear HO_3; clear HB; have HO_3 := n0_; have HB := n1_; have BK378 := n2_; have GW378 := n3_; have GE378 := n4_; clear n0_ n1_ n2_ n3_ n4_; clear hb hbox hg; have hcz15_0 : w14.cell? ⟨gb378, 0, none⟩ = some (.int .i64 0) := (blk_cell BK378.out 0).trans rfl; have hcz15_1 : w14.cell? ⟨gb378, 1, none⟩ = some (.int .i64 0) := (blk_cell BK378.out 1).trans rfl; have hcz15_2 : w14.cell? ⟨gb378, 2, none⟩ = some (.int .i64 0) := (blk_cell BK378.out 2).trans rfl; have hcz15_3 : w14.cell? ⟨gb378, 3, none⟩ = some (.int .i64 0) := (blk_cell BK378.out 3).trans rfl; have hcz15_4 : w14.cell? ⟨gb378, 4, none⟩ = some (.int .i64 0) := (blk_cell BK378.out 4).trans rfl; have hfz15_0 := blk_frozen BK378.out 0; have hfz15_1 := blk_frozen BK378.out 1; have hfz15_2 := blk_frozen BK378.out 2; have hfz15_3 := blk_frozen BK378.out 3; have hfz15_4 := blk_frozen BK378.out 4) | ((with_reducible refine gate_callee (f := 67) rfl ?_); refine goesL_ (some 40) rfl rfl Try.func67 (by kernel_rfl) rfl #[.slice (some ad377) l0.length c0, .int .i64 ((rd_T63 l0 x22_1).f4)] rfl att14_0_10 ?_; (with_reducible refine (impl_Skip.calls k1 _ _ l0 ((rd_T63 l0 x22_1).f4) t379 _ ?side1 ?side2 A11.out).mono ?_); (case side1 => exact Kd.C_below HR0.out att14_0_8); (case side2 => exact HC0.out); rintro e w16 ⟨rfl, hb⟩; refine ⟨_, rfl, ?_⟩; have n0_ := Aside0.mk (Kd.R_below att14_0_11 hb); have n1_ := Aside0.mk (blk_below (g := gb378) (o := .cells #[.int .i64 ((rd_T63 l0 x22_1).f0), .int .i64 ((rd_T63 l0 x22_1).f1), .int .i64 ((rd_T63 l0 x22_1).f2), .int .i64 ((rd_T63 l0 x22_1).f3), .int .i64 ((rd_T63 l0 x22_1).f4)] 63 (0, 0)) att14_0_4 hb); have n2_ := Aside0.mk (below_step att14_0_8 hb); clear HO_3; clear BK378; clear HB; have HO_3 := n0_; have BK378 := n1_; have HB := n2_; clear n0_ n1_ n2_; (try clear hb); (try clear hb2); (try clear hk); (try clear hi); have p13 : 0 ≤ (x22_1 : Int) := of_decide_eq_true att14_0_1; have q13 : (x22_1 : Int) < ((x3_1.length : Int) : Int) := of_decide_eq_true att14_0_1; obtain ⟨go13, co13, eo13, gb13, gl13, cl13, HG13⟩ := Kd.R_form HO_3.out (by omega); (first | cases eo13 | (injection eo13 with ea_ en_ ec_; (first | subst ea_ | (injection ea_ with ea_; subst ea_)); subst ec_; clear en_)); have GB13 := Aside0.mk gb13; have GG13 := Aside0.mk HG13; clear gb13 gl13 HG13; obtain ⟨ce13, hcl13, hM13, hcc13, hfr13⟩ := Kd.R_elem HO_3.out z63 (x22_1 : Int) p13 q13; obtain rfl := k63_openM hM13; have hx13_0 : w16.cell? ⟨go13, (x22_1 : Int).toNat * 5, none⟩ = some (.int .i64 ((rd_T63 x3_1 x22_1).f0)) := hcc13 0 _ rfl; have hx13_1 : w16.cell? ⟨go13, (x22_1 : Int).toNat * 5 + 1, none⟩ = some (.int .i64 ((rd_T63 x3_1 x22_1).f1)) := hcc13 1 _ rfl; have hx13_2 : w16.cell? ⟨go13, (x22_1 : Int).toNat * 5 + 2, none⟩ = some (.int .i64 ((rd_T63 x3_1 x22_1).f2)) := hcc13 2 _ rfl; have hx13_3 : w16.cell? ⟨go13, (x22_1 : Int).toNat * 5 + 3, none⟩ = some (.int .i64 ((rd_T63 x3_1 x22_1).f3)) := hcc13 3 _ rfl; have hx13_4 : w16.cell? ⟨go13, (x22_1 : Int).toNat * 5 + 4, none⟩ = some (.int .i64 ((rd_T63 x3_1 x22_1).f4)) := hcc13 4 _ rfl; have hf13_0 : w16.frozen? ⟨go13, (x22_1 : Int).toNat * 5, none⟩ = false := hfr13 0; have hf13_1 : w16.frozen? ⟨go13, (x22_1 : Int).toNat * 5 + 1, none⟩ = false := hfr13 1; have hf13_2 : w16.frozen? ⟨go13, (x22_1 : Int).toNat * 5 + 2, none⟩ = false := hfr13 2; have hf13_3 : w16.frozen? ⟨go13, (x22_1 : Int).toNat * 5 + 3, none⟩ = false := hfr13 3; have hf13_4 : w16.frozen? ⟨go13, (x22_1 : Int).toNat * 5 + 4, none⟩ = false := hfr13 4; clear hcl13 hcc13 hfr13 hM13; replace p13 := eq_true p13; replace q13 := eq_true q13; have n_ := Aside0.mk (Kd.R_mono (ok' := (fun k_ => k_ ≠ gb378)) HO_3.out (fun k_ hk => hk.2)); clear HO_3; have HO_3 := n_; clear n_; have HX17 := Aside0.mk (show Kd.R k63 63 w16 w.heap.size (fun k_ => k_ ≠ gb378) (.slice (some ⟨go13, 0, none⟩) x3_1.length co13) x3_1 from att14_0_3); obtain ⟨ce17, hcl17, hM17, hcc17, hfr17⟩ := Kd.R_elem HX17.out z63 (x22_1 : Int) (of_decide_eq_true att14_0_1) att14_1_0; obtain rfl := k63_openM hM17; have HP17 := Kd.R_seg HX17.out (x22_1 : Int) (of_decide_eq_true att14_0_1) att14_1_0 (seg := [.int .i64 t379]) (j := 4) hcl17 hcc17 (show 5 ≤ 5 from by decide) (x' := (⟨(rd_T63 x3_1 x22_1).f0, (rd_T63 x3_1 x22_1).f1, (rd_T63 x3_1 x22_1).f2, (rd_T63 x3_1 x22_1).f3, t379⟩ : S63)) (k63_mkM _ _ _ (⟨(rd_T63 x3_1 x22_1).f0, (rd_T63 x3_1 x22_1).f1, (rd_T63 x3_1 x22_1).f2, (rd_T63 x3_1 x22_1).f3, t379⟩ : S63) ) (fun _ hk => hk); have hx17_4 := hcc17 4 _ rfl; (try simp only [show (k63).sz = 5 from rfl, Nat.mul_one, Nat.add_zero] at hx17_4); have hf17_4 := hfr17 4; (try simp only [show (k63).sz = 5 from rfl, Nat.mul_one, Nat.add_zero] at hf17_4); clear hcl17 hcc17 hfr17 hM17) | ((with_reducible refine gate_store (t := 3) (p := 42) rfl ?_); refine store_event (t := 3) (p := 42) (v := ?vo_w18) (w1 := (w16.setCell ⟨go13, (x22_1 : Int).toNat * 5 + 4, none⟩ (.int .i64 t379))) ?hg ?ho ?hn ?hr ?_; (case ho => rfl); (case hg => rfl); (case hn => rfl); (case hr => first | (go_simp; done) | (go_simp; rfl)); intro w18 hw; have hg : w16.grownBy w18 (some go13) := (by rw [hw]; exact HP17.2); have hp_ : Kd.R k63 63 w18 w.heap.size (fun k_ => k_ ≠ gb378) (.slice (some ⟨go13, 0, none⟩) x3_1.length co13) y380 := (by rw [hw, Ny380.out]; exact HP17.1); clear HP17; have n0_ := Aside0.mk (hp_); have n1_ := Aside0.mk (blk_grown (g := gb378) (o := .cells #[.int .i64 ((rd_T63 l0 x22_1).f0), .int .i64 ((rd_T63 l0 x22_1).f1), .int .i64 ((rd_T63 l0 x22_1).f2), .int .i64 ((rd_T63 l0 x22_1).f3), .int .i64 ((rd_T63 l0 x22_1).f4)] 63 (0, 0)) att14_0_26 hg (Kd.R_away HO_3.out (fun _ hk => hk))); have n2_ := Aside0.mk ((by rw [hw]; exact below_set (HB.out) GB13.out : Below w.heap.size w w18)); clear HO_3; clear BK378; clear HB; have HO_3 := n0_; have BK378 := n1_; have HB := n2_; clear n0_ n1_ n2_; clear hg hw hp_))
         go_roundg k1
         case measure => have := HK1.out; omega
         case rel => exact ⟨(y380), (wrap64 (x22_1 + 1)), att14_0_12, H', ⟨by have := HK1.out; omega⟩, ⟨att14_0_24⟩, ⟨att14_0_8⟩⟩
        ·rw [if_neg c12] at H
         exact absurd H (by simp)
       ·rw [if_neg c10] at H
        have c10b0 : (((rd_T63 l0 x22_1).f0) == 11) = false := beq_eq_false_iff_ne.mpr c10
        have c10b1 : (((rd_T63 l0 x22_1).f0) != 11) = true := bne_iff_ne.mpr c10
        by_cases c19 : ((rd_T63 l0 x22_1).f0) = 12
        ·rw [if_pos c19] at H
         have c19b0 : (((rd_T63 l0 x22_1).f0) == 12) = true := beq_iff_eq.mpr c19
         have c19b1 : (((rd_T63 l0 x22_1).f0) != 12) = false := bne_eq_false_iff_eq.mpr c19
         clear c19
         replace H := Option.bind_eq_some_iff.mp H
         obtain ⟨t381, A200, H⟩ := H
         (try dsimp only at H)
         have A20 := Aside0.mk A200
         clear A200
         by_cases c21 : x22_1 < (x3_1.length : Int)
         ·rw [if_pos c21] at H
          have c21b0 : decide (x22_1 < (x3_1.length : Int)) = true := decide_eq_true c21
          clear c21
          obtain ⟨y382, hy382⟩ : ∃ y_ : List (S63), y_ = (x3_1.set (x22_1 : Int).toNat (⟨(rd_T63 x3_1 x22_1).f0, (rd_T63 x3_1 x22_1).f1, (rd_T63 x3_1 x22_1).f2, (rd_T63 x3_1 x22_1).f3, t381⟩ : S63)) := ⟨_, rfl⟩
          replace H : (impl_PackBody.l0 k1 l0 y382 l0 (l0.length : Int) (wrap64 (x22_1 + 1))) = some r := by first | (rw [hy382]; with_reducible exact H) | (have H2_ := (Option.bind_some _ _).symm.trans H; rw [hy382]; with_reducible exact H2_) | (have H2_ := (Option.bind_some _ _).symm.trans H; with_reducible exact H2_) | with_reducible exact H | (rw [hy382]; exact H) | exact H
          have Ny382 := Aside0.mk hy382
          clear hy382
          have H' := Aside0.mk H
          clear H
          have p377 : 0 ≤ (x22_1 : Int) := of_decide_eq_true att14_0_1
          have q377 : x22_1 < (l0.length : Int) := of_decide_eq_true att14_0_1
          obtain ⟨ad377, e377, hx377_0, hx377_1, hx377_2, hx377_3, hx377_4⟩ := at_T63 HR0.out x22_1 p377 q377
          cases e377
          replace hx377_0 := (HB.out.cell (World.block_lt_of_cell? w _ hx377_0)).trans hx377_0
          replace hx377_1 := (HB.out.cell (World.block_lt_of_cell? w _ hx377_1)).trans hx377_1
          replace hx377_2 := (HB.out.cell (World.block_lt_of_cell? w _ hx377_2)).trans hx377_2
          replace hx377_3 := (HB.out.cell (World.block_lt_of_cell? w _ hx377_3)).trans hx377_3
          replace hx377_4 := (HB.out.cell (World.block_lt_of_cell? w _ hx377_4)).trans hx377_4
          replace p377 := eq_true p377
          replace q377 := eq_true q377
          go_wp2_with (first | ((with_reducible refine gate_dst (N := 5) rfl ?_); refine box_event ?hg (N := 5) ?hd (cs := #[.int .i64 0, .int .i64 0, .int .i64 0, .int .i64 0, .int .i64 0]) (t := 63) ?hr ?_; (case hd => rfl); (case hg => rfl); (case hr => first | (go_simp; done) | (go_simp; rfl)); intro gb378 hg w23 hbox hb; have n0_ := Aside0.mk (Kd.R_below (Kd.R_elderB att14_0_3 gb378 (Nat.le_of_eq hg.symm)) hb); have n1_ := Aside0.mk (below_step att14_0_0 hb); have n2_ := Aside0.mk (hbox); have n3_ := Aside0.mk ((by rw [hg]; exact (below_size att14_0_0) : w.heap.size ≤ gb378)); have n4_ := Aside0.mk ((by rw [hg]; exact (below_size att14_0_0) : w.heap.size ≤ gb378)); clear HO_3; clear HB; have HO_3 := n0_; have HB := n1_; have BK378 := n2_; have GW378 := n3_; have GE378 := n4_; clear n0_ n1_ n2_ n3_ n4_; clear hb hbox hg; have hcz24_0 : w23.cell? ⟨gb378, 0, none⟩ = some (.int .i64 0) := (blk_cell BK378.out 0).trans rfl; have hcz24_1 : w23.cell? ⟨gb378, 1, none⟩ = some (.int .i64 0) := (blk_cell BK378.out 1).trans rfl; have hcz24_2 : w23.cell? ⟨gb378, 2, none⟩ = some (.int .i64 0) := (blk_cell BK378.out 2).trans rfl; have hcz24_3 : w23.cell? ⟨gb378, 3, none⟩ = some (.int .i64 0) := (blk_cell BK378.out 3).trans rfl; have hcz24_4 : w23.cell? ⟨gb378, 4, none⟩ = some (.int .i64 0) := (blk_cell BK378.out 4).trans rfl; have hfz24_0 := blk_frozen BK378.out 0; have hfz24_1 := blk_frozen BK378.out 1; have hfz24_2 := blk_frozen BK378.out 2; have hfz24_3 := blk_frozen BK378.out 3; have hfz24_4 := blk_frozen BK378.out 4) | ((with_reducible refine gate_callee (f := 67) rfl ?_); refine goesL_ (some 40) rfl rfl Try.func67 (by kernel_rfl) rfl #[.slice (some ad377) l0.length c0, .int .i64 ((rd_T63 l0 x22_1).f4)] rfl att14_0_10 ?_; (with_reducible refine (impl_Skip.calls k1 _ _ l0 ((rd_T63 l0 x22_1).f4) t381 _ ?side1 ?side2 A20.out).mono ?_); (case side1 => exact Kd.C_below HR0.out att14_0_8); (case side2 => exact HC0.out); rintro e w25 ⟨rfl, hb⟩; refine ⟨_, rfl, ?_⟩; have n0_ := Aside0.mk (Kd.R_below att14_0_11 hb); have n1_ := Aside0.mk (blk_below (g := gb378) (o := .cells #[.int .i64 ((rd_T63 l0 x22_1).f0), .int .i64 ((rd_T63 l0 x22_1).f1), .int .i64 ((rd_T63 l0 x22_1).f2), .int .i64 ((rd_T63 l0 x22_1).f3), .int .i64 ((rd_T63 l0 x22_1).f4)] 63 (0, 0)) att14_0_4 hb); have n2_ := Aside0.mk (below_step att14_0_8 hb); clear HO_3; clear BK378; clear HB; have HO_3 := n0_; have BK378 := n1_; have HB := n2_; clear n0_ n1_ n2_; (try clear hb); (try clear hb2); (try clear hk); (try clear hi); have p22 : 0 ≤ (x22_1 : Int) := of_decide_eq_true att14_0_1; have q22 : (x22_1 : Int) < ((x3_1.length : Int) : Int) := of_decide_eq_true att14_0_1; obtain ⟨go22, co22, eo22, gb22, gl22, cl22, HG22⟩ := Kd.R_form HO_3.out (by omega); (first | cases eo22 | (injection eo22 with ea_ en_ ec_; (first | subst ea_ | (injection ea_ with ea_; subst ea_)); subst ec_; clear en_)); have GB22 := Aside0.mk gb22; have GG22 := Aside0.mk HG22; clear gb22 gl22 HG22; obtain ⟨ce22, hcl22, hM22, hcc22, hfr22⟩ := Kd.R_elem HO_3.out z63 (x22_1 : Int) p22 q22; obtain rfl := k63_openM hM22; have hx22_0 : w25.cell? ⟨go22, (x22_1 : Int).toNat * 5, none⟩ = some (.int .i64 ((rd_T63 x3_1 x22_1).f0)) := hcc22 0 _ rfl; have hx22_1 : w25.cell? ⟨go22, (x22_1 : Int).toNat * 5 + 1, none⟩ = some (.int .i64 ((rd_T63 x3_1 x22_1).f1)) := hcc22 1 _ rfl; have hx22_2 : w25.cell? ⟨go22, (x22_1 : Int).toNat * 5 + 2, none⟩ = some (.int .i64 ((rd_T63 x3_1 x22_1).f2)) := hcc22 2 _ rfl; have hx22_3 : w25.cell? ⟨go22, (x22_1 : Int).toNat * 5 + 3, none⟩ = some (.int .i64 ((rd_T63 x3_1 x22_1).f3)) := hcc22 3 _ rfl; have hx22_4 : w25.cell? ⟨go22, (x22_1 : Int).toNat * 5 + 4, none⟩ = some (.int .i64 ((rd_T63 x3_1 x22_1).f4)) := hcc22 4 _ rfl; have hf22_0 : w25.frozen? ⟨go22, (x22_1 : Int).toNat * 5, none⟩ = false := hfr22 0; have hf22_1 : w25.frozen? ⟨go22, (x22_1 : Int).toNat * 5 + 1, none⟩ = false := hfr22 1; have hf22_2 : w25.frozen? ⟨go22, (x22_1 : Int).toNat * 5 + 2, none⟩ = false := hfr22 2; have hf22_3 : w25.frozen? ⟨go22, (x22_1 : Int).toNat * 5 + 3, none⟩ = false := hfr22 3; have hf22_4 : w25.frozen? ⟨go22, (x22_1 : Int).toNat * 5 + 4, none⟩ = false := hfr22 4; clear hcl22 hcc22 hfr22 hM22; replace p22 := eq_true p22; replace q22 := eq_true q22; have n_ := Aside0.mk (Kd.R_mono (ok' := (fun k_ => k_ ≠ gb378)) HO_3.out (fun k_ hk => hk.2)); clear HO_3; have HO_3 := n_; clear n_; have HX26 := Aside0.mk (show Kd.R k63 63 w25 w.heap.size (fun k_ => k_ ≠ gb378) (.slice (some ⟨go22, 0, none⟩) x3_1.length co22) x3_1 from att14_0_3); obtain ⟨ce26, hcl26, hM26, hcc26, hfr26⟩ := Kd.R_elem HX26.out z63 (x22_1 : Int) (of_decide_eq_true att14_0_1) att14_1_0; obtain rfl := k63_openM hM26; have HP26 := Kd.R_seg HX26.out (x22_1 : Int) (of_decide_eq_true att14_0_1) att14_1_0 (seg := [.int .i64 t381]) (j := 4) hcl26 hcc26 (show 5 ≤ 5 from by decide) (x' := (⟨(rd_T63 x3_1 x22_1).f0, (rd_T63 x3_1 x22_1).f1, (rd_T63 x3_1 x22_1).f2, (rd_T63 x3_1 x22_1).f3, t381⟩ : S63)) (k63_mkM _ _ _ (⟨(rd_T63 x3_1 x22_1).f0, (rd_T63 x3_1 x22_1).f1, (rd_T63 x3_1 x22_1).f2, (rd_T63 x3_1 x22_1).f3, t381⟩ : S63) ) (fun _ hk => hk); have hx26_4 := hcc26 4 _ rfl; (try simp only [show (k63).sz = 5 from rfl, Nat.mul_one, Nat.add_zero] at hx26_4); have hf26_4 := hfr26 4; (try simp only [show (k63).sz = 5 from rfl, Nat.mul_one, Nat.add_zero] at hf26_4); clear hcl26 hcc26 hfr26 hM26) | ((with_reducible refine gate_store (t := 3) (p := 42) rfl ?_); refine store_event (t := 3) (p := 42) (v := ?vo_w27) (w1 := (w25.setCell ⟨go22, (x22_1 : Int).toNat * 5 + 4, none⟩ (.int .i64 t381))) ?hg ?ho ?hn ?hr ?_; (case ho => rfl); (case hg => rfl); (case hn => rfl); (case hr => first | (go_simp; done) | (go_simp; rfl)); intro w27 hw; have hg : w25.grownBy w27 (some go22) := (by rw [hw]; exact HP26.2); have hp_ : Kd.R k63 63 w27 w.heap.size (fun k_ => k_ ≠ gb378) (.slice (some ⟨go22, 0, none⟩) x3_1.length co22) y382 := (by rw [hw, Ny382.out]; exact HP26.1); clear HP26; have n0_ := Aside0.mk (hp_); have n1_ := Aside0.mk (blk_grown (g := gb378) (o := .cells #[.int .i64 ((rd_T63 l0 x22_1).f0), .int .i64 ((rd_T63 l0 x22_1).f1), .int .i64 ((rd_T63 l0 x22_1).f2), .int .i64 ((rd_T63 l0 x22_1).f3), .int .i64 ((rd_T63 l0 x22_1).f4)] 63 (0, 0)) att14_0_26 hg (Kd.R_away HO_3.out (fun _ hk => hk))); have n2_ := Aside0.mk ((by rw [hw]; exact below_set (HB.out) GB22.out : Below w.heap.size w w27)); clear HO_3; clear BK378; clear HB; have HO_3 := n0_; have BK378 := n1_; have HB := n2_; clear n0_ n1_ n2_; clear hg hw hp_))
          go_roundg k1
          case measure => have := HK1.out; omega
          case rel => exact ⟨(y382), (wrap64 (x22_1 + 1)), att14_0_12, H', ⟨by have := HK1.out; omega⟩, ⟨att14_0_24⟩, ⟨att14_0_8⟩⟩
         ·rw [if_neg c21] at H
          exact absurd H (by simp)
        ·rw [if_neg c19] at H
         have c19b0 : (((rd_T63 l0 x22_1).f0) == 12) = false := beq_eq_false_iff_ne.mpr c19
         have c19b1 : (((rd_T63 l0 x22_1).f0) != 12) = true := bne_iff_ne.mpr c19
         have H' := Aside0.mk H
         clear H
         have p377 : 0 ≤ (x22_1 : Int) := of_decide_eq_true att14_0_1
         have q377 : x22_1 < (l0.length : Int) := of_decide_eq_true att14_0_1
         obtain ⟨ad377, e377, hx377_0, hx377_1, hx377_2, hx377_3, hx377_4⟩ := at_T63 HR0.out x22_1 p377 q377
         cases e377
         replace hx377_0 := (HB.out.cell (World.block_lt_of_cell? w _ hx377_0)).trans hx377_0
         replace hx377_1 := (HB.out.cell (World.block_lt_of_cell? w _ hx377_1)).trans hx377_1
         replace hx377_2 := (HB.out.cell (World.block_lt_of_cell? w _ hx377_2)).trans hx377_2
         replace hx377_3 := (HB.out.cell (World.block_lt_of_cell? w _ hx377_3)).trans hx377_3
         replace hx377_4 := (HB.out.cell (World.block_lt_of_cell? w _ hx377_4)).trans hx377_4
         replace p377 := eq_true p377
         replace q377 := eq_true q377
         go_wp2_with (first | ((with_reducible refine gate_dst (N := 5) rfl ?_); refine box_event ?hg (N := 5) ?hd (cs := #[.int .i64 0, .int .i64 0, .int .i64 0, .int .i64 0, .int .i64 0]) (t := 63) ?hr ?_; (case hd => rfl); (case hg => rfl); (case hr => first | (go_simp; done) | (go_simp; rfl)); intro gb378 hg w28 hbox hb; have n0_ := Aside0.mk (Kd.R_below (Kd.R_elderB att14_0_3 gb378 (Nat.le_of_eq hg.symm)) hb); have n1_ := Aside0.mk (below_step att14_0_0 hb); have n2_ := Aside0.mk (hbox); have n3_ := Aside0.mk ((by rw [hg]; exact (below_size att14_0_0) : w.heap.size ≤ gb378)); have n4_ := Aside0.mk ((by rw [hg]; exact (below_size att14_0_0) : w.heap.size ≤ gb378)); clear HO_3; clear HB; have HO_3 := n0_; have HB := n1_; have BK378 := n2_; have GW378 := n3_; have GE378 := n4_; clear n0_ n1_ n2_ n3_ n4_; clear hb hbox hg; have hcz29_0 : w28.cell? ⟨gb378, 0, none⟩ = some (.int .i64 0) := (blk_cell BK378.out 0).trans rfl; have hcz29_1 : w28.cell? ⟨gb378, 1, none⟩ = some (.int .i64 0) := (blk_cell BK378.out 1).trans rfl; have hcz29_2 : w28.cell? ⟨gb378, 2, none⟩ = some (.int .i64 0) := (blk_cell BK378.out 2).trans rfl; have hcz29_3 : w28.cell? ⟨gb378, 3, none⟩ = some (.int .i64 0) := (blk_cell BK378.out 3).trans rfl; have hcz29_4 : w28.cell? ⟨gb378, 4, none⟩ = some (.int .i64 0) := (blk_cell BK378.out 4).trans rfl; have hfz29_0 := blk_frozen BK378.out 0; have hfz29_1 := blk_frozen BK378.out 1; have hfz29_2 := blk_frozen BK378.out 2; have hfz29_3 := blk_frozen BK378.out 3; have hfz29_4 := blk_frozen BK378.out 4))
         go_roundg k1
         case measure => have := HK1.out; omega
         case rel => exact ⟨(x3_1), (wrap64 (x22_1 + 1)), att14_0_12, H', ⟨by have := HK1.out; omega⟩, ⟨by (with_reducible repeat (first | apply Kd.R_alloc | apply Kd.R_drewN | apply Kd.R_drew)); exact Kd.R_mono (Kd.R_far (p := ⟨gb378, 4, none⟩) (Kd.R_far (p := ⟨gb378, 3, none⟩) (Kd.R_far (p := ⟨gb378, 2, none⟩) (Kd.R_far (p := ⟨gb378, 1, none⟩) (Kd.R_far (p := ⟨gb378, 0, none⟩) (Kd.R_mono HO_3.out (fun k_ hk => (⟨hk, hk.2⟩ : _ ∧ k_ ≠ gb378))) (fun _ hk => hk.2) (.int .i64 ((rd_T63 l0 x22_1).f0))) (fun _ hk => hk.2) (.int .i64 ((rd_T63 l0 x22_1).f1))) (fun _ hk => hk.2) (.int .i64 ((rd_T63 l0 x22_1).f2))) (fun _ hk => hk.2) (.int .i64 ((rd_T63 l0 x22_1).f3))) (fun _ hk => hk.2) (.int .i64 ((rd_T63 l0 x22_1).f4))) (fun _ hk => trivial)⟩, ⟨att14_0_8⟩⟩
      ·rw [if_neg c9] at H
       exact absurd H (by simp)
     ·rw [if_neg c8] at H
      exact absurd H (by simp)
    ·rw [if_neg c7] at H
     have c7b0 : decide (x22_1 < (l0.length : Int)) = false := decide_eq_false c7
     clear c7
     obtain ⟨y383, hy383⟩ : ∃ y_ : List Int, y_ = (([0] : List Int)) := ⟨_, rfl⟩
     replace H : ((impl_reached.f k1 x3_1 y383).bind fun t386 => (if 0 ≤ (l0.length : Int) then (if ((l0.length : Int) : Int).toNat ≤ 35184372088832 then (impl_PackBody.l1 k1 x3_1 t386 (List.replicate ((l0.length : Int) : Int).toNat 0) 0 (l0.length : Int) 0) else (none)) else (none))) = some r := by first | (rw [hy383]; with_reducible exact H) | (have H2_ := (Option.bind_some _ _).symm.trans H; rw [hy383]; with_reducible exact H2_) | (have H2_ := (Option.bind_some _ _).symm.trans H; with_reducible exact H2_) | with_reducible exact H | (rw [hy383]; exact H) | exact H
     have Ny383 := Aside0.mk hy383
     clear hy383
     replace H := Option.bind_eq_some_iff.mp H
     obtain ⟨t386, A300, H⟩ := H
     (try dsimp only at H)
     have A30 := Aside0.mk A300
     clear A300
     by_cases c31 : 0 ≤ (l0.length : Int)
     ·rw [if_pos c31] at H
      have c31b0 := eq_true c31
      have c31b1 : decide (0 ≤ (l0.length : Int)) = true := decide_eq_true c31
      clear c31
      by_cases c32 : ((l0.length : Int) : Int).toNat ≤ 35184372088832
      ·rw [if_pos c32] at H
       have c32b0 := eq_true c32
       have c32b1 : decide (((l0.length : Int) : Int).toNat ≤ 35184372088832) = true := decide_eq_true c32
       clear c32
       obtain ⟨y389, hy389⟩ : ∃ y_ : List Int, y_ = (List.replicate ((l0.length : Int) : Int).toNat 0) := ⟨_, rfl⟩
       replace H : (impl_PackBody.l1 k1 x3_1 t386 y389 0 (l0.length : Int) 0) = some r := by first | (rw [hy389]; with_reducible exact H) | (have H2_ := (Option.bind_some _ _).symm.trans H; rw [hy389]; with_reducible exact H2_) | (have H2_ := (Option.bind_some _ _).symm.trans H; with_reducible exact H2_) | with_reducible exact H | (rw [hy389]; exact H) | exact H
       have Ny389 := Aside0.mk hy389
       clear hy389
       have H' := Aside0.mk H
       clear H
       go_wp2_with (first | ((with_reducible refine gate_dst (N := 45) rfl ?_); refine Kd.R_lit (Kd.int .i64) _ 3 ?hg (N := 45) ?hd (xs := ([0] : List Int)) (inner := [.int .i64 0]) (ok := fun _ => True) (okp := fun _ => True) ?hr ?hp (fun _ hk => hk) trivial (Below.refl _ _) (Nat.le_refl _) (by simp) ?_; (case hd => rfl); (case hg => rfl); (case hr => first | (go_simp; done) | (go_simp; rfl)); (case hp => exact (Reps.one (show Kd.M (Kd.int .i64) _ _ _ 0 [.int .i64 0] from rfl) (Reps.none _ _))); intro v384 w33 ho34 hb hg_ hnew_; clear hg_ hnew_; (first | rw [← Ny383.out] at ho34 | (simp only [Int.reduceToNat] at ho34; rw [← Ny383.out] at ho34)); have n0_ := Aside0.mk (Kd.R_below att14_0_3 hb); have n1_ := Aside0.mk (Kd.R_lower ho34 (below_size att14_0_0)); have n2_ := Aside0.mk (below_step att14_0_0 hb); clear HO_3; clear HB; have HO_3 := n0_; have HO385 := n1_; have HB := n2_; clear n0_ n1_ n2_; clear hb ho34; obtain ⟨Ao35, co35, eo35⟩ := Kd.R_slice HO_3.out; subst eo35; obtain ⟨Ao36, co36, eo36⟩ := Kd.R_slice HO385.out; subst eo36) | ((with_reducible refine gate_callee (f := 68) rfl ?_); refine goesL_ (some 46) rfl rfl Try.func68 (by kernel_rfl) rfl #[.slice Ao35 x3_1.length co35, .slice Ao36 y383.length co36] rfl att14_0_10 ?_; (with_reducible refine (impl_reached.calls k1 _ _ x3_1 _ _ y383 t386 _ ?side1 ?side2 ?side3 ?side4 A30.out).mono ?_); (case side1 => repeat (first | exact (Kd.R_reads' HO_3.out).2.2 | (with_reducible refine Kd.C_alloc ?_ _) | (with_reducible refine Kd.C_drewN ?_ _) | (with_reducible refine Kd.C_drew ?_))); (case side2 => exact (Kd.R_reads' HO_3.out).2.1); (case side3 => repeat (first | exact (Kd.R_reads' HO385.out).2.2 | (with_reducible refine Kd.C_alloc ?_ _) | (with_reducible refine Kd.C_drewN ?_ _) | (with_reducible refine Kd.C_drew ?_))); (case side4 => exact (Kd.R_reads' HO385.out).2.1); rintro e w37 ⟨v387, rfl, ho0, hb⟩; refine ⟨_, rfl, ?_⟩; have n0_ := Aside0.mk (Kd.R_below att14_0_3 hb); have n1_ := Aside0.mk (Kd.R_below att14_0_21 hb); have n2_ := Aside0.mk (Kd.R_lower ho0 (below_size att14_0_0)); have n3_ := Aside0.mk (below_step att14_0_0 hb); clear HO_3; clear HO385; clear HB; have HO_3 := n0_; have HO385 := n1_; have HO388 := n2_; have HB := n3_; clear n0_ n1_ n2_ n3_; (try clear hb); (try clear hb2); (try clear hk); (try clear hi); (try clear ho0)) | ((with_reducible refine gate_dst (N := 49) rfl ?_); refine Kd.R_make (Kd.int .i64) _ 3 rfl (N := 49) rfl 34 _ _ rfl (l0.length : Int) rfl rfl Try.underlying34 (.int .i64 0) 8 info3 rfl (by decide) (by omega) 0 (ok := fun _ => True) (okp := fun _ => True) rfl (fun _ hk => hk) trivial (of_decide_eq_true att14_0_1) (Nat.le_trans (Nat.mul_le_mul_right _ (of_decide_eq_true att14_0_1 : (l0.length : Int).toNat ≤ 35184372088832)) (by omega)) (Below.refl _ _) (Nat.le_refl _) ?_; intro v390 w38 ho39 hb hg_ hnew_; clear hg_ hnew_; (first | rw [← Ny389.out] at ho39 | (simp only [Int.reduceToNat] at ho39; rw [← Ny389.out] at ho39)); have n0_ := Aside0.mk (Kd.R_below att14_0_3 hb); have n1_ := Aside0.mk (Kd.R_elder' att14_0_21 (Kd.R_base ho39) hb); have n2_ := Aside0.mk (Kd.R_below att14_0_27 hb); have n3_ := Aside0.mk (Kd.R_lower (Kd.R_new' ho39 (Kd.R_lt att14_0_21)) (below_size att14_0_0)); have n4_ := Aside0.mk (below_step att14_0_0 hb); clear HO_3; clear HO385; clear HO388; clear HB; have HO_3 := n0_; have HO385 := n1_; have HO388 := n2_; have HO391 := n3_; have HB := n4_; clear n0_ n1_ n2_ n3_ n4_; clear hb ho39))
       go_loopg [8, 52] k1 (fun kq v8 v52 w' => ∃ (x7_2 : List Int) (x8_2 : Int) (x52_2 : Int), v8 = .int .i64 x8_2 ∧ v52 = .int .i64 x52_2 ∧ Aside0 (impl_PackBody.l1 kq x3_1 t386 x7_2 x8_2 (l0.length : Int) x52_2 = some r) ∧ Aside0 (kq ≤ k1) ∧ Aside0 (Kd.R k63 63 w' w.heap.size (fun _ => True) (.slice Ao35 x3_1.length co35) x3_1) ∧ Aside0 (Kd.R Kd.bool 4 w' w.heap.size (fun _ => True) v387 t386) ∧ Aside0 (Kd.R (Kd.int .i64) 3 w' w.heap.size (fun _ => True) v390 x7_2) ∧ Aside0 (Below w.heap.size w w'))
       case atStart => exact ⟨(y389), (0), (0), att14_0_12, att14_0_12, H', ⟨Nat.le_refl _⟩, ⟨att14_0_3⟩, ⟨att14_0_27⟩, ⟨by (with_reducible repeat (first | apply Kd.R_alloc | apply Kd.R_drewN | apply Kd.R_drew)); exact Kd.R_mono HO391.out (fun _ hk => trivial)⟩, ⟨att14_0_0⟩⟩
       case round =>
        clear H'
        try clear c1
        try clear p1
        try clear q1
        try clear hx1
        try clear hf1
        try clear c2
        try clear p2
        try clear q2
        try clear hx2
        try clear hf2
        try clear c3
        try clear p3
        try clear q3
        try clear hx3
        try clear c6
        try clear p6
        try clear c7
        try clear c7b0
        try clear c8
        try clear c8b0
        try clear c9
        try clear c9b0
        try clear c10
        try clear c10b0
        try clear c10b1
        try clear c12
        try clear c12b0
        try clear c13
        try clear p13
        try clear q13
        try clear hx13
        try clear hf13
        try clear c15
        try clear c17
        try clear hx17
        try clear hf17
        try clear c19
        try clear c19b0
        try clear c19b1
        try clear c21
        try clear c21b0
        try clear c22
        try clear p22
        try clear q22
        try clear hx22
        try clear hf22
        try clear c26
        try clear hx26
        try clear hf26
        try clear c31
        try clear c31b0
        try clear c31b1
        try clear c32
        try clear c32b0
        try clear c32b1
        try clear c34
        try clear p37
        try clear q37
        try clear hx37
        try clear hcz15_0
        try clear hcz15_1
        try clear hcz15_2
        try clear hcz15_3
        try clear hcz15_4
        try clear hcz24_0
        try clear hcz24_1
        try clear hcz24_2
        try clear hcz24_3
        try clear hcz24_4
        try clear hcz29_0
        try clear hcz29_1
        try clear hcz29_2
        try clear hcz29_3
        try clear hcz29_4
        try clear hfz15_0
        try clear hfz15_1
        try clear hfz15_2
        try clear hfz15_3
        try clear hfz15_4
        try clear hfz24_0
        try clear hfz24_1
        try clear hfz24_2
        try clear hfz24_3
        try clear hfz24_4
        try clear hfz29_0
        try clear hfz29_1
        try clear hfz29_2
        try clear hfz29_3
        try clear hfz29_4
        try clear hx13_0
        try clear hx13_1
        try clear hx13_2
        try clear hx13_3
        try clear hx13_4
        try clear hx17_4
        try clear hx22_0
        try clear hx22_1
        try clear hx22_2
        try clear hx22_3
        try clear hx22_4
        try clear hx26_4
        try clear hx377_0
        try clear hx377_1
        try clear hx377_2
        try clear hx377_3
        try clear hx377_4
        try clear p13
        try clear p2
        try clear p22
        try clear p377
        try clear q13
        try clear q22
        try clear q377
        obtain ⟨x7_2, x8_2, x52_2, rfl, rfl, HA, HK2, HO_3, HO_6, HO_7, HB⟩ := hrel
        cases gk with
        | zero => exact absurd HA.out (by simp [impl_PackBody.l1])
        | succ k2 =>
         have H := HA.out
         clear HA
         simp only [impl_PackBody.l1] at H
         by_cases c40 : x52_2 < (l0.length : Int)
         ·rw [if_pos c40] at H
          have c40b0 : decide (x52_2 < (l0.length : Int)) = true := decide_eq_true c40
          clear c40
          by_cases c41 : 0 ≤ x52_2
          ·rw [if_pos c41] at H
           have c41b0 : decide (0 ≤ x52_2) = true := decide_eq_true c41
           clear c41
           by_cases c42 : x52_2 < (x7_2.length : Int)
           ·rw [if_pos c42] at H
            have c42b0 : decide (x52_2 < (x7_2.length : Int)) = true := decide_eq_true c42
            clear c42
            obtain ⟨y392, hy392⟩ : ∃ y_ : List Int, y_ = (x7_2.set (x52_2 : Int).toNat x8_2) := ⟨_, rfl⟩
            replace H : (if x52_2 < (t386.length : Int) then (if rdOf false t386 x52_2 = true then (impl_PackBody.l1 k2 x3_1 t386 y392 (wrap64 (x8_2 + 1)) (l0.length : Int) (wrap64 (x52_2 + 1))) else (impl_PackBody.l1 k2 x3_1 t386 y392 x8_2 (l0.length : Int) (wrap64 (x52_2 + 1)))) else (none)) = some r := by first | (rw [hy392]; with_reducible exact H) | (have H2_ := (Option.bind_some _ _).symm.trans H; rw [hy392]; with_reducible exact H2_) | (have H2_ := (Option.bind_some _ _).symm.trans H; with_reducible exact H2_) | with_reducible exact H | (rw [hy392]; exact H) | exact H
            have Ny392 := Aside0.mk hy392
            clear hy392
            by_cases c44 : x52_2 < (t386.length : Int)
            ·rw [if_pos c44] at H
             have c44b0 : decide (x52_2 < (t386.length : Int)) = true := decide_eq_true c44
             clear c44
             obtain ⟨bq45, hbq45⟩ : ∃ b_ : Bool, b_ = (rdOf false t386 x52_2) := ⟨_, rfl⟩
             replace H : (if bq45 = true then (impl_PackBody.l1 k2 x3_1 t386 y392 (wrap64 (x8_2 + 1)) (l0.length : Int) (wrap64 (x52_2 + 1))) else (impl_PackBody.l1 k2 x3_1 t386 y392 x8_2 (l0.length : Int) (wrap64 (x52_2 + 1)))) = some r := by rw [← hbq45] at H; exact H
             have Nbq45 := Aside0.mk hbq45
             clear hbq45
             by_cases c46 : bq45 = true
             ·subst c46
              rw [if_pos rfl] at H
              have H' := Aside0.mk H
              clear H
              have p43 : 0 ≤ (x52_2 : Int) := of_decide_eq_true att14_0_1
              have q43 : (x52_2 : Int) < ((x7_2.length : Int) : Int) := of_decide_eq_true att14_0_1
              obtain ⟨go43, co43, eo43, gb43, gl43, cl43, HG43⟩ := Kd.R_form HO_7.out (by omega)
              (first | cases eo43 | (injection eo43 with ea_ en_ ec_; (first | subst ea_ | (injection ea_ with ea_; subst ea_)); subst ec_; clear en_))
              have GB43 := Aside0.mk gb43
              have GG43 := Aside0.mk HG43
              clear gb43 gl43 HG43
              obtain ⟨hx43_0, hf43_0⟩ := Kd.R_celln 0 HO_7.out (x52_2 : Int) p43 q43
              replace p43 := eq_true p43
              replace q43 := eq_true q43
              have HP47 := Kd.R_putg HO_7.out (x52_2 : Int) x8_2
              go_wp2_with (first | ((with_reducible refine gate_store (t := 3) (p := 58) rfl ?_); refine store_event (t := 3) (p := 58) (v := ?vo_w48) (w1 := (wr.setCell ⟨go43, (x52_2 : Int).toNat, none⟩ (.int .i64 x8_2))) ?hg ?ho ?hn ?hr ?_; (case ho => rfl); (case hg => rfl); (case hn => rfl); (case hr => first | (go_simp; done) | (go_simp; rfl)); intro w48 hw; have hg : wr.grownBy w48 (some go43) := (by rw [hw]; exact HP47.2); have hp_ : Kd.R (Kd.int .i64) 3 w48 w.heap.size (fun _ => True) (.slice (some ⟨go43, 0, none⟩) x7_2.length co43) y392 := (by rw [hw, Ny392.out]; exact HP47.1); clear HP47; have n0_ := Aside0.mk (Kd.R_over' (v := (.slice (some ⟨go43, 0, none⟩) x7_2.length co43)) att14_0_3 (Kd.R_typed HO_7.out) (by decide) hg); have n1_ := Aside0.mk (Kd.R_over' (v := (.slice (some ⟨go43, 0, none⟩) x7_2.length co43)) att14_0_6 (Kd.R_typed HO_7.out) (by decide) hg); have n2_ := Aside0.mk (hp_); have n3_ := Aside0.mk ((by rw [hw]; exact below_set (HB.out) GB43.out : Below w.heap.size w w48)); clear HO_3; clear HO_6; clear HO_7; clear HB; have HO_3 := n0_; have HO_6 := n1_; have HO_7 := n2_; have HB := n3_; clear n0_ n1_ n2_ n3_; clear hg hw hp_; obtain ⟨Ao49, co49, eo49⟩ := Kd.R_slice HO_6.out; subst eo49; have p393 : 0 ≤ (x52_2 : Int) := of_decide_eq_true att14_0_1; have q393 : x52_2 < (t386.length : Int) := of_decide_eq_true att14_0_1; obtain ⟨ad393, e393, hx393_0⟩ := Kd.at_bool (Kd.R_reads' HO_6.out).2.2 x52_2 p393 q393; (try rw [← Nbq45.out] at hx393_0); cases e393; replace p393 := eq_true p393; replace q393 := eq_true q393))
              go_roundg k2
              case measure => have := HK1.out; have := HK2.out; omega
              case rel => exact ⟨(y392), (wrap64 (x8_2 + 1)), (wrap64 (x52_2 + 1)), att14_0_12, att14_0_12, H', ⟨by have := HK1.out; have := HK2.out; omega⟩, ⟨att14_0_3⟩, ⟨att14_0_6⟩, ⟨att14_0_7⟩, ⟨att14_0_0⟩⟩
             ·replace c46 := Bool.eq_false_iff.mpr c46
              subst c46
              rw [if_neg (show ¬ (false = true) by decide)] at H
              have H' := Aside0.mk H
              clear H
              have p43 : 0 ≤ (x52_2 : Int) := of_decide_eq_true att14_0_1
              have q43 : (x52_2 : Int) < ((x7_2.length : Int) : Int) := of_decide_eq_true att14_0_1
              obtain ⟨go43, co43, eo43, gb43, gl43, cl43, HG43⟩ := Kd.R_form HO_7.out (by omega)
              (first | cases eo43 | (injection eo43 with ea_ en_ ec_; (first | subst ea_ | (injection ea_ with ea_; subst ea_)); subst ec_; clear en_))
              have GB43 := Aside0.mk gb43
              have GG43 := Aside0.mk HG43
              clear gb43 gl43 HG43
              obtain ⟨hx43_0, hf43_0⟩ := Kd.R_celln 0 HO_7.out (x52_2 : Int) p43 q43
              replace p43 := eq_true p43
              replace q43 := eq_true q43
              have HP50 := Kd.R_putg HO_7.out (x52_2 : Int) x8_2
              go_wp2_with (first | ((with_reducible refine gate_store (t := 3) (p := 58) rfl ?_); refine store_event (t := 3) (p := 58) (v := ?vo_w51) (w1 := (wr.setCell ⟨go43, (x52_2 : Int).toNat, none⟩ (.int .i64 x8_2))) ?hg ?ho ?hn ?hr ?_; (case ho => rfl); (case hg => rfl); (case hn => rfl); (case hr => first | (go_simp; done) | (go_simp; rfl)); intro w51 hw; have hg : wr.grownBy w51 (some go43) := (by rw [hw]; exact HP50.2); have hp_ : Kd.R (Kd.int .i64) 3 w51 w.heap.size (fun _ => True) (.slice (some ⟨go43, 0, none⟩) x7_2.length co43) y392 := (by rw [hw, Ny392.out]; exact HP50.1); clear HP50; have n0_ := Aside0.mk (Kd.R_over' (v := (.slice (some ⟨go43, 0, none⟩) x7_2.length co43)) att14_0_3 (Kd.R_typed HO_7.out) (by decide) hg); have n1_ := Aside0.mk (Kd.R_over' (v := (.slice (some ⟨go43, 0, none⟩) x7_2.length co43)) att14_0_6 (Kd.R_typed HO_7.out) (by decide) hg); have n2_ := Aside0.mk (hp_); have n3_ := Aside0.mk ((by rw [hw]; exact below_set (HB.out) GB43.out : Below w.heap.size w w51)); clear HO_3; clear HO_6; clear HO_7; clear HB; have HO_3 := n0_; have HO_6 := n1_; have HO_7 := n2_; have HB := n3_; clear n0_ n1_ n2_ n3_; clear hg hw hp_; obtain ⟨Ao52, co52, eo52⟩ := Kd.R_slice HO_6.out; subst eo52; have p393 : 0 ≤ (x52_2 : Int) := of_decide_eq_true att14_0_1; have q393 : x52_2 < (t386.length : Int) := of_decide_eq_true att14_0_1; obtain ⟨ad393, e393, hx393_0⟩ := Kd.at_bool (Kd.R_reads' HO_6.out).2.2 x52_2 p393 q393; (try rw [← Nbq45.out] at hx393_0); cases e393; replace p393 := eq_true p393; replace q393 := eq_true q393))
              go_roundg k2
              case measure => have := HK1.out; have := HK2.out; omega
              case rel => exact ⟨(y392), (x8_2), (wrap64 (x52_2 + 1)), att14_0_12, att14_0_12, H', ⟨by have := HK1.out; have := HK2.out; omega⟩, ⟨att14_0_3⟩, ⟨att14_0_6⟩, ⟨att14_0_7⟩, ⟨att14_0_0⟩⟩
            ·rw [if_neg c44] at H
             exact absurd H (by simp)
           ·rw [if_neg c42] at H
            exact absurd H (by simp)
          ·rw [if_neg c41] at H
           exact absurd H (by simp)
         ·rw [if_neg c40] at H
          have c40b0 : decide (x52_2 < (l0.length : Int)) = false := decide_eq_false c40
          clear c40
          obtain ⟨y394, hy394⟩ : ∃ y_ : List (S63), y_ = (([] : List (S63))) := ⟨_, rfl⟩
          replace H : (impl_PackBody.l2 k2 t386 x7_2 y394 x3_1 (x3_1.length : Int) 0) = some r := by first | (rw [hy394]; with_reducible exact H) | (have H2_ := (Option.bind_some _ _).symm.trans H; rw [hy394]; with_reducible exact H2_) | (have H2_ := (Option.bind_some _ _).symm.trans H; with_reducible exact H2_) | with_reducible exact H | (rw [hy394]; exact H) | exact H
          have Ny394 := Aside0.mk hy394
          clear hy394
          have H' := Aside0.mk H
          clear H
          go_wp2_with (first | ((with_reducible refine gate_dst (N := 66) rfl ?_); refine Kd.R_lit k63 _ 63 ?hg (N := 66) ?hd (xs := ([] : List (S63))) (inner := []) (ok := fun _ => True) (okp := fun _ => True) ?hr ?hp (fun _ hk => hk) trivial (Below.refl _ _) (Nat.le_refl _) (by simp) ?_; (case hd => rfl); (case hg => rfl); (case hr => first | (go_simp; done) | (go_simp; rfl)); (case hp => exact (Reps.none _ _)); intro v395 w53 ho54 hb hg_ hnew_; clear hg_ hnew_; (first | rw [← Ny394.out] at ho54 | (simp only [Int.reduceToNat] at ho54; rw [← Ny394.out] at ho54)); have n0_ := Aside0.mk (Kd.R_elder' att14_0_3 (Kd.R_base ho54) hb); have n1_ := Aside0.mk (Kd.R_below att14_0_6 hb); have n2_ := Aside0.mk (Kd.R_below att14_0_7 hb); have n3_ := Aside0.mk (Kd.R_lower (Kd.R_new' ho54 (Kd.R_lt att14_0_3)) (below_size att14_0_0)); have n4_ := Aside0.mk (below_step att14_0_0 hb); clear HO_3; clear HO_6; clear HO_7; clear HB; have HO_3 := n0_; have HO_6 := n1_; have HO_7 := n2_; have HO396 := n3_; have HB := n4_; clear n0_ n1_ n2_ n3_ n4_; clear hb ho54))
          go_loopg [10, 69] k2 (fun kq v10 v69 w' => ∃ (x10_3 : List (S63)) (x69_3 : Int), v69 = .int .i64 x69_3 ∧ Aside0 (impl_PackBody.l2 kq t386 x7_2 x10_3 x3_1 (x3_1.length : Int) x69_3 = some r) ∧ Aside0 (kq ≤ k2) ∧ Aside0 (Kd.R Kd.bool 4 w' w.heap.size (fun _ => True) v387 t386) ∧ Aside0 (Kd.R (Kd.int .i64) 3 w' w.heap.size (fun _ => True) v390 x7_2) ∧ Aside0 (Kd.R k63 63 w' w.heap.size (fun k_ => some k_ ≠ ((.slice Ao35 x3_1.length co35) : Value).ownBlock) v10 x10_3) ∧ Aside0 (Kd.R k63 63 w' w.heap.size (fun k_ => some k_ ≠ (v10 : Value).ownBlock) (.slice Ao35 x3_1.length co35) x3_1) ∧ Aside0 (Below w.heap.size w w'))
          case atStart => exact ⟨(y394), (0), att14_0_12, H', ⟨Nat.le_refl _⟩, ⟨att14_0_6⟩, ⟨att14_0_7⟩, ⟨by (with_reducible repeat (first | apply Kd.R_alloc | apply Kd.R_drewN | apply Kd.R_drew)); exact Kd.R_mono HO396.out (fun _ hk => hk.2)⟩, ⟨by (with_reducible repeat (first | apply Kd.R_alloc | apply Kd.R_drewN | apply Kd.R_drew)); exact Kd.R_mono HO_3.out (fun _ hk => hk.2)⟩, ⟨att14_0_0⟩⟩
          case round =>
           clear H'
           try clear c1
           try clear p1
           try clear q1
           try clear hx1
           try clear hf1
           try clear c2
           try clear p2
           try clear q2
           try clear hx2
           try clear hf2
           try clear c3
           try clear p3
           try clear q3
           try clear hx3
           try clear c4
           try clear p4
           try clear q4
           try clear hx4
           try clear hf4
           try clear c6
           try clear p6
           try clear c7
           try clear c7b0
           try clear c8
           try clear c8b0
           try clear c9
           try clear c9b0
           try clear c10
           try clear c10b0
           try clear c10b1
           try clear c12
           try clear c12b0
           try clear c13
           try clear p13
           try clear q13
           try clear hx13
           try clear hf13
           try clear c15
           try clear c17
           try clear hx17
           try clear hf17
           try clear c19
           try clear c19b0
           try clear c19b1
           try clear c21
           try clear c21b0
           try clear c22
           try clear p22
           try clear q22
           try clear hx22
           try clear hf22
           try clear c26
           try clear hx26
           try clear hf26
           try clear c31
           try clear c31b0
           try clear c31b1
           try clear c32
           try clear c32b0
           try clear c32b1
           try clear c34
           try clear p37
           try clear q37
           try clear hx37
           try clear p39
           try clear q39
           try clear hx39
           try clear c40
           try clear c40b0
           try clear c41
           try clear c41b0
           try clear c42
           try clear c42b0
           try clear p43
           try clear q43
           try clear hx43
           try clear hf43
           try clear c44
           try clear c44b0
           try clear q45
           try clear c46
           try clear hcz15_0
           try clear hcz15_1
           try clear hcz15_2
           try clear hcz15_3
           try clear hcz15_4
           try clear hcz24_0
           try clear hcz24_1
           try clear hcz24_2
           try clear hcz24_3
           try clear hcz24_4
           try clear hcz29_0
           try clear hcz29_1
           try clear hcz29_2
           try clear hcz29_3
           try clear hcz29_4
           try clear hfz15_0
           try clear hfz15_1
           try clear hfz15_2
           try clear hfz15_3
           try clear hfz15_4
           try clear hfz24_0
           try clear hfz24_1
           try clear hfz24_2
           try clear hfz24_3
           try clear hfz24_4
           try clear hfz29_0
           try clear hfz29_1
           try clear hfz29_2
           try clear hfz29_3
           try clear hfz29_4
           try clear hx13_0
           try clear hx13_1
           try clear hx13_2
           try clear hx13_3
           try clear hx13_4
           try clear hx17_4
           try clear hx22_0
           try clear hx22_1
           try clear hx22_2
           try clear hx22_3
           try clear hx22_4
           try clear hx26_4
           try clear hx377_0
           try clear hx377_1
           try clear hx377_2
           try clear hx377_3
           try clear hx377_4
           try clear hx393_0
           try clear hx43_0
           try clear p1
           try clear p13
           try clear p2
           try clear p22
           try clear p3
           try clear p37
           try clear p377
           try clear p393
           try clear p43
           try clear p6
           try clear q1
           try clear q13
           try clear q2
           try clear q22
           try clear q3
           try clear q37
           try clear q377
           try clear q393
           try clear q43
           obtain ⟨x10_3, x69_3, rfl, HA, HK3, HO_6, HO_7, HO_10, HO_67, HB⟩ := hrel
           cases gk with
           | zero => exact absurd HA.out (by simp [impl_PackBody.l2])
           | succ k3 =>
            have H := HA.out
            clear HA
            simp only [impl_PackBody.l2] at H
            by_cases c55 : x69_3 < (x3_1.length : Int)
            ·rw [if_pos c55] at H
             have c55b0 : decide (x69_3 < (x3_1.length : Int)) = true := decide_eq_true c55
             clear c55
             by_cases c56 : 0 ≤ x69_3
             ·rw [if_pos c56] at H
              have c56b0 : decide (0 ≤ x69_3) = true := decide_eq_true c56
              clear c56
              by_cases c57 : x69_3 < (x3_1.length : Int)
              ·rw [if_pos c57] at H
               have c57b0 : decide (x69_3 < (x3_1.length : Int)) = true := decide_eq_true c57
               clear c57
               by_cases c58 : x69_3 < (t386.length : Int)
               ·rw [if_pos c58] at H
                have c58b0 : decide (x69_3 < (t386.length : Int)) = true := decide_eq_true c58
                clear c58
                obtain ⟨bq59, hbq59⟩ : ∃ b_ : Bool, b_ = (rdOf false t386 x69_3) := ⟨_, rfl⟩
                replace H : (if bq59 = true then (if ((rd_T63 x3_1 x69_3).f0) = 11 then (if 0 ≤ ((rd_T63 x3_1 x69_3).f4) then (if ((rd_T63 x3_1 x69_3).f4) < (x7_2.length : Int) then (if x10_3.length < 3518437208883 then (impl_PackBody.l2 k3 t386 x7_2 (x10_3 ++ [(⟨(rd_T63 x3_1 x69_3).f0, (rd_T63 x3_1 x69_3).f1, (rd_T63 x3_1 x69_3).f2, (rd_T63 x3_1 x69_3).f3, rd x7_2 ((rd_T63 x3_1 x69_3).f4)⟩ : S63)]) x3_1 (x3_1.length : Int) (wrap64 (x69_3 + 1))) else (none)) else (none)) else (none)) else (if ((rd_T63 x3_1 x69_3).f0) = 12 then (if 0 ≤ ((rd_T63 x3_1 x69_3).f4) then (if ((rd_T63 x3_1 x69_3).f4) < (x7_2.length : Int) then (if x10_3.length < 3518437208883 then (impl_PackBody.l2 k3 t386 x7_2 (x10_3 ++ [(⟨(rd_T63 x3_1 x69_3).f0, (rd_T63 x3_1 x69_3).f1, (rd_T63 x3_1 x69_3).f2, (rd_T63 x3_1 x69_3).f3, rd x7_2 ((rd_T63 x3_1 x69_3).f4)⟩ : S63)]) x3_1 (x3_1.length : Int) (wrap64 (x69_3 + 1))) else (none)) else (none)) else (none)) else (if x10_3.length < 3518437208883 then (impl_PackBody.l2 k3 t386 x7_2 (x10_3 ++ [(⟨(rd_T63 x3_1 x69_3).f0, (rd_T63 x3_1 x69_3).f1, (rd_T63 x3_1 x69_3).f2, (rd_T63 x3_1 x69_3).f3, (rd_T63 x3_1 x69_3).f4⟩ : S63)]) x3_1 (x3_1.length : Int) (wrap64 (x69_3 + 1))) else (none)))) else (impl_PackBody.l2 k3 t386 x7_2 x10_3 x3_1 (x3_1.length : Int) (wrap64 (x69_3 + 1)))) = some r := by rw [← hbq59] at H; exact H
                have Nbq59 := Aside0.mk hbq59
                clear hbq59
                by_cases c60 : bq59 = true
                ·subst c60
                 rw [if_pos rfl] at H
                 by_cases c61 : ((rd_T63 x3_1 x69_3).f0) = 11
                 ·rw [if_pos c61] at H
                  have c61b0 : (((rd_T63 x3_1 x69_3).f0) == 11) = true := beq_iff_eq.mpr c61
                  have c61b1 : (((rd_T63 x3_1 x69_3).f0) != 11) = false := bne_eq_false_iff_eq.mpr c61
                  clear c61
                  by_cases c62 : 0 ≤ ((rd_T63 x3_1 x69_3).f4)
                  ·rw [if_pos c62] at H
                   have c62b0 : decide (0 ≤ ((rd_T63 x3_1 x69_3).f4)) = true := decide_eq_true c62
                   clear c62
                   by_cases c63 : ((rd_T63 x3_1 x69_3).f4) < (x7_2.length : Int)
                   ·rw [if_pos c63] at H
                    have c63b0 : decide (((rd_T63 x3_1 x69_3).f4) < (x7_2.length : Int)) = true := decide_eq_true c63
                    clear c63
                    by_cases c64 : x10_3.length < 3518437208883
                    ·rw [if_pos c64] at H
                     have LMc64 := Aside0.mk c64
                     clear c64
                     obtain ⟨y401, hy401⟩ : ∃ y_ : List (S63), y_ = (x10_3 ++ [(⟨(rd_T63 x3_1 x69_3).f0, (rd_T63 x3_1 x69_3).f1, (rd_T63 x3_1 x69_3).f2, (rd_T63 x3_1 x69_3).f3, rd x7_2 ((rd_T63 x3_1 x69_3).f4)⟩ : S63)]) := ⟨_, rfl⟩
                     replace H : (impl_PackBody.l2 k3 t386 x7_2 y401 x3_1 (x3_1.length : Int) (wrap64 (x69_3 + 1))) = some r := by first | (rw [hy401]; with_reducible exact H) | (have H2_ := (Option.bind_some _ _).symm.trans H; rw [hy401]; with_reducible exact H2_) | (have H2_ := (Option.bind_some _ _).symm.trans H; with_reducible exact H2_) | with_reducible exact H | (rw [hy401]; exact H) | exact H
                     have Ny401 := Aside0.mk hy401
                     clear hy401
                     have H' := Aside0.mk H
                     clear H
                     have p397 : 0 ≤ (x69_3 : Int) := of_decide_eq_true att14_0_1
                     have q397 : x69_3 < (x3_1.length : Int) := of_decide_eq_true att14_0_1
                     obtain ⟨ad397, e397, hx397_0, hx397_1, hx397_2, hx397_3, hx397_4⟩ := at_T63 (Kd.R_reads' HO_67.out).2.2 x69_3 p397 q397
                     cases e397
                     replace p397 := eq_true p397
                     replace q397 := eq_true q397
                     go_upto_region 24 with (first | ((with_reducible refine gate_dst (N := 12) rfl ?_); refine box_event ?hg (N := 12) ?hd (cs := #[.int .i64 0, .int .i64 0, .int .i64 0, .int .i64 0, .int .i64 0]) (t := 63) ?hr ?_; (case hd => rfl); (case hg => rfl); (case hr => first | (go_simp; done) | (go_simp; rfl)); intro gb398 hg w65 hbox hb; have n0_ := Aside0.mk (Kd.R_below att14_0_6 hb); have n1_ := Aside0.mk (Kd.R_below att14_0_7 hb); have n2_ := Aside0.mk (Kd.R_below (Kd.R_elderB att14_0_14 gb398 (Nat.le_of_eq hg.symm)) hb); have n3_ := Aside0.mk (Kd.R_below (Kd.R_elderB att14_0_13 gb398 (Nat.le_of_eq hg.symm)) hb); have n4_ := Aside0.mk (below_step att14_0_0 hb); have n5_ := Aside0.mk (hbox); have n6_ := Aside0.mk ((by rw [hg]; exact (below_size att14_0_0) : w.heap.size ≤ gb398)); have n7_ := Aside0.mk ((by rw [hg]; exact (below_size att14_0_0) : w.heap.size ≤ gb398)); clear HO_6; clear HO_7; clear HO_10; clear HO_67; clear HB; have HO_6 := n0_; have HO_7 := n1_; have HO_10 := n2_; have HO_67 := n3_; have HB := n4_; have BK398 := n5_; have GW398 := n6_; have GE398 := n7_; clear n0_ n1_ n2_ n3_ n4_ n5_ n6_ n7_; clear hb hbox hg; have hcz66_0 : w65.cell? ⟨gb398, 0, none⟩ = some (.int .i64 0) := (blk_cell BK398.out 0).trans rfl; have hcz66_1 : w65.cell? ⟨gb398, 1, none⟩ = some (.int .i64 0) := (blk_cell BK398.out 1).trans rfl; have hcz66_2 : w65.cell? ⟨gb398, 2, none⟩ = some (.int .i64 0) := (blk_cell BK398.out 2).trans rfl; have hcz66_3 : w65.cell? ⟨gb398, 3, none⟩ = some (.int .i64 0) := (blk_cell BK398.out 3).trans rfl; have hcz66_4 : w65.cell? ⟨gb398, 4, none⟩ = some (.int .i64 0) := (blk_cell BK398.out 4).trans rfl; have hfz66_0 := blk_frozen BK398.out 0; have hfz66_1 := blk_frozen BK398.out 1; have hfz66_2 := blk_frozen BK398.out 2; have hfz66_3 := blk_frozen BK398.out 3; have hfz66_4 := blk_frozen BK398.out 4; obtain ⟨Ao67, co67, eo67⟩ := Kd.R_slice HO_6.out; subst eo67; have p399 : 0 ≤ (x69_3 : Int) := of_decide_eq_true att14_0_1; have q399 : x69_3 < (t386.length : Int) := of_decide_eq_true att14_0_1; obtain ⟨ad399, e399, hx399_0⟩ := Kd.at_bool (Kd.R_reads' HO_6.out).2.2 x69_3 p399 q399; (try rw [← Nbq59.out] at hx399_0); cases e399; have hn399_0 : ad399.block ≠ gb398 := Kd.own_blk (Kd.R_ne HO_6.out BK398.out (by decide)); have hn399_1 : ad399.block ≠ gb398 := Kd.own_blk (Kd.R_ne HO_6.out BK398.out (by decide)); have hn399_2 : ad399.block ≠ gb398 := Kd.own_blk (Kd.R_ne HO_6.out BK398.out (by decide)); have hn399_3 : ad399.block ≠ gb398 := Kd.own_blk (Kd.R_ne HO_6.out BK398.out (by decide)); have hn399_4 : ad399.block ≠ gb398 := Kd.own_blk (Kd.R_ne HO_6.out BK398.out (by decide)); replace hx399_0 := (cell_far (p := ⟨gb398, 0, none⟩) (by first | (rw [add_block]; exact hn399_0) | (show (Addr.add _ _).block ≠ _; rw [add_block]; exact hn399_0) | exact hn399_0) (.int .i64 ((rd_T63 x3_1 x69_3).f0))).trans hx399_0; replace hx399_0 := (cell_far (p := ⟨gb398, 1, none⟩) (by first | (rw [add_block]; exact hn399_1) | (show (Addr.add _ _).block ≠ _; rw [add_block]; exact hn399_1) | exact hn399_1) (.int .i64 ((rd_T63 x3_1 x69_3).f1))).trans hx399_0; replace hx399_0 := (cell_far (p := ⟨gb398, 2, none⟩) (by first | (rw [add_block]; exact hn399_2) | (show (Addr.add _ _).block ≠ _; rw [add_block]; exact hn399_2) | exact hn399_2) (.int .i64 ((rd_T63 x3_1 x69_3).f2))).trans hx399_0; replace hx399_0 := (cell_far (p := ⟨gb398, 3, none⟩) (by first | (rw [add_block]; exact hn399_3) | (show (Addr.add _ _).block ≠ _; rw [add_block]; exact hn399_3) | exact hn399_3) (.int .i64 ((rd_T63 x3_1 x69_3).f3))).trans hx399_0; replace hx399_0 := (cell_far (p := ⟨gb398, 4, none⟩) (by first | (rw [add_block]; exact hn399_4) | (show (Addr.add _ _).block ≠ _; rw [add_block]; exact hn399_4) | exact hn399_4) (.int .i64 ((rd_T63 x3_1 x69_3).f4))).trans hx399_0; clear hn399_0; clear hn399_1; clear hn399_2; clear hn399_3; clear hn399_4; replace p399 := eq_true p399; replace q399 := eq_true q399; obtain ⟨Ao68, co68, eo68⟩ := Kd.R_slice HO_7.out; subst eo68; have p400 : 0 ≤ (((rd_T63 x3_1 x69_3).f4) : Int) := of_decide_eq_true att14_0_1; have q400 : ((rd_T63 x3_1 x69_3).f4) < (x7_2.length : Int) := of_decide_eq_true att14_0_1; obtain ⟨ad400, e400, hx400_0⟩ := Kd.at_int (Kd.R_reads' HO_7.out).2.2 ((rd_T63 x3_1 x69_3).f4) p400 q400; cases e400; have hn400_0 : ad400.block ≠ gb398 := Kd.own_blk (Kd.R_ne HO_7.out BK398.out (by decide)); have hn400_1 : ad400.block ≠ gb398 := Kd.own_blk (Kd.R_ne HO_7.out BK398.out (by decide)); have hn400_2 : ad400.block ≠ gb398 := Kd.own_blk (Kd.R_ne HO_7.out BK398.out (by decide)); have hn400_3 : ad400.block ≠ gb398 := Kd.own_blk (Kd.R_ne HO_7.out BK398.out (by decide)); have hn400_4 : ad400.block ≠ gb398 := Kd.own_blk (Kd.R_ne HO_7.out BK398.out (by decide)); replace hx400_0 := (cell_far (p := ⟨gb398, 0, none⟩) (by first | (rw [add_block]; exact hn400_0) | (show (Addr.add _ _).block ≠ _; rw [add_block]; exact hn400_0) | exact hn400_0) (.int .i64 ((rd_T63 x3_1 x69_3).f0))).trans hx400_0; replace hx400_0 := (cell_far (p := ⟨gb398, 1, none⟩) (by first | (rw [add_block]; exact hn400_1) | (show (Addr.add _ _).block ≠ _; rw [add_block]; exact hn400_1) | exact hn400_1) (.int .i64 ((rd_T63 x3_1 x69_3).f1))).trans hx400_0; replace hx400_0 := (cell_far (p := ⟨gb398, 2, none⟩) (by first | (rw [add_block]; exact hn400_2) | (show (Addr.add _ _).block ≠ _; rw [add_block]; exact hn400_2) | exact hn400_2) (.int .i64 ((rd_T63 x3_1 x69_3).f2))).trans hx400_0; replace hx400_0 := (cell_far (p := ⟨gb398, 3, none⟩) (by first | (rw [add_block]; exact hn400_3) | (show (Addr.add _ _).block ≠ _; rw [add_block]; exact hn400_3) | exact hn400_3) (.int .i64 ((rd_T63 x3_1 x69_3).f3))).trans hx400_0; replace hx400_0 := (cell_far (p := ⟨gb398, 4, none⟩) (by first | (rw [add_block]; exact hn400_4) | (show (Addr.add _ _).block ≠ _; rw [add_block]; exact hn400_4) | exact hn400_4) (.int .i64 ((rd_T63 x3_1 x69_3).f4))).trans hx400_0; clear hn400_0; clear hn400_1; clear hn400_2; clear hn400_3; clear hn400_4; replace p400 := eq_true p400; replace q400 := eq_true q400))
                     have B5_ := blk5i_ (.int .i64 ((rd_T63 x3_1 x69_3).f0)) (.int .i64 ((rd_T63 x3_1 x69_3).f1)) (.int .i64 ((rd_T63 x3_1 x69_3).f2)) (.int .i64 ((rd_T63 x3_1 x69_3).f3)) (.int .i64 ((rd_T63 x3_1 x69_3).f4)) BK398.out
                     obtain ⟨wz398_, hW5_⟩ : ∃ W_, W_ = (((((w65.setCell ⟨gb398, 0, none⟩ (.int .i64 ((rd_T63 x3_1 x69_3).f0))).setCell ⟨gb398, 1, none⟩ (.int .i64 ((rd_T63 x3_1 x69_3).f1))).setCell ⟨gb398, 2, none⟩ (.int .i64 ((rd_T63 x3_1 x69_3).f2))).setCell ⟨gb398, 3, none⟩ (.int .i64 ((rd_T63 x3_1 x69_3).f3))).setCell ⟨gb398, 4, none⟩ (.int .i64 ((rd_T63 x3_1 x69_3).f4))) := ⟨_, rfl⟩
                     have n_HO_6 := Aside0.mk (far5i_ (g := gb398) (a0 := (.int .i64 ((rd_T63 x3_1 x69_3).f0))) (a1 := (.int .i64 ((rd_T63 x3_1 x69_3).f1))) (a2 := (.int .i64 ((rd_T63 x3_1 x69_3).f2))) (a3 := (.int .i64 ((rd_T63 x3_1 x69_3).f3))) (a4 := (.int .i64 ((rd_T63 x3_1 x69_3).f4))) (Kd.R_types HO_6.out BK398.out (by decide)))
                     have n_HO_7 := Aside0.mk (far5i_ (g := gb398) (a0 := (.int .i64 ((rd_T63 x3_1 x69_3).f0))) (a1 := (.int .i64 ((rd_T63 x3_1 x69_3).f1))) (a2 := (.int .i64 ((rd_T63 x3_1 x69_3).f2))) (a3 := (.int .i64 ((rd_T63 x3_1 x69_3).f3))) (a4 := (.int .i64 ((rd_T63 x3_1 x69_3).f4))) (Kd.R_types HO_7.out BK398.out (by decide)))
                     have n_HO_10 := Aside0.mk (far5i_ (g := gb398) (a0 := (.int .i64 ((rd_T63 x3_1 x69_3).f0))) (a1 := (.int .i64 ((rd_T63 x3_1 x69_3).f1))) (a2 := (.int .i64 ((rd_T63 x3_1 x69_3).f2))) (a3 := (.int .i64 ((rd_T63 x3_1 x69_3).f3))) (a4 := (.int .i64 ((rd_T63 x3_1 x69_3).f4))) (Kd.R_mono HO_10.out (fun k_ hk => (⟨hk, hk.2⟩ : _ ∧ k_ ≠ gb398))))
                     have n_HO_67 := Aside0.mk (far5i_ (g := gb398) (a0 := (.int .i64 ((rd_T63 x3_1 x69_3).f0))) (a1 := (.int .i64 ((rd_T63 x3_1 x69_3).f1))) (a2 := (.int .i64 ((rd_T63 x3_1 x69_3).f2))) (a3 := (.int .i64 ((rd_T63 x3_1 x69_3).f3))) (a4 := (.int .i64 ((rd_T63 x3_1 x69_3).f4))) (Kd.R_mono HO_67.out (fun k_ hk => (⟨hk, hk.2⟩ : _ ∧ k_ ≠ gb398))))
                     have n_HB := Aside0.mk (below5i_ (a0 := (.int .i64 ((rd_T63 x3_1 x69_3).f0))) (a1 := (.int .i64 ((rd_T63 x3_1 x69_3).f1))) (a2 := (.int .i64 ((rd_T63 x3_1 x69_3).f2))) (a3 := (.int .i64 ((rd_T63 x3_1 x69_3).f3))) (a4 := (.int .i64 ((rd_T63 x3_1 x69_3).f4))) HB.out GE398.out)
                     rw [← hW5_] at B5_ hx399_0 hx400_0 n_HO_6 n_HO_7 n_HO_10 n_HO_67 n_HB ⊢
                     clear hW5_ hcz66_0 hcz66_1 hcz66_2 hcz66_3 hcz66_4 hfz66_0 hfz66_1 hfz66_2 hfz66_3 hfz66_4 HO_6 HO_7 HO_10 HO_67 HB BK398
                     have HO_6 := n_HO_6
                     have HO_7 := n_HO_7
                     have HO_10 := n_HO_10
                     have HO_67 := n_HO_67
                     have HB := n_HB
                     have BK398 := Aside0.mk B5_
                     clear B5_ n_HO_6 n_HO_7 n_HO_10 n_HO_67 n_HB
                     have hcz66_0 : wz398_.cell? ⟨gb398, 0, none⟩ = some (.int .i64 ((rd_T63 x3_1 x69_3).f0)) := (blk_cell BK398.out 0).trans rfl
                     have hfz66_0 := blk_frozen BK398.out 0
                     have hcz66_1 : wz398_.cell? ⟨gb398, 1, none⟩ = some (.int .i64 ((rd_T63 x3_1 x69_3).f1)) := (blk_cell BK398.out 1).trans rfl
                     have hfz66_1 := blk_frozen BK398.out 1
                     have hcz66_2 : wz398_.cell? ⟨gb398, 2, none⟩ = some (.int .i64 ((rd_T63 x3_1 x69_3).f2)) := (blk_cell BK398.out 2).trans rfl
                     have hfz66_2 := blk_frozen BK398.out 2
                     have hcz66_3 : wz398_.cell? ⟨gb398, 3, none⟩ = some (.int .i64 ((rd_T63 x3_1 x69_3).f3)) := (blk_cell BK398.out 3).trans rfl
                     have hfz66_3 := blk_frozen BK398.out 3
                     have hcz66_4 : wz398_.cell? ⟨gb398, 4, none⟩ = some (.int .i64 ((rd_T63 x3_1 x69_3).f4)) := (blk_cell BK398.out 4).trans rfl
                     have hfz66_4 := blk_frozen BK398.out 4
                     go_wp2_with (first | ((with_reducible refine gate_builtin (b := .append) (xs := #[.tmp 93, .tmp 95]) rfl ?_); at_builtin; refine Kd.R_append k63 (w0 := w) w.heap.size rfl (.tmp 93) (.tmp 95) 24 63 (.agg #[(.int .i64 0), (.int .i64 0), (.int .i64 0), (.int .i64 0), (.int .i64 0)]) 40 rfl Try.underlying24 info63 rfl (by decide) (by omega) u10 x10_3 (⟨(rd_T63 x3_1 x69_3).f0, (rd_T63 x3_1 x69_3).f1, (rd_T63 x3_1 x69_3).f2, (rd_T63 x3_1 x69_3).f3, rd x7_2 ((rd_T63 x3_1 x69_3).f4)⟩ : S63) [.int .i64 ((rd_T63 x3_1 x69_3).f0), .int .i64 ((rd_T63 x3_1 x69_3).f1), .int .i64 ((rd_T63 x3_1 x69_3).f2), .int .i64 ((rd_T63 x3_1 x69_3).f3), .int .i64 (rd x7_2 ((rd_T63 x3_1 x69_3).f4))] (fun k_ => some k_ ≠ (.slice (some ad397) x3_1.length co35 : Value).ownBlock ∧ k_ ≠ gb398) (fun _ => False) rfl att14_0_28 ?aP (fun _ hk => hk.elim) ?aF ?aO ?aB ?aS ?aL ?_; (case aP => exact k63_mkM _ _ _ (⟨(rd_T63 x3_1 x69_3).f0, (rd_T63 x3_1 x69_3).f1, (rd_T63 x3_1 x69_3).f2, (rd_T63 x3_1 x69_3).f3, rd x7_2 ((rd_T63 x3_1 x69_3).f4)⟩ : S63)); (case aB => exact att14_0_2); (case aF => exact (fun k_ hk => ⟨Kd.fresh' (Kd.R_lt att14_0_17) k_ hk, Kd.freshB (g := gb398) (o := .cells #[.int .i64 ((rd_T63 x3_1 x69_3).f0), .int .i64 ((rd_T63 x3_1 x69_3).f1), .int .i64 ((rd_T63 x3_1 x69_3).f2), .int .i64 ((rd_T63 x3_1 x69_3).f3), .int .i64 (rd x7_2 ((rd_T63 x3_1 x69_3).f4))] 63 (0, 0)) att14_0_5 k_ hk⟩)); (case aO => exact att14_0_16); (case aS => exact (below_size att14_0_2)); (case aL => have := LMc64.out; omega); intro v402 w69 ho hb hg hat; rw [← Ny401.out] at ho; have n0_ := Aside0.mk (Kd.R_over' att14_0_19 (Kd.R_typed att14_0_9) (by decide) hg); have n1_ := Aside0.mk (Kd.R_over' att14_0_18 (Kd.R_typed att14_0_9) (by decide) hg); have n2_ := Aside0.mk (Kd.R_after (ok := (fun k_ => k_ ≠ gb398)) att14_0_15 hg hat); have n3_ := Aside0.mk (blk_grown (g := gb398) (o := .cells #[.int .i64 ((rd_T63 x3_1 x69_3).f0), .int .i64 ((rd_T63 x3_1 x69_3).f1), .int .i64 ((rd_T63 x3_1 x69_3).f2), .int .i64 ((rd_T63 x3_1 x69_3).f3), .int .i64 (rd x7_2 ((rd_T63 x3_1 x69_3).f4))] 63 (0, 0)) att14_0_5 hg (Kd.R_away HO_10.out (fun _ hk => hk.2))); have n4_ := Aside0.mk (hb); have n5_ := Aside0.mk (ho); clear HO_6; clear HO_7; clear HO_67; clear BK398; clear HB; clear HO_10; have HO_6 := n0_; have HO_7 := n1_; have HO_67 := n2_; have BK398 := n3_; have HB := n4_; have HO403 := n5_; clear n0_ n1_ n2_ n3_ n4_ n5_; clear ho hb hg hat))
                     go_roundg k3
                     case measure => have := HK1.out; have := HK2.out; have := HK3.out; omega
                     case rel => exact ⟨(y401), (wrap64 (x69_3 + 1)), att14_0_12, H', ⟨att14_0_23⟩, ⟨att14_0_6⟩, ⟨att14_0_7⟩, ⟨by (with_reducible repeat (first | apply Kd.R_alloc | apply Kd.R_drewN | apply Kd.R_drew)); exact Kd.R_mono HO403.out (fun _ hk => hk.1)⟩, ⟨att14_0_20⟩, ⟨att14_0_2⟩⟩
                    ·rw [if_neg c64] at H
                     exact absurd H (by simp)
                   ·rw [if_neg c63] at H
                    exact absurd H (by simp)
                  ·rw [if_neg c62] at H
                   exact absurd H (by simp)
                 ·rw [if_neg c61] at H
                  have c61b0 : (((rd_T63 x3_1 x69_3).f0) == 11) = false := beq_eq_false_iff_ne.mpr c61
                  have c61b1 : (((rd_T63 x3_1 x69_3).f0) != 11) = true := bne_iff_ne.mpr c61
                  by_cases c70 : ((rd_T63 x3_1 x69_3).f0) = 12
                  ·rw [if_pos c70] at H
                   have c70b0 : (((rd_T63 x3_1 x69_3).f0) == 12) = true := beq_iff_eq.mpr c70
                   have c70b1 : (((rd_T63 x3_1 x69_3).f0) != 12) = false := bne_eq_false_iff_eq.mpr c70
                   clear c70
                   by_cases c71 : 0 ≤ ((rd_T63 x3_1 x69_3).f4)
                   ·rw [if_pos c71] at H
                    have c71b0 : decide (0 ≤ ((rd_T63 x3_1 x69_3).f4)) = true := decide_eq_true c71
                    clear c71
                    by_cases c72 : ((rd_T63 x3_1 x69_3).f4) < (x7_2.length : Int)
                    ·rw [if_pos c72] at H
                     have c72b0 : decide (((rd_T63 x3_1 x69_3).f4) < (x7_2.length : Int)) = true := decide_eq_true c72
                     clear c72
                     by_cases c73 : x10_3.length < 3518437208883
                     ·rw [if_pos c73] at H
                      have LMc73 := Aside0.mk c73
                      clear c73
                      obtain ⟨y405, hy405⟩ : ∃ y_ : List (S63), y_ = (x10_3 ++ [(⟨(rd_T63 x3_1 x69_3).f0, (rd_T63 x3_1 x69_3).f1, (rd_T63 x3_1 x69_3).f2, (rd_T63 x3_1 x69_3).f3, rd x7_2 ((rd_T63 x3_1 x69_3).f4)⟩ : S63)]) := ⟨_, rfl⟩
                      replace H : (impl_PackBody.l2 k3 t386 x7_2 y405 x3_1 (x3_1.length : Int) (wrap64 (x69_3 + 1))) = some r := by first | (rw [hy405]; with_reducible exact H) | (have H2_ := (Option.bind_some _ _).symm.trans H; rw [hy405]; with_reducible exact H2_) | (have H2_ := (Option.bind_some _ _).symm.trans H; with_reducible exact H2_) | with_reducible exact H | (rw [hy405]; exact H) | exact H
                      have Ny405 := Aside0.mk hy405
                      clear hy405
                      have H' := Aside0.mk H
                      clear H
                      have p397 : 0 ≤ (x69_3 : Int) := of_decide_eq_true att14_0_1
                      have q397 : x69_3 < (x3_1.length : Int) := of_decide_eq_true att14_0_1
                      obtain ⟨ad397, e397, hx397_0, hx397_1, hx397_2, hx397_3, hx397_4⟩ := at_T63 (Kd.R_reads' HO_67.out).2.2 x69_3 p397 q397
                      cases e397
                      replace p397 := eq_true p397
                      replace q397 := eq_true q397
                      go_upto_region 24 with (first | ((with_reducible refine gate_dst (N := 12) rfl ?_); refine box_event ?hg (N := 12) ?hd (cs := #[.int .i64 0, .int .i64 0, .int .i64 0, .int .i64 0, .int .i64 0]) (t := 63) ?hr ?_; (case hd => rfl); (case hg => rfl); (case hr => first | (go_simp; done) | (go_simp; rfl)); intro gb398 hg w74 hbox hb; have n0_ := Aside0.mk (Kd.R_below att14_0_6 hb); have n1_ := Aside0.mk (Kd.R_below att14_0_7 hb); have n2_ := Aside0.mk (Kd.R_below (Kd.R_elderB att14_0_14 gb398 (Nat.le_of_eq hg.symm)) hb); have n3_ := Aside0.mk (Kd.R_below (Kd.R_elderB att14_0_13 gb398 (Nat.le_of_eq hg.symm)) hb); have n4_ := Aside0.mk (below_step att14_0_0 hb); have n5_ := Aside0.mk (hbox); have n6_ := Aside0.mk ((by rw [hg]; exact (below_size att14_0_0) : w.heap.size ≤ gb398)); have n7_ := Aside0.mk ((by rw [hg]; exact (below_size att14_0_0) : w.heap.size ≤ gb398)); clear HO_6; clear HO_7; clear HO_10; clear HO_67; clear HB; have HO_6 := n0_; have HO_7 := n1_; have HO_10 := n2_; have HO_67 := n3_; have HB := n4_; have BK398 := n5_; have GW398 := n6_; have GE398 := n7_; clear n0_ n1_ n2_ n3_ n4_ n5_ n6_ n7_; clear hb hbox hg; have hcz75_0 : w74.cell? ⟨gb398, 0, none⟩ = some (.int .i64 0) := (blk_cell BK398.out 0).trans rfl; have hcz75_1 : w74.cell? ⟨gb398, 1, none⟩ = some (.int .i64 0) := (blk_cell BK398.out 1).trans rfl; have hcz75_2 : w74.cell? ⟨gb398, 2, none⟩ = some (.int .i64 0) := (blk_cell BK398.out 2).trans rfl; have hcz75_3 : w74.cell? ⟨gb398, 3, none⟩ = some (.int .i64 0) := (blk_cell BK398.out 3).trans rfl; have hcz75_4 : w74.cell? ⟨gb398, 4, none⟩ = some (.int .i64 0) := (blk_cell BK398.out 4).trans rfl; have hfz75_0 := blk_frozen BK398.out 0; have hfz75_1 := blk_frozen BK398.out 1; have hfz75_2 := blk_frozen BK398.out 2; have hfz75_3 := blk_frozen BK398.out 3; have hfz75_4 := blk_frozen BK398.out 4; obtain ⟨Ao76, co76, eo76⟩ := Kd.R_slice HO_6.out; subst eo76; have p399 : 0 ≤ (x69_3 : Int) := of_decide_eq_true att14_0_1; have q399 : x69_3 < (t386.length : Int) := of_decide_eq_true att14_0_1; obtain ⟨ad399, e399, hx399_0⟩ := Kd.at_bool (Kd.R_reads' HO_6.out).2.2 x69_3 p399 q399; (try rw [← Nbq59.out] at hx399_0); cases e399; have hn399_0 : ad399.block ≠ gb398 := Kd.own_blk (Kd.R_ne HO_6.out BK398.out (by decide)); have hn399_1 : ad399.block ≠ gb398 := Kd.own_blk (Kd.R_ne HO_6.out BK398.out (by decide)); have hn399_2 : ad399.block ≠ gb398 := Kd.own_blk (Kd.R_ne HO_6.out BK398.out (by decide)); have hn399_3 : ad399.block ≠ gb398 := Kd.own_blk (Kd.R_ne HO_6.out BK398.out (by decide)); have hn399_4 : ad399.block ≠ gb398 := Kd.own_blk (Kd.R_ne HO_6.out BK398.out (by decide)); replace hx399_0 := (cell_far (p := ⟨gb398, 0, none⟩) (by first | (rw [add_block]; exact hn399_0) | (show (Addr.add _ _).block ≠ _; rw [add_block]; exact hn399_0) | exact hn399_0) (.int .i64 ((rd_T63 x3_1 x69_3).f0))).trans hx399_0; replace hx399_0 := (cell_far (p := ⟨gb398, 1, none⟩) (by first | (rw [add_block]; exact hn399_1) | (show (Addr.add _ _).block ≠ _; rw [add_block]; exact hn399_1) | exact hn399_1) (.int .i64 ((rd_T63 x3_1 x69_3).f1))).trans hx399_0; replace hx399_0 := (cell_far (p := ⟨gb398, 2, none⟩) (by first | (rw [add_block]; exact hn399_2) | (show (Addr.add _ _).block ≠ _; rw [add_block]; exact hn399_2) | exact hn399_2) (.int .i64 ((rd_T63 x3_1 x69_3).f2))).trans hx399_0; replace hx399_0 := (cell_far (p := ⟨gb398, 3, none⟩) (by first | (rw [add_block]; exact hn399_3) | (show (Addr.add _ _).block ≠ _; rw [add_block]; exact hn399_3) | exact hn399_3) (.int .i64 ((rd_T63 x3_1 x69_3).f3))).trans hx399_0; replace hx399_0 := (cell_far (p := ⟨gb398, 4, none⟩) (by first | (rw [add_block]; exact hn399_4) | (show (Addr.add _ _).block ≠ _; rw [add_block]; exact hn399_4) | exact hn399_4) (.int .i64 ((rd_T63 x3_1 x69_3).f4))).trans hx399_0; clear hn399_0; clear hn399_1; clear hn399_2; clear hn399_3; clear hn399_4; replace p399 := eq_true p399; replace q399 := eq_true q399; obtain ⟨Ao77, co77, eo77⟩ := Kd.R_slice HO_7.out; subst eo77; have p404 : 0 ≤ (((rd_T63 x3_1 x69_3).f4) : Int) := of_decide_eq_true att14_0_1; have q404 : ((rd_T63 x3_1 x69_3).f4) < (x7_2.length : Int) := of_decide_eq_true att14_0_1; obtain ⟨ad404, e404, hx404_0⟩ := Kd.at_int (Kd.R_reads' HO_7.out).2.2 ((rd_T63 x3_1 x69_3).f4) p404 q404; cases e404; have hn404_0 : ad404.block ≠ gb398 := Kd.own_blk (Kd.R_ne HO_7.out BK398.out (by decide)); have hn404_1 : ad404.block ≠ gb398 := Kd.own_blk (Kd.R_ne HO_7.out BK398.out (by decide)); have hn404_2 : ad404.block ≠ gb398 := Kd.own_blk (Kd.R_ne HO_7.out BK398.out (by decide)); have hn404_3 : ad404.block ≠ gb398 := Kd.own_blk (Kd.R_ne HO_7.out BK398.out (by decide)); have hn404_4 : ad404.block ≠ gb398 := Kd.own_blk (Kd.R_ne HO_7.out BK398.out (by decide)); replace hx404_0 := (cell_far (p := ⟨gb398, 0, none⟩) (by first | (rw [add_block]; exact hn404_0) | (show (Addr.add _ _).block ≠ _; rw [add_block]; exact hn404_0) | exact hn404_0) (.int .i64 ((rd_T63 x3_1 x69_3).f0))).trans hx404_0; replace hx404_0 := (cell_far (p := ⟨gb398, 1, none⟩) (by first | (rw [add_block]; exact hn404_1) | (show (Addr.add _ _).block ≠ _; rw [add_block]; exact hn404_1) | exact hn404_1) (.int .i64 ((rd_T63 x3_1 x69_3).f1))).trans hx404_0; replace hx404_0 := (cell_far (p := ⟨gb398, 2, none⟩) (by first | (rw [add_block]; exact hn404_2) | (show (Addr.add _ _).block ≠ _; rw [add_block]; exact hn404_2) | exact hn404_2) (.int .i64 ((rd_T63 x3_1 x69_3).f2))).trans hx404_0; replace hx404_0 := (cell_far (p := ⟨gb398, 3, none⟩) (by first | (rw [add_block]; exact hn404_3) | (show (Addr.add _ _).block ≠ _; rw [add_block]; exact hn404_3) | exact hn404_3) (.int .i64 ((rd_T63 x3_1 x69_3).f3))).trans hx404_0; replace hx404_0 := (cell_far (p := ⟨gb398, 4, none⟩) (by first | (rw [add_block]; exact hn404_4) | (show (Addr.add _ _).block ≠ _; rw [add_block]; exact hn404_4) | exact hn404_4) (.int .i64 ((rd_T63 x3_1 x69_3).f4))).trans hx404_0; clear hn404_0; clear hn404_1; clear hn404_2; clear hn404_3; clear hn404_4; replace p404 := eq_true p404; replace q404 := eq_true q404))
                      have B5_ := blk5i_ (.int .i64 ((rd_T63 x3_1 x69_3).f0)) (.int .i64 ((rd_T63 x3_1 x69_3).f1)) (.int .i64 ((rd_T63 x3_1 x69_3).f2)) (.int .i64 ((rd_T63 x3_1 x69_3).f3)) (.int .i64 ((rd_T63 x3_1 x69_3).f4)) BK398.out
                      obtain ⟨wz398_, hW5_⟩ : ∃ W_, W_ = (((((w74.setCell ⟨gb398, 0, none⟩ (.int .i64 ((rd_T63 x3_1 x69_3).f0))).setCell ⟨gb398, 1, none⟩ (.int .i64 ((rd_T63 x3_1 x69_3).f1))).setCell ⟨gb398, 2, none⟩ (.int .i64 ((rd_T63 x3_1 x69_3).f2))).setCell ⟨gb398, 3, none⟩ (.int .i64 ((rd_T63 x3_1 x69_3).f3))).setCell ⟨gb398, 4, none⟩ (.int .i64 ((rd_T63 x3_1 x69_3).f4))) := ⟨_, rfl⟩
                      have n_HO_6 := Aside0.mk (far5i_ (g := gb398) (a0 := (.int .i64 ((rd_T63 x3_1 x69_3).f0))) (a1 := (.int .i64 ((rd_T63 x3_1 x69_3).f1))) (a2 := (.int .i64 ((rd_T63 x3_1 x69_3).f2))) (a3 := (.int .i64 ((rd_T63 x3_1 x69_3).f3))) (a4 := (.int .i64 ((rd_T63 x3_1 x69_3).f4))) (Kd.R_types HO_6.out BK398.out (by decide)))
                      have n_HO_7 := Aside0.mk (far5i_ (g := gb398) (a0 := (.int .i64 ((rd_T63 x3_1 x69_3).f0))) (a1 := (.int .i64 ((rd_T63 x3_1 x69_3).f1))) (a2 := (.int .i64 ((rd_T63 x3_1 x69_3).f2))) (a3 := (.int .i64 ((rd_T63 x3_1 x69_3).f3))) (a4 := (.int .i64 ((rd_T63 x3_1 x69_3).f4))) (Kd.R_types HO_7.out BK398.out (by decide)))
                      have n_HO_10 := Aside0.mk (far5i_ (g := gb398) (a0 := (.int .i64 ((rd_T63 x3_1 x69_3).f0))) (a1 := (.int .i64 ((rd_T63 x3_1 x69_3).f1))) (a2 := (.int .i64 ((rd_T63 x3_1 x69_3).f2))) (a3 := (.int .i64 ((rd_T63 x3_1 x69_3).f3))) (a4 := (.int .i64 ((rd_T63 x3_1 x69_3).f4))) (Kd.R_mono HO_10.out (fun k_ hk => (⟨hk, hk.2⟩ : _ ∧ k_ ≠ gb398))))
                      have n_HO_67 := Aside0.mk (far5i_ (g := gb398) (a0 := (.int .i64 ((rd_T63 x3_1 x69_3).f0))) (a1 := (.int .i64 ((rd_T63 x3_1 x69_3).f1))) (a2 := (.int .i64 ((rd_T63 x3_1 x69_3).f2))) (a3 := (.int .i64 ((rd_T63 x3_1 x69_3).f3))) (a4 := (.int .i64 ((rd_T63 x3_1 x69_3).f4))) (Kd.R_mono HO_67.out (fun k_ hk => (⟨hk, hk.2⟩ : _ ∧ k_ ≠ gb398))))
                      have n_HB := Aside0.mk (below5i_ (a0 := (.int .i64 ((rd_T63 x3_1 x69_3).f0))) (a1 := (.int .i64 ((rd_T63 x3_1 x69_3).f1))) (a2 := (.int .i64 ((rd_T63 x3_1 x69_3).f2))) (a3 := (.int .i64 ((rd_T63 x3_1 x69_3).f3))) (a4 := (.int .i64 ((rd_T63 x3_1 x69_3).f4))) HB.out GE398.out)
                      rw [← hW5_] at B5_ hx399_0 hx404_0 n_HO_6 n_HO_7 n_HO_10 n_HO_67 n_HB ⊢
                      clear hW5_ hcz75_0 hcz75_1 hcz75_2 hcz75_3 hcz75_4 hfz75_0 hfz75_1 hfz75_2 hfz75_3 hfz75_4 HO_6 HO_7 HO_10 HO_67 HB BK398
                      have HO_6 := n_HO_6
                      have HO_7 := n_HO_7
                      have HO_10 := n_HO_10
                      have HO_67 := n_HO_67
                      have HB := n_HB
                      have BK398 := Aside0.mk B5_
                      clear B5_ n_HO_6 n_HO_7 n_HO_10 n_HO_67 n_HB
                      have hcz75_0 : wz398_.cell? ⟨gb398, 0, none⟩ = some (.int .i64 ((rd_T63 x3_1 x69_3).f0)) := (blk_cell BK398.out 0).trans rfl
                      have hfz75_0 := blk_frozen BK398.out 0
                      have hcz75_1 : wz398_.cell? ⟨gb398, 1, none⟩ = some (.int .i64 ((rd_T63 x3_1 x69_3).f1)) := (blk_cell BK398.out 1).trans rfl
                      have hfz75_1 := blk_frozen BK398.out 1
                      have hcz75_2 : wz398_.cell? ⟨gb398, 2, none⟩ = some (.int .i64 ((rd_T63 x3_1 x69_3).f2)) := (blk_cell BK398.out 2).trans rfl
                      have hfz75_2 := blk_frozen BK398.out 2
                      have hcz75_3 : wz398_.cell? ⟨gb398, 3, none⟩ = some (.int .i64 ((rd_T63 x3_1 x69_3).f3)) := (blk_cell BK398.out 3).trans rfl
                      have hfz75_3 := blk_frozen BK398.out 3
                      have hcz75_4 : wz398_.cell? ⟨gb398, 4, none⟩ = some (.int .i64 ((rd_T63 x3_1 x69_3).f4)) := (blk_cell BK398.out 4).trans rfl
                      have hfz75_4 := blk_frozen BK398.out 4
                      go_wp2_with (first | ((with_reducible refine gate_builtin (b := .append) (xs := #[.tmp 93, .tmp 95]) rfl ?_); at_builtin; refine Kd.R_append k63 (w0 := w) w.heap.size rfl (.tmp 93) (.tmp 95) 24 63 (.agg #[(.int .i64 0), (.int .i64 0), (.int .i64 0), (.int .i64 0), (.int .i64 0)]) 40 rfl Try.underlying24 info63 rfl (by decide) (by omega) u10 x10_3 (⟨(rd_T63 x3_1 x69_3).f0, (rd_T63 x3_1 x69_3).f1, (rd_T63 x3_1 x69_3).f2, (rd_T63 x3_1 x69_3).f3, rd x7_2 ((rd_T63 x3_1 x69_3).f4)⟩ : S63) [.int .i64 ((rd_T63 x3_1 x69_3).f0), .int .i64 ((rd_T63 x3_1 x69_3).f1), .int .i64 ((rd_T63 x3_1 x69_3).f2), .int .i64 ((rd_T63 x3_1 x69_3).f3), .int .i64 (rd x7_2 ((rd_T63 x3_1 x69_3).f4))] (fun k_ => some k_ ≠ (.slice (some ad397) x3_1.length co35 : Value).ownBlock ∧ k_ ≠ gb398) (fun _ => False) rfl att14_0_28 ?aP (fun _ hk => hk.elim) ?aF ?aO ?aB ?aS ?aL ?_; (case aP => exact k63_mkM _ _ _ (⟨(rd_T63 x3_1 x69_3).f0, (rd_T63 x3_1 x69_3).f1, (rd_T63 x3_1 x69_3).f2, (rd_T63 x3_1 x69_3).f3, rd x7_2 ((rd_T63 x3_1 x69_3).f4)⟩ : S63)); (case aB => exact att14_0_2); (case aF => exact (fun k_ hk => ⟨Kd.fresh' (Kd.R_lt att14_0_17) k_ hk, Kd.freshB (g := gb398) (o := .cells #[.int .i64 ((rd_T63 x3_1 x69_3).f0), .int .i64 ((rd_T63 x3_1 x69_3).f1), .int .i64 ((rd_T63 x3_1 x69_3).f2), .int .i64 ((rd_T63 x3_1 x69_3).f3), .int .i64 (rd x7_2 ((rd_T63 x3_1 x69_3).f4))] 63 (0, 0)) att14_0_5 k_ hk⟩)); (case aO => exact att14_0_16); (case aS => exact (below_size att14_0_2)); (case aL => have := LMc73.out; omega); intro v406 w78 ho hb hg hat; rw [← Ny405.out] at ho; have n0_ := Aside0.mk (Kd.R_over' att14_0_19 (Kd.R_typed att14_0_9) (by decide) hg); have n1_ := Aside0.mk (Kd.R_over' att14_0_18 (Kd.R_typed att14_0_9) (by decide) hg); have n2_ := Aside0.mk (Kd.R_after (ok := (fun k_ => k_ ≠ gb398)) att14_0_15 hg hat); have n3_ := Aside0.mk (blk_grown (g := gb398) (o := .cells #[.int .i64 ((rd_T63 x3_1 x69_3).f0), .int .i64 ((rd_T63 x3_1 x69_3).f1), .int .i64 ((rd_T63 x3_1 x69_3).f2), .int .i64 ((rd_T63 x3_1 x69_3).f3), .int .i64 (rd x7_2 ((rd_T63 x3_1 x69_3).f4))] 63 (0, 0)) att14_0_5 hg (Kd.R_away HO_10.out (fun _ hk => hk.2))); have n4_ := Aside0.mk (hb); have n5_ := Aside0.mk (ho); clear HO_6; clear HO_7; clear HO_67; clear BK398; clear HB; clear HO_10; have HO_6 := n0_; have HO_7 := n1_; have HO_67 := n2_; have BK398 := n3_; have HB := n4_; have HO407 := n5_; clear n0_ n1_ n2_ n3_ n4_ n5_; clear ho hb hg hat))
                      go_roundg k3
                      case measure => have := HK1.out; have := HK2.out; have := HK3.out; omega
                      case rel => exact ⟨(y405), (wrap64 (x69_3 + 1)), att14_0_12, H', ⟨att14_0_23⟩, ⟨att14_0_6⟩, ⟨att14_0_7⟩, ⟨by (with_reducible repeat (first | apply Kd.R_alloc | apply Kd.R_drewN | apply Kd.R_drew)); exact Kd.R_mono HO407.out (fun _ hk => hk.1)⟩, ⟨att14_0_20⟩, ⟨att14_0_2⟩⟩
                     ·rw [if_neg c73] at H
                      exact absurd H (by simp)
                    ·rw [if_neg c72] at H
                     exact absurd H (by simp)
                   ·rw [if_neg c71] at H
                    exact absurd H (by simp)
                  ·rw [if_neg c70] at H
                   have c70b0 : (((rd_T63 x3_1 x69_3).f0) == 12) = false := beq_eq_false_iff_ne.mpr c70
                   have c70b1 : (((rd_T63 x3_1 x69_3).f0) != 12) = true := bne_iff_ne.mpr c70
                   by_cases c79 : x10_3.length < 3518437208883
                   ·rw [if_pos c79] at H
                    have LMc79 := Aside0.mk c79
                    clear c79
                    obtain ⟨y408, hy408⟩ : ∃ y_ : List (S63), y_ = (x10_3 ++ [(⟨(rd_T63 x3_1 x69_3).f0, (rd_T63 x3_1 x69_3).f1, (rd_T63 x3_1 x69_3).f2, (rd_T63 x3_1 x69_3).f3, (rd_T63 x3_1 x69_3).f4⟩ : S63)]) := ⟨_, rfl⟩
                    replace H : (impl_PackBody.l2 k3 t386 x7_2 y408 x3_1 (x3_1.length : Int) (wrap64 (x69_3 + 1))) = some r := by first | (rw [hy408]; with_reducible exact H) | (have H2_ := (Option.bind_some _ _).symm.trans H; rw [hy408]; with_reducible exact H2_) | (have H2_ := (Option.bind_some _ _).symm.trans H; with_reducible exact H2_) | with_reducible exact H | (rw [hy408]; exact H) | exact H
                    have Ny408 := Aside0.mk hy408
                    clear hy408
                    have H' := Aside0.mk H
                    clear H
                    have p397 : 0 ≤ (x69_3 : Int) := of_decide_eq_true att14_0_1
                    have q397 : x69_3 < (x3_1.length : Int) := of_decide_eq_true att14_0_1
                    obtain ⟨ad397, e397, hx397_0, hx397_1, hx397_2, hx397_3, hx397_4⟩ := at_T63 (Kd.R_reads' HO_67.out).2.2 x69_3 p397 q397
                    cases e397
                    replace p397 := eq_true p397
                    replace q397 := eq_true q397
                    go_upto_region 24 with (first | ((with_reducible refine gate_dst (N := 12) rfl ?_); refine box_event ?hg (N := 12) ?hd (cs := #[.int .i64 0, .int .i64 0, .int .i64 0, .int .i64 0, .int .i64 0]) (t := 63) ?hr ?_; (case hd => rfl); (case hg => rfl); (case hr => first | (go_simp; done) | (go_simp; rfl)); intro gb398 hg w80 hbox hb; have n0_ := Aside0.mk (Kd.R_below att14_0_6 hb); have n1_ := Aside0.mk (Kd.R_below att14_0_7 hb); have n2_ := Aside0.mk (Kd.R_below (Kd.R_elderB att14_0_14 gb398 (Nat.le_of_eq hg.symm)) hb); have n3_ := Aside0.mk (Kd.R_below (Kd.R_elderB att14_0_13 gb398 (Nat.le_of_eq hg.symm)) hb); have n4_ := Aside0.mk (below_step att14_0_0 hb); have n5_ := Aside0.mk (hbox); have n6_ := Aside0.mk ((by rw [hg]; exact (below_size att14_0_0) : w.heap.size ≤ gb398)); have n7_ := Aside0.mk ((by rw [hg]; exact (below_size att14_0_0) : w.heap.size ≤ gb398)); clear HO_6; clear HO_7; clear HO_10; clear HO_67; clear HB; have HO_6 := n0_; have HO_7 := n1_; have HO_10 := n2_; have HO_67 := n3_; have HB := n4_; have BK398 := n5_; have GW398 := n6_; have GE398 := n7_; clear n0_ n1_ n2_ n3_ n4_ n5_ n6_ n7_; clear hb hbox hg; have hcz81_0 : w80.cell? ⟨gb398, 0, none⟩ = some (.int .i64 0) := (blk_cell BK398.out 0).trans rfl; have hcz81_1 : w80.cell? ⟨gb398, 1, none⟩ = some (.int .i64 0) := (blk_cell BK398.out 1).trans rfl; have hcz81_2 : w80.cell? ⟨gb398, 2, none⟩ = some (.int .i64 0) := (blk_cell BK398.out 2).trans rfl; have hcz81_3 : w80.cell? ⟨gb398, 3, none⟩ = some (.int .i64 0) := (blk_cell BK398.out 3).trans rfl; have hcz81_4 : w80.cell? ⟨gb398, 4, none⟩ = some (.int .i64 0) := (blk_cell BK398.out 4).trans rfl; have hfz81_0 := blk_frozen BK398.out 0; have hfz81_1 := blk_frozen BK398.out 1; have hfz81_2 := blk_frozen BK398.out 2; have hfz81_3 := blk_frozen BK398.out 3; have hfz81_4 := blk_frozen BK398.out 4; obtain ⟨Ao82, co82, eo82⟩ := Kd.R_slice HO_6.out; subst eo82; have p399 : 0 ≤ (x69_3 : Int) := of_decide_eq_true att14_0_1; have q399 : x69_3 < (t386.length : Int) := of_decide_eq_true att14_0_1; obtain ⟨ad399, e399, hx399_0⟩ := Kd.at_bool (Kd.R_reads' HO_6.out).2.2 x69_3 p399 q399; (try rw [← Nbq59.out] at hx399_0); cases e399; have hn399_0 : ad399.block ≠ gb398 := Kd.own_blk (Kd.R_ne HO_6.out BK398.out (by decide)); have hn399_1 : ad399.block ≠ gb398 := Kd.own_blk (Kd.R_ne HO_6.out BK398.out (by decide)); have hn399_2 : ad399.block ≠ gb398 := Kd.own_blk (Kd.R_ne HO_6.out BK398.out (by decide)); have hn399_3 : ad399.block ≠ gb398 := Kd.own_blk (Kd.R_ne HO_6.out BK398.out (by decide)); have hn399_4 : ad399.block ≠ gb398 := Kd.own_blk (Kd.R_ne HO_6.out BK398.out (by decide)); replace hx399_0 := (cell_far (p := ⟨gb398, 0, none⟩) (by first | (rw [add_block]; exact hn399_0) | (show (Addr.add _ _).block ≠ _; rw [add_block]; exact hn399_0) | exact hn399_0) (.int .i64 ((rd_T63 x3_1 x69_3).f0))).trans hx399_0; replace hx399_0 := (cell_far (p := ⟨gb398, 1, none⟩) (by first | (rw [add_block]; exact hn399_1) | (show (Addr.add _ _).block ≠ _; rw [add_block]; exact hn399_1) | exact hn399_1) (.int .i64 ((rd_T63 x3_1 x69_3).f1))).trans hx399_0; replace hx399_0 := (cell_far (p := ⟨gb398, 2, none⟩) (by first | (rw [add_block]; exact hn399_2) | (show (Addr.add _ _).block ≠ _; rw [add_block]; exact hn399_2) | exact hn399_2) (.int .i64 ((rd_T63 x3_1 x69_3).f2))).trans hx399_0; replace hx399_0 := (cell_far (p := ⟨gb398, 3, none⟩) (by first | (rw [add_block]; exact hn399_3) | (show (Addr.add _ _).block ≠ _; rw [add_block]; exact hn399_3) | exact hn399_3) (.int .i64 ((rd_T63 x3_1 x69_3).f3))).trans hx399_0; replace hx399_0 := (cell_far (p := ⟨gb398, 4, none⟩) (by first | (rw [add_block]; exact hn399_4) | (show (Addr.add _ _).block ≠ _; rw [add_block]; exact hn399_4) | exact hn399_4) (.int .i64 ((rd_T63 x3_1 x69_3).f4))).trans hx399_0; clear hn399_0; clear hn399_1; clear hn399_2; clear hn399_3; clear hn399_4; replace p399 := eq_true p399; replace q399 := eq_true q399))
                    have B5_ := blk5i_ (.int .i64 ((rd_T63 x3_1 x69_3).f0)) (.int .i64 ((rd_T63 x3_1 x69_3).f1)) (.int .i64 ((rd_T63 x3_1 x69_3).f2)) (.int .i64 ((rd_T63 x3_1 x69_3).f3)) (.int .i64 ((rd_T63 x3_1 x69_3).f4)) BK398.out
                    obtain ⟨wz398_, hW5_⟩ : ∃ W_, W_ = (((((w80.setCell ⟨gb398, 0, none⟩ (.int .i64 ((rd_T63 x3_1 x69_3).f0))).setCell ⟨gb398, 1, none⟩ (.int .i64 ((rd_T63 x3_1 x69_3).f1))).setCell ⟨gb398, 2, none⟩ (.int .i64 ((rd_T63 x3_1 x69_3).f2))).setCell ⟨gb398, 3, none⟩ (.int .i64 ((rd_T63 x3_1 x69_3).f3))).setCell ⟨gb398, 4, none⟩ (.int .i64 ((rd_T63 x3_1 x69_3).f4))) := ⟨_, rfl⟩
                    have n_HO_6 := Aside0.mk (far5i_ (g := gb398) (a0 := (.int .i64 ((rd_T63 x3_1 x69_3).f0))) (a1 := (.int .i64 ((rd_T63 x3_1 x69_3).f1))) (a2 := (.int .i64 ((rd_T63 x3_1 x69_3).f2))) (a3 := (.int .i64 ((rd_T63 x3_1 x69_3).f3))) (a4 := (.int .i64 ((rd_T63 x3_1 x69_3).f4))) (Kd.R_types HO_6.out BK398.out (by decide)))
                    have n_HO_7 := Aside0.mk (far5i_ (g := gb398) (a0 := (.int .i64 ((rd_T63 x3_1 x69_3).f0))) (a1 := (.int .i64 ((rd_T63 x3_1 x69_3).f1))) (a2 := (.int .i64 ((rd_T63 x3_1 x69_3).f2))) (a3 := (.int .i64 ((rd_T63 x3_1 x69_3).f3))) (a4 := (.int .i64 ((rd_T63 x3_1 x69_3).f4))) (Kd.R_types HO_7.out BK398.out (by decide)))
                    have n_HO_10 := Aside0.mk (far5i_ (g := gb398) (a0 := (.int .i64 ((rd_T63 x3_1 x69_3).f0))) (a1 := (.int .i64 ((rd_T63 x3_1 x69_3).f1))) (a2 := (.int .i64 ((rd_T63 x3_1 x69_3).f2))) (a3 := (.int .i64 ((rd_T63 x3_1 x69_3).f3))) (a4 := (.int .i64 ((rd_T63 x3_1 x69_3).f4))) (Kd.R_mono HO_10.out (fun k_ hk => (⟨hk, hk.2⟩ : _ ∧ k_ ≠ gb398))))
                    have n_HO_67 := Aside0.mk (far5i_ (g := gb398) (a0 := (.int .i64 ((rd_T63 x3_1 x69_3).f0))) (a1 := (.int .i64 ((rd_T63 x3_1 x69_3).f1))) (a2 := (.int .i64 ((rd_T63 x3_1 x69_3).f2))) (a3 := (.int .i64 ((rd_T63 x3_1 x69_3).f3))) (a4 := (.int .i64 ((rd_T63 x3_1 x69_3).f4))) (Kd.R_mono HO_67.out (fun k_ hk => (⟨hk, hk.2⟩ : _ ∧ k_ ≠ gb398))))
                    have n_HB := Aside0.mk (below5i_ (a0 := (.int .i64 ((rd_T63 x3_1 x69_3).f0))) (a1 := (.int .i64 ((rd_T63 x3_1 x69_3).f1))) (a2 := (.int .i64 ((rd_T63 x3_1 x69_3).f2))) (a3 := (.int .i64 ((rd_T63 x3_1 x69_3).f3))) (a4 := (.int .i64 ((rd_T63 x3_1 x69_3).f4))) HB.out GE398.out)
                    rw [← hW5_] at B5_ hx399_0 n_HO_6 n_HO_7 n_HO_10 n_HO_67 n_HB ⊢
                    clear hW5_ hcz81_0 hcz81_1 hcz81_2 hcz81_3 hcz81_4 hfz81_0 hfz81_1 hfz81_2 hfz81_3 hfz81_4 HO_6 HO_7 HO_10 HO_67 HB BK398
                    have HO_6 := n_HO_6
                    have HO_7 := n_HO_7
                    have HO_10 := n_HO_10
                    have HO_67 := n_HO_67
                    have HB := n_HB
                    have BK398 := Aside0.mk B5_
                    clear B5_ n_HO_6 n_HO_7 n_HO_10 n_HO_67 n_HB
                    have hcz81_0 : wz398_.cell? ⟨gb398, 0, none⟩ = some (.int .i64 ((rd_T63 x3_1 x69_3).f0)) := (blk_cell BK398.out 0).trans rfl
                    have hfz81_0 := blk_frozen BK398.out 0
                    have hcz81_1 : wz398_.cell? ⟨gb398, 1, none⟩ = some (.int .i64 ((rd_T63 x3_1 x69_3).f1)) := (blk_cell BK398.out 1).trans rfl
                    have hfz81_1 := blk_frozen BK398.out 1
                    have hcz81_2 : wz398_.cell? ⟨gb398, 2, none⟩ = some (.int .i64 ((rd_T63 x3_1 x69_3).f2)) := (blk_cell BK398.out 2).trans rfl
                    have hfz81_2 := blk_frozen BK398.out 2
                    have hcz81_3 : wz398_.cell? ⟨gb398, 3, none⟩ = some (.int .i64 ((rd_T63 x3_1 x69_3).f3)) := (blk_cell BK398.out 3).trans rfl
                    have hfz81_3 := blk_frozen BK398.out 3
                    have hcz81_4 : wz398_.cell? ⟨gb398, 4, none⟩ = some (.int .i64 ((rd_T63 x3_1 x69_3).f4)) := (blk_cell BK398.out 4).trans rfl
                    have hfz81_4 := blk_frozen BK398.out 4
                    go_wp2_with (first | ((with_reducible refine gate_builtin (b := .append) (xs := #[.tmp 93, .tmp 95]) rfl ?_); at_builtin; refine Kd.R_append k63 (w0 := w) w.heap.size rfl (.tmp 93) (.tmp 95) 24 63 (.agg #[(.int .i64 0), (.int .i64 0), (.int .i64 0), (.int .i64 0), (.int .i64 0)]) 40 rfl Try.underlying24 info63 rfl (by decide) (by omega) u10 x10_3 (⟨(rd_T63 x3_1 x69_3).f0, (rd_T63 x3_1 x69_3).f1, (rd_T63 x3_1 x69_3).f2, (rd_T63 x3_1 x69_3).f3, (rd_T63 x3_1 x69_3).f4⟩ : S63) [.int .i64 ((rd_T63 x3_1 x69_3).f0), .int .i64 ((rd_T63 x3_1 x69_3).f1), .int .i64 ((rd_T63 x3_1 x69_3).f2), .int .i64 ((rd_T63 x3_1 x69_3).f3), .int .i64 ((rd_T63 x3_1 x69_3).f4)] (fun k_ => some k_ ≠ (.slice (some ad397) x3_1.length co35 : Value).ownBlock ∧ k_ ≠ gb398) (fun _ => False) rfl att14_0_28 ?aP (fun _ hk => hk.elim) ?aF ?aO ?aB ?aS ?aL ?_; (case aP => exact k63_mkM _ _ _ (⟨(rd_T63 x3_1 x69_3).f0, (rd_T63 x3_1 x69_3).f1, (rd_T63 x3_1 x69_3).f2, (rd_T63 x3_1 x69_3).f3, (rd_T63 x3_1 x69_3).f4⟩ : S63)); (case aB => exact att14_0_2); (case aF => exact (fun k_ hk => ⟨Kd.fresh' (Kd.R_lt (by (with_reducible repeat (first | apply Kd.R_alloc | apply Kd.R_drewN | apply Kd.R_drew)); exact (Kd.R_mono (Kd.R_mono HO_67.out (fun k_ hk => (⟨hk, hk.2⟩ : _ ∧ k_ ≠ gb398))) (fun _ h_ => h_.1)))) k_ hk, Kd.freshB (g := gb398) (o := .cells #[.int .i64 ((rd_T63 x3_1 x69_3).f0), .int .i64 ((rd_T63 x3_1 x69_3).f1), .int .i64 ((rd_T63 x3_1 x69_3).f2), .int .i64 ((rd_T63 x3_1 x69_3).f3), .int .i64 ((rd_T63 x3_1 x69_3).f4)] 63 (0, 0)) att14_0_25 k_ hk⟩)); (case aO => exact (by (with_reducible repeat (first | apply Kd.R_alloc | apply Kd.R_drewN | apply Kd.R_drew)); exact Kd.R_mono (Kd.R_mono HO_10.out (fun k_ hk => (⟨hk, hk.2⟩ : _ ∧ k_ ≠ gb398))) (fun _ hk => ⟨hk.1.1, hk.1.2⟩))); (case aS => exact (below_size att14_0_2)); (case aL => have := LMc79.out; omega); intro v409 w83 ho hb hg hat; rw [← Ny408.out] at ho; have n0_ := Aside0.mk (Kd.R_over' (by (with_reducible repeat (first | apply Kd.R_alloc | apply Kd.R_drewN | apply Kd.R_drew)); exact (Kd.R_mono (Kd.R_types HO_6.out BK398.out (by decide)) (fun _ h_ => h_.1))) (Kd.R_typed att14_0_22) (by decide) hg); have n1_ := Aside0.mk (Kd.R_over' (by (with_reducible repeat (first | apply Kd.R_alloc | apply Kd.R_drewN | apply Kd.R_drew)); exact (Kd.R_mono (Kd.R_types HO_7.out BK398.out (by decide)) (fun _ h_ => h_.1))) (Kd.R_typed att14_0_22) (by decide) hg); have n2_ := Aside0.mk (Kd.R_after (ok := (fun k_ => k_ ≠ gb398)) (by (with_reducible repeat (first | apply Kd.R_alloc | apply Kd.R_drewN | apply Kd.R_drew)); exact Kd.R_mono (Kd.R_mono HO_67.out (fun k_ hk => (⟨hk, hk.2⟩ : _ ∧ k_ ≠ gb398))) (fun _ hk => ⟨hk.1.2, hk.1.1⟩)) hg hat); have n3_ := Aside0.mk (blk_grown (g := gb398) (o := .cells #[.int .i64 ((rd_T63 x3_1 x69_3).f0), .int .i64 ((rd_T63 x3_1 x69_3).f1), .int .i64 ((rd_T63 x3_1 x69_3).f2), .int .i64 ((rd_T63 x3_1 x69_3).f3), .int .i64 ((rd_T63 x3_1 x69_3).f4)] 63 (0, 0)) att14_0_25 hg (Kd.R_away HO_10.out (fun _ hk => hk.2))); have n4_ := Aside0.mk (hb); have n5_ := Aside0.mk (ho); clear HO_6; clear HO_7; clear HO_67; clear BK398; clear HB; clear HO_10; have HO_6 := n0_; have HO_7 := n1_; have HO_67 := n2_; have BK398 := n3_; have HB := n4_; have HO410 := n5_; clear n0_ n1_ n2_ n3_ n4_ n5_; clear ho hb hg hat))
                    go_roundg k3
                    case measure => have := HK1.out; have := HK2.out; have := HK3.out; omega
                    case rel => exact ⟨(y408), (wrap64 (x69_3 + 1)), att14_0_12, H', ⟨att14_0_23⟩, ⟨att14_0_6⟩, ⟨att14_0_7⟩, ⟨by (with_reducible repeat (first | apply Kd.R_alloc | apply Kd.R_drewN | apply Kd.R_drew)); exact Kd.R_mono HO410.out (fun _ hk => hk.1)⟩, ⟨att14_0_20⟩, ⟨att14_0_2⟩⟩
                   ·rw [if_neg c79] at H
                    exact absurd H (by simp)
                ·replace c60 := Bool.eq_false_iff.mpr c60
                 subst c60
                 rw [if_neg (show ¬ (false = true) by decide)] at H
                 have H' := Aside0.mk H
                 clear H
                 have p397 : 0 ≤ (x69_3 : Int) := of_decide_eq_true att14_0_1
                 have q397 : x69_3 < (x3_1.length : Int) := of_decide_eq_true att14_0_1
                 obtain ⟨ad397, e397, hx397_0, hx397_1, hx397_2, hx397_3, hx397_4⟩ := at_T63 (Kd.R_reads' HO_67.out).2.2 x69_3 p397 q397
                 cases e397
                 replace p397 := eq_true p397
                 replace q397 := eq_true q397
                 go_wp2_with (first | ((with_reducible refine gate_dst (N := 12) rfl ?_); refine box_event ?hg (N := 12) ?hd (cs := #[.int .i64 0, .int .i64 0, .int .i64 0, .int .i64 0, .int .i64 0]) (t := 63) ?hr ?_; (case hd => rfl); (case hg => rfl); (case hr => first | (go_simp; done) | (go_simp; rfl)); intro gb398 hg w84 hbox hb; have n0_ := Aside0.mk (Kd.R_below att14_0_6 hb); have n1_ := Aside0.mk (Kd.R_below att14_0_7 hb); have n2_ := Aside0.mk (Kd.R_below (Kd.R_elderB att14_0_14 gb398 (Nat.le_of_eq hg.symm)) hb); have n3_ := Aside0.mk (Kd.R_below (Kd.R_elderB att14_0_13 gb398 (Nat.le_of_eq hg.symm)) hb); have n4_ := Aside0.mk (below_step att14_0_0 hb); have n5_ := Aside0.mk (hbox); have n6_ := Aside0.mk ((by rw [hg]; exact (below_size att14_0_0) : w.heap.size ≤ gb398)); have n7_ := Aside0.mk ((by rw [hg]; exact (below_size att14_0_0) : w.heap.size ≤ gb398)); clear HO_6; clear HO_7; clear HO_10; clear HO_67; clear HB; have HO_6 := n0_; have HO_7 := n1_; have HO_10 := n2_; have HO_67 := n3_; have HB := n4_; have BK398 := n5_; have GW398 := n6_; have GE398 := n7_; clear n0_ n1_ n2_ n3_ n4_ n5_ n6_ n7_; clear hb hbox hg; have hcz85_0 : w84.cell? ⟨gb398, 0, none⟩ = some (.int .i64 0) := (blk_cell BK398.out 0).trans rfl; have hcz85_1 : w84.cell? ⟨gb398, 1, none⟩ = some (.int .i64 0) := (blk_cell BK398.out 1).trans rfl; have hcz85_2 : w84.cell? ⟨gb398, 2, none⟩ = some (.int .i64 0) := (blk_cell BK398.out 2).trans rfl; have hcz85_3 : w84.cell? ⟨gb398, 3, none⟩ = some (.int .i64 0) := (blk_cell BK398.out 3).trans rfl; have hcz85_4 : w84.cell? ⟨gb398, 4, none⟩ = some (.int .i64 0) := (blk_cell BK398.out 4).trans rfl; have hfz85_0 := blk_frozen BK398.out 0; have hfz85_1 := blk_frozen BK398.out 1; have hfz85_2 := blk_frozen BK398.out 2; have hfz85_3 := blk_frozen BK398.out 3; have hfz85_4 := blk_frozen BK398.out 4; obtain ⟨Ao86, co86, eo86⟩ := Kd.R_slice HO_6.out; subst eo86; have p399 : 0 ≤ (x69_3 : Int) := of_decide_eq_true att14_0_1; have q399 : x69_3 < (t386.length : Int) := of_decide_eq_true att14_0_1; obtain ⟨ad399, e399, hx399_0⟩ := Kd.at_bool (Kd.R_reads' HO_6.out).2.2 x69_3 p399 q399; (try rw [← Nbq59.out] at hx399_0); cases e399; have hn399_0 : ad399.block ≠ gb398 := Kd.own_blk (Kd.R_ne HO_6.out BK398.out (by decide)); have hn399_1 : ad399.block ≠ gb398 := Kd.own_blk (Kd.R_ne HO_6.out BK398.out (by decide)); have hn399_2 : ad399.block ≠ gb398 := Kd.own_blk (Kd.R_ne HO_6.out BK398.out (by decide)); have hn399_3 : ad399.block ≠ gb398 := Kd.own_blk (Kd.R_ne HO_6.out BK398.out (by decide)); have hn399_4 : ad399.block ≠ gb398 := Kd.own_blk (Kd.R_ne HO_6.out BK398.out (by decide)); replace hx399_0 := (cell_far (p := ⟨gb398, 0, none⟩) (by first | (rw [add_block]; exact hn399_0) | (show (Addr.add _ _).block ≠ _; rw [add_block]; exact hn399_0) | exact hn399_0) (.int .i64 ((rd_T63 x3_1 x69_3).f0))).trans hx399_0; replace hx399_0 := (cell_far (p := ⟨gb398, 1, none⟩) (by first | (rw [add_block]; exact hn399_1) | (show (Addr.add _ _).block ≠ _; rw [add_block]; exact hn399_1) | exact hn399_1) (.int .i64 ((rd_T63 x3_1 x69_3).f1))).trans hx399_0; replace hx399_0 := (cell_far (p := ⟨gb398, 2, none⟩) (by first | (rw [add_block]; exact hn399_2) | (show (Addr.add _ _).block ≠ _; rw [add_block]; exact hn399_2) | exact hn399_2) (.int .i64 ((rd_T63 x3_1 x69_3).f2))).trans hx399_0; replace hx399_0 := (cell_far (p := ⟨gb398, 3, none⟩) (by first | (rw [add_block]; exact hn399_3) | (show (Addr.add _ _).block ≠ _; rw [add_block]; exact hn399_3) | exact hn399_3) (.int .i64 ((rd_T63 x3_1 x69_3).f3))).trans hx399_0; replace hx399_0 := (cell_far (p := ⟨gb398, 4, none⟩) (by first | (rw [add_block]; exact hn399_4) | (show (Addr.add _ _).block ≠ _; rw [add_block]; exact hn399_4) | exact hn399_4) (.int .i64 ((rd_T63 x3_1 x69_3).f4))).trans hx399_0; clear hn399_0; clear hn399_1; clear hn399_2; clear hn399_3; clear hn399_4; replace p399 := eq_true p399; replace q399 := eq_true q399))
                 go_roundg k3
                 case measure => have := HK1.out; have := HK2.out; have := HK3.out; omega
                 case rel => exact ⟨(x10_3), (wrap64 (x69_3 + 1)), att14_0_12, H', ⟨att14_0_23⟩, ⟨by (with_reducible repeat (first | apply Kd.R_alloc | apply Kd.R_drewN | apply Kd.R_drew)); exact Kd.R_mono (Kd.R_far (p := ⟨gb398, 4, none⟩) (Kd.R_far (p := ⟨gb398, 3, none⟩) (Kd.R_far (p := ⟨gb398, 2, none⟩) (Kd.R_far (p := ⟨gb398, 1, none⟩) (Kd.R_far (p := ⟨gb398, 0, none⟩) (Kd.R_types HO_6.out BK398.out (by decide)) (fun _ hk => hk.2) (.int .i64 ((rd_T63 x3_1 x69_3).f0))) (fun _ hk => hk.2) (.int .i64 ((rd_T63 x3_1 x69_3).f1))) (fun _ hk => hk.2) (.int .i64 ((rd_T63 x3_1 x69_3).f2))) (fun _ hk => hk.2) (.int .i64 ((rd_T63 x3_1 x69_3).f3))) (fun _ hk => hk.2) (.int .i64 ((rd_T63 x3_1 x69_3).f4))) (fun _ hk => trivial)⟩, ⟨by (with_reducible repeat (first | apply Kd.R_alloc | apply Kd.R_drewN | apply Kd.R_drew)); exact Kd.R_mono (Kd.R_far (p := ⟨gb398, 4, none⟩) (Kd.R_far (p := ⟨gb398, 3, none⟩) (Kd.R_far (p := ⟨gb398, 2, none⟩) (Kd.R_far (p := ⟨gb398, 1, none⟩) (Kd.R_far (p := ⟨gb398, 0, none⟩) (Kd.R_types HO_7.out BK398.out (by decide)) (fun _ hk => hk.2) (.int .i64 ((rd_T63 x3_1 x69_3).f0))) (fun _ hk => hk.2) (.int .i64 ((rd_T63 x3_1 x69_3).f1))) (fun _ hk => hk.2) (.int .i64 ((rd_T63 x3_1 x69_3).f2))) (fun _ hk => hk.2) (.int .i64 ((rd_T63 x3_1 x69_3).f3))) (fun _ hk => hk.2) (.int .i64 ((rd_T63 x3_1 x69_3).f4))) (fun _ hk => trivial)⟩, ⟨by (with_reducible repeat (first | apply Kd.R_alloc | apply Kd.R_drewN | apply Kd.R_drew)); exact Kd.R_mono (Kd.R_far (p := ⟨gb398, 4, none⟩) (Kd.R_far (p := ⟨gb398, 3, none⟩) (Kd.R_far (p := ⟨gb398, 2, none⟩) (Kd.R_far (p := ⟨gb398, 1, none⟩) (Kd.R_far (p := ⟨gb398, 0, none⟩) (Kd.R_mono HO_10.out (fun k_ hk => (⟨hk, hk.2⟩ : _ ∧ k_ ≠ gb398))) (fun _ hk => hk.2) (.int .i64 ((rd_T63 x3_1 x69_3).f0))) (fun _ hk => hk.2) (.int .i64 ((rd_T63 x3_1 x69_3).f1))) (fun _ hk => hk.2) (.int .i64 ((rd_T63 x3_1 x69_3).f2))) (fun _ hk => hk.2) (.int .i64 ((rd_T63 x3_1 x69_3).f3))) (fun _ hk => hk.2) (.int .i64 ((rd_T63 x3_1 x69_3).f4))) (fun _ hk => hk.1.1)⟩, ⟨by (with_reducible repeat (first | apply Kd.R_alloc | apply Kd.R_drewN | apply Kd.R_drew)); exact Kd.R_mono (Kd.R_far (p := ⟨gb398, 4, none⟩) (Kd.R_far (p := ⟨gb398, 3, none⟩) (Kd.R_far (p := ⟨gb398, 2, none⟩) (Kd.R_far (p := ⟨gb398, 1, none⟩) (Kd.R_far (p := ⟨gb398, 0, none⟩) (Kd.R_mono HO_67.out (fun k_ hk => (⟨hk, hk.2⟩ : _ ∧ k_ ≠ gb398))) (fun _ hk => hk.2) (.int .i64 ((rd_T63 x3_1 x69_3).f0))) (fun _ hk => hk.2) (.int .i64 ((rd_T63 x3_1 x69_3).f1))) (fun _ hk => hk.2) (.int .i64 ((rd_T63 x3_1 x69_3).f2))) (fun _ hk => hk.2) (.int .i64 ((rd_T63 x3_1 x69_3).f3))) (fun _ hk => hk.2) (.int .i64 ((rd_T63 x3_1 x69_3).f4))) (fun _ hk => hk.1.1)⟩, ⟨att14_0_2⟩⟩
               ·rw [if_neg c58] at H
                exact absurd H (by simp)
              ·rw [if_neg c57] at H
               exact absurd H (by simp)
             ·rw [if_neg c56] at H
              exact absurd H (by simp)
            ·rw [if_neg c55] at H
             have c55b0 : decide (x69_3 < (x3_1.length : Int)) = false := decide_eq_false c55
             clear c55
             obtain rfl := Option.some.inj H
             go_wp2
             go_ret
             exact ⟨_, by first | rfl | (simp [errW_none, errW_some] <;> rfl) | (simp [*, errW_none, errW_some] <;> rfl), by (with_reducible repeat (first | apply Kd.R_alloc | apply Kd.R_drewN | apply Kd.R_drew)); exact Kd.R_mono HO_10.out (fun _ hk => trivial), att14_0_0⟩
      ·rw [if_neg c32] at H
       exact absurd H (by simp)
     ·rw [if_neg c31] at H
      exact absurd H (by simp)
 ·replace c3 := Bool.eq_false_iff.mpr c3
  subst c3
  rw [if_neg (show ¬ (false = true) by decide)] at H
  replace H := Option.bind_eq_some_iff.mp H
  obtain ⟨t371, A870, H⟩ := H
  (try dsimp only at H)
  have A87 := Aside0.mk A870
  clear A870
  obtain rfl := Option.some.inj H
  go_enter Try.func15, Try.ntmps15
  go_wp2_with (first | ((with_reducible refine gate_callee (f := 34) rfl ?_); refine goesL_ (some 14) rfl rfl Try.func34 (by kernel_rfl) rfl #[.slice A0 l0.length c0, .int .i64 3] rfl att14_0_10 ?_; (with_reducible refine (impl_BodyOk.calls k _ _ l0 3 false _ ?side1 ?side2 A2.out).mono ?_); (case side1 => repeat (first | exact HR0.out | (with_reducible refine Kd.C_alloc ?_ _) | (with_reducible refine Kd.C_drewN ?_ _) | (with_reducible refine Kd.C_drew ?_))); (case side2 => exact HC0.out); rintro e w88 ⟨rfl, hb⟩; refine ⟨_, rfl, ?_⟩; have n0_ := Aside0.mk (below_step att14_0_0 hb); clear HB; have HB := n0_; clear n0_; (try clear hb); (try clear hb2); (try clear hk); (try clear hi)) | ((with_reducible refine gate_callee (f := 66) rfl ?_); refine goesL_ (some 17) rfl rfl Try.func66 (by kernel_rfl) rfl #[.slice A0 l0.length c0] rfl att14_0_10 ?_; (with_reducible refine (impl_copyBody.calls _ _ l0 t371 _ ?side1 ?side2 A87.out).mono ?_); (case side1 => repeat (first | exact (Kd.C_below HR0.out HB.out) | (with_reducible refine Kd.C_alloc ?_ _) | (with_reducible refine Kd.C_drewN ?_ _) | (with_reducible refine Kd.C_drew ?_))); (case side2 => exact HC0.out); rintro e w89 ⟨v372, rfl, ho0, hb⟩; refine ⟨_, rfl, ?_⟩; have n0_ := Aside0.mk (Kd.R_lower ho0 (below_size att14_0_0)); have n1_ := Aside0.mk (below_step att14_0_0 hb); clear HB; have HO373 := n0_; have HB := n1_; clear n0_ n1_; (try clear hb); (try clear hb2); (try clear hk); (try clear hi); (try clear ho0)))
  go_ret
  exact ⟨_, by first | rfl | (simp [errW_none, errW_some] <;> rfl) | (simp [*, errW_none, errW_some] <;> rfl), by (with_reducible repeat (first | apply Kd.R_alloc | apply Kd.R_drewN | apply Kd.R_drew)); exact HO373.out, att14_0_0⟩

end Go.Proofs.Ytocimkpafakiaaa.XFnExactPackProg
