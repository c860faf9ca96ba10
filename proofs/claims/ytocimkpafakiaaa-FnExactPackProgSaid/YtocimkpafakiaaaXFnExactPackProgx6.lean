/- Each Go function that the law reaches as a Lean function, and that Go comes to just its answer; written by this session's xprint.py over the kit's printer. -/
import Derived.Test.YtocimkpafakiaaaXFnExactPackProgx0
import Derived.Test.YtocimkpafakiaaaXFnExactPackProgx4
import Derived.Test.YtocimkpafakiaaaXFnExactPackProgx5
namespace Go.Proofs.Ytocimkpafakiaaa.XFnExactPackProg
open Go.RowKit Go.Proofs.YtocimkpafakiaaaW.PrintWords Go.Proofs.YtocimkpafakiaaaW.PrintLast Go.Proofs.YtocimkpafakiaaaW.PrintMore
attribute [local go_sem] max2_int min2_int max_two min_two max_three min_three max_four min_four   -- for this text's walks alone
set_option linter.unusedVariables false
set_option linter.unusedSimpArgs false

theorem att7_0_0 {p : Prop} (h : p := by repeat (first | (with_reducible first | exact HB.out | apply below_alloc | apply pw_below_drewN | apply below_drew1) | exact HB.out)) : p := h
theorem att7_0_1 {p : Prop} (h : p := by first | (with_reducible assumption) | assumption) : p := h
theorem att7_0_2 {p : Prop} (h : p := by (with_reducible repeat (first | apply Kd.R_alloc | apply Kd.R_drewN | apply Kd.R_drew)); exact HO_3.out) : p := h
theorem att7_0_3 {p : Prop} (h : p := by (with_reducible repeat (first | refine blk_drewN ?_ _ | refine blk_drew ?_ | refine blk_alloc ?_ _)); refine blk_put (cs := #[.int .i64 ((rd_T63 x3_1 (rd t212 x9_3)).f0), .int .i64 ((rd_T63 x3_1 (rd t212 x9_3)).f1), .int .i64 ((rd_T63 x3_1 (rd t212 x9_3)).f2), .int .i64 ((rd_T63 x3_1 (rd t212 x9_3)).f3), .int .i64 ((rd_T63 x3_1 (rd t212 x9_3)).f4)]) ?_ 4 _ rfl; (with_reducible repeat (first | refine blk_drewN ?_ _ | refine blk_drew ?_ | refine blk_alloc ?_ _)); exact BK225.out) : p := h
theorem att7_0_4 {p : Prop} (h : p := by repeat (first | (with_reducible first | exact HB.out | apply below_alloc | apply pw_below_drewN | apply below_drew1 | refine below_set ?_ GE225.out) | exact HB.out)) : p := h
theorem att7_0_5 {p : Prop} (h : p := by (with_reducible repeat (first | apply Kd.R_alloc | apply Kd.R_drewN | apply Kd.R_drew)); exact (Kd.R_mono (Kd.R_far (p := ⟨gb225, 4, none⟩) (Kd.R_mono HO_8.out (fun k_ hk => (⟨hk, hk.2⟩ : _ ∧ k_ ≠ gb225))) (fun _ hk => hk.2) (.int .i64 (rd x6_2 ((rd_T63 x3_1 (rd t212 x9_3)).f4)))) (fun _ h_ => h_.1))) : p := h
theorem att7_0_6 {p : Prop} (h : p := by (with_reducible repeat (first | apply Kd.R_alloc | apply Kd.R_drewN | apply Kd.R_drew)); exact HO_6.out) : p := h
theorem att7_0_7 {p : Prop} (h : p := by (with_reducible repeat (first | apply Kd.R_alloc | apply Kd.R_drewN | apply Kd.R_drew)); exact HO_5.out) : p := h
theorem att7_0_8 {p : Prop} (h : p := by (try simp only [List.map_toArray, List.map_cons, List.map_nil]); first | done | rfl | (simp only [List.length_drop, List.length_take]; rfl)) : p := h
theorem att7_0_9 {p : Prop} (h : p := by (with_reducible repeat (first | apply Kd.R_alloc | apply Kd.R_drewN | apply Kd.R_drew)); exact Kd.R_mono HO_3.out (fun _ hk => hk.2)) : p := h
theorem att7_0_10 {p : Prop} (h : p := by first | rfl | (simp; done) | (simp [*]; done)) : p := h
theorem att7_0_11 {p : Prop} (h : p := by (with_reducible repeat (first | apply Kd.R_alloc | apply Kd.R_drewN | apply Kd.R_drew)); exact Kd.R_mono (Kd.R_far (p := ⟨gb225, 4, none⟩) (Kd.R_mono HO_8.out (fun k_ hk => (⟨hk, hk.2⟩ : _ ∧ k_ ≠ gb225))) (fun _ hk => hk.2) (.int .i64 (rd x6_2 ((rd_T63 x3_1 (rd t212 x9_3)).f4)))) (fun _ hk => ⟨hk.1.1, hk.1.2⟩)) : p := h
theorem att7_0_12 {p : Prop} (h : p := by (with_reducible repeat (first | apply Kd.R_alloc | apply Kd.R_drewN | apply Kd.R_drew)); exact Kd.R_mono (Kd.R_far (p := ⟨gb225, 4, none⟩) (Kd.R_mono HO_3.out (fun k_ hk => (⟨hk, hk.2⟩ : _ ∧ k_ ≠ gb225))) (fun _ hk => hk.2) (.int .i64 (rd x6_2 ((rd_T63 x3_1 (rd t212 x9_3)).f4)))) (fun _ hk => ⟨hk.1.2, hk.1.1⟩)) : p := h
theorem att7_0_13 {p : Prop} (h : p := by (with_reducible repeat (first | apply Kd.R_alloc | apply Kd.R_drewN | apply Kd.R_drew)); exact (Kd.R_mono (Kd.R_far (p := ⟨gb225, 4, none⟩) (Kd.R_mono HO_3.out (fun k_ hk => (⟨hk, hk.2⟩ : _ ∧ k_ ≠ gb225))) (fun _ hk => hk.2) (.int .i64 (rd x6_2 ((rd_T63 x3_1 (rd t212 x9_3)).f4)))) (fun _ h_ => h_.1))) : p := h
theorem att7_0_14 {p : Prop} (h : p := by (with_reducible repeat (first | apply Kd.R_alloc | apply Kd.R_drewN | apply Kd.R_drew)); exact (Kd.R_mono (Kd.R_far (p := ⟨gb225, 4, none⟩) (Kd.R_types HO_6.out BK225.out (by decide)) (fun _ hk => hk.2) (.int .i64 (rd x6_2 ((rd_T63 x3_1 (rd t212 x9_3)).f4)))) (fun _ h_ => h_.1))) : p := h
theorem att7_0_15 {p : Prop} (h : p := by (with_reducible repeat (first | apply Kd.R_alloc | apply Kd.R_drewN | apply Kd.R_drew)); exact (Kd.R_mono (Kd.R_far (p := ⟨gb225, 4, none⟩) (Kd.R_types HO_5.out BK225.out (by decide)) (fun _ hk => hk.2) (.int .i64 (rd x6_2 ((rd_T63 x3_1 (rd t212 x9_3)).f4)))) (fun _ h_ => h_.1))) : p := h
theorem att7_0_16 {p : Prop} (h : p := by (with_reducible repeat (first | apply Kd.R_alloc | apply Kd.R_drewN | apply Kd.R_drew)); exact HO202.out) : p := h
theorem att7_0_17 {p : Prop} (h : p := by (with_reducible repeat (first | apply Kd.R_alloc | apply Kd.R_drewN | apply Kd.R_drew)); exact HO_8.out) : p := h
theorem att7_0_18 {p : Prop} (h : p := by (with_reducible repeat (first | apply Kd.R_alloc | apply Kd.R_drewN | apply Kd.R_drew)); exact (Kd.R_mono (Kd.R_mono HO_8.out (fun k_ hk => (⟨hk, hk.2⟩ : _ ∧ k_ ≠ gb225))) (fun _ h_ => h_.1))) : p := h
theorem att7_0_19 {p : Prop} (h : p := by (with_reducible repeat (first | refine blk_drewN ?_ _ | refine blk_drew ?_ | refine blk_alloc ?_ _)); exact BK225.out) : p := h
theorem att7_0_20 {p : Prop} (h : p := by have := HK1.out; have := HK2.out; have := HK3.out; omega) : p := h
theorem att7_0_21 {p : Prop} (h : p := by (with_reducible repeat (first | apply Kd.R_alloc | apply Kd.R_drewN | apply Kd.R_drew)); exact HO214.out) : p := h
theorem att7_0_22 {p : Prop} (h : p := by (with_reducible repeat (first | apply Kd.R_alloc | apply Kd.R_drewN | apply Kd.R_drew)); exact HO199.out) : p := h
theorem att7_0_23 {p : Prop} (h : p := by first | (go_simp; done) | (go_simp; rfl)) : p := h
theorem att7_1_0 {p : Prop} (h : p := by have h_ : (x4_1 : Int) < ((x3_1.length : Int) : Int) := of_decide_eq_true att7_0_1; first | exact h_ | (have e_ := (Kd.R_reads' HO_3.out).1; omega) | simpa using h_) : p := h
/-! ### spec_PackBody: function 13 -/
theorem far5s_ {α : Type} {d : Kd α} {e b g : Nat} {ok : Nat → Prop} {v a0 a1 a2 a3 a4 : Value} {xs : List α} {W : World} (h : d.R e W b (fun k => ok k ∧ k ≠ g) v xs) : d.R e (((((W.setCell ⟨g, 0, none⟩ a0).setCell ⟨g, 1, none⟩ a1).setCell ⟨g, 2, none⟩ a2).setCell ⟨g, 3, none⟩ a3).setCell ⟨g, 4, none⟩ a4) b ok v xs :=
Kd.R_mono (Kd.R_far (p := ⟨g, 4, none⟩) (Kd.R_far (p := ⟨g, 3, none⟩) (Kd.R_far (p := ⟨g, 2, none⟩) (Kd.R_far (p := ⟨g, 1, none⟩) (Kd.R_far (p := ⟨g, 0, none⟩) h (fun _ hk => hk.2) a0) (fun _ hk => hk.2) a1) (fun _ hk => hk.2) a2) (fun _ hk => hk.2) a3) (fun _ hk => hk.2) a4) (fun _ h => h.1)
theorem below5s_ {g : Nat} {w W : World} {a0 a1 a2 a3 a4 : Value} (h : Below w.heap.size w W) (hg : w.heap.size ≤ g) : Below w.heap.size w (((((W.setCell ⟨g, 0, none⟩ a0).setCell ⟨g, 1, none⟩ a1).setCell ⟨g, 2, none⟩ a2).setCell ⟨g, 3, none⟩ a3).setCell ⟨g, 4, none⟩ a4) := below_set (below_set (below_set (below_set (below_set h hg) hg) hg) hg) hg
theorem blk5s_ {g t : Nat} {W : World} {z0 z1 z2 z3 z4 : Value} (a0 a1 a2 a3 a4 : Value) (h : W.heap[g]? = some (.cells #[z0, z1, z2, z3, z4] t (0, 0))) : (((((W.setCell ⟨g, 0, none⟩ a0).setCell ⟨g, 1, none⟩ a1).setCell ⟨g, 2, none⟩ a2).setCell ⟨g, 3, none⟩ a3).setCell ⟨g, 4, none⟩ a4).heap[g]? = some (.cells #[a0, a1, a2, a3, a4] t (0, 0)) :=
blk_put (cs := #[a0, a1, a2, a3, z4]) (blk_put (cs := #[a0, a1, a2, z3, z4]) (blk_put (cs := #[a0, a1, z2, z3, z4]) (blk_put (cs := #[a0, z1, z2, z3, z4]) (blk_put (cs := #[z0, z1, z2, z3, z4]) h 0 a0 rfl) 1 a1 rfl) 2 a2 rfl) 3 a3 rfl) 4 a4 rfl
mutual
def spec_PackBody.l0 : Nat → List (S63) → List (S63) → Int → Option ((List (S63)))
 | 0, _, _, _ => none
 | k + 1, x0, x3, x4 => if x4 < (x3.length : Int) then (if 0 ≤ x4 then (if ((rd_T63 x3 x4).f0) = 11 then (if x4 < (x0.length : Int) then ((spec_Skip.f k x0 ((rd_T63 x0 x4).f4)).bind fun t206 => (spec_PackBody.l0 k x0 (x3.set (x4 : Int).toNat (⟨(rd_T63 x3 x4).f0, (rd_T63 x3 x4).f1, (rd_T63 x3 x4).f2, (rd_T63 x3 x4).f3, t206⟩ : S63)) (wrap64 (x4 + 1)))) else (none)) else (if ((rd_T63 x3 x4).f0) = 12 then (if x4 < (x0.length : Int) then ((spec_Skip.f k x0 ((rd_T63 x0 x4).f4)).bind fun t210 => (spec_PackBody.l0 k x0 (x3.set (x4 : Int).toNat (⟨(rd_T63 x3 x4).f0, (rd_T63 x3 x4).f1, (rd_T63 x3 x4).f2, (rd_T63 x3 x4).f3, t210⟩ : S63)) (wrap64 (x4 + 1)))) else (none)) else (spec_PackBody.l0 k x0 x3 (wrap64 (x4 + 1))))) else (none)) else ((spec_ReachOf.f k x3 0).bind fun t212 => (if 0 ≤ (x3.length : Int) then (if ((x3.length : Int) : Int).toNat ≤ 35184372088832 then (spec_PackBody.l1 k x3 t212 (List.replicate ((x3.length : Int) : Int).toNat 0) 0) else (none)) else (none)))
def spec_PackBody.l1 : Nat → List (S63) → List Int → List Int → Int → Option ((List (S63)))
 | 0, _, _, _, _ => none
 | k + 1, x3, x5, x6, x7 => if x7 < (x5.length : Int) then (if 0 ≤ x7 then (if 0 ≤ (rd x5 x7) then (if (rd x5 x7) < (x6.length : Int) then (spec_PackBody.l1 k x3 x5 (x6.set ((rd x5 x7) : Int).toNat x7) (wrap64 (x7 + 1))) else (none)) else (none)) else (none)) else (spec_PackBody.l2 k x3 x5 x6 (([] : List (S63))) 0)
def spec_PackBody.l2 : Nat → List (S63) → List Int → List Int → List (S63) → Int → Option ((List (S63)))
 | 0, _, _, _, _, _ => none
 | k + 1, x3, x5, x6, x8, x9 => if x9 < (x5.length : Int) then (if 0 ≤ x9 then (if 0 ≤ (rd x5 x9) then (if (rd x5 x9) < (x3.length : Int) then (if ((rd_T63 x3 (rd x5 x9)).f0) = 11 then (if 0 ≤ ((rd_T63 x3 (rd x5 x9)).f4) then (if ((rd_T63 x3 (rd x5 x9)).f4) < (x6.length : Int) then (if x8.length < 3518437208883 then (spec_PackBody.l2 k x3 x5 x6 (x8 ++ [(⟨(rd_T63 x3 (rd x5 x9)).f0, (rd_T63 x3 (rd x5 x9)).f1, (rd_T63 x3 (rd x5 x9)).f2, (rd_T63 x3 (rd x5 x9)).f3, rd x6 ((rd_T63 x3 (rd x5 x9)).f4)⟩ : S63)]) (wrap64 (x9 + 1))) else (none)) else (none)) else (none)) else (if ((rd_T63 x3 (rd x5 x9)).f0) = 12 then (if 0 ≤ ((rd_T63 x3 (rd x5 x9)).f4) then (if ((rd_T63 x3 (rd x5 x9)).f4) < (x6.length : Int) then (if x8.length < 3518437208883 then (spec_PackBody.l2 k x3 x5 x6 (x8 ++ [(⟨(rd_T63 x3 (rd x5 x9)).f0, (rd_T63 x3 (rd x5 x9)).f1, (rd_T63 x3 (rd x5 x9)).f2, (rd_T63 x3 (rd x5 x9)).f3, rd x6 ((rd_T63 x3 (rd x5 x9)).f4)⟩ : S63)]) (wrap64 (x9 + 1))) else (none)) else (none)) else (none)) else (if x8.length < 3518437208883 then (spec_PackBody.l2 k x3 x5 x6 (x8 ++ [(⟨(rd_T63 x3 (rd x5 x9)).f0, (rd_T63 x3 (rd x5 x9)).f1, (rd_T63 x3 (rd x5 x9)).f2, (rd_T63 x3 (rd x5 x9)).f3, (rd_T63 x3 (rd x5 x9)).f4⟩ : S63)]) (wrap64 (x9 + 1))) else (none)))) else (none)) else (none)) else (none)) else (some x8)
end
def spec_PackBody.f (k : Nat) (l0 : List (S63)) : Option ((List (S63))) := (some (([] : List (S63)) : List (S63))).bind fun y197 => (if y197.length + l0.length < 3518437208883 then ((some (y197 ++ l0 : List (S63))).bind fun y200 => ((spec_BodyOk.f k l0 3).bind fun t203 => (if t203 = true then (spec_PackBody.l0 k l0 y200 0) else (some y200)))) else (none))
theorem spec_PackBody.mono_l : ∀ k, (∀ y0 y1 y2, LeO (spec_PackBody.l0 k y0 y1 y2) (spec_PackBody.l0 (k + 1) y0 y1 y2)) ∧ (∀ y0 y1 y2 y3, LeO (spec_PackBody.l1 k y0 y1 y2 y3) (spec_PackBody.l1 (k + 1) y0 y1 y2 y3)) ∧ (∀ y0 y1 y2 y3 y4, LeO (spec_PackBody.l2 k y0 y1 y2 y3 y4) (spec_PackBody.l2 (k + 1) y0 y1 y2 y3 y4))
 | 0 => ⟨fun _ _ _ r h => by simp [spec_PackBody.l0] at h, fun _ _ _ _ r h => by simp [spec_PackBody.l1] at h, fun _ _ _ _ _ r h => by simp [spec_PackBody.l2] at h⟩
 | k + 1 => by
  obtain ⟨ih0, ih1, ih2⟩ := spec_PackBody.mono_l k
  refine ⟨?_, ?_, ?_⟩
  ·intro y0 y1 y2
   unfold spec_PackBody.l0
   repeat' first
   | (with_reducible exact ih0 _ _ _)
   | (with_reducible exact ih1 _ _ _ _)
   | (with_reducible exact ih2 _ _ _ _ _)
   | (with_reducible exact spec_BodyOk.mono _ _ _)
   | (with_reducible exact spec_ReachOf.mono _ _ _)
   | (with_reducible exact spec_Skip.mono _ _ _)
   | (with_reducible exact LeO.refl _)
   | (with_reducible exact LeO.none _)
   | (with_reducible refine LeO.ite ?_ ?_)
   | (with_reducible refine LeO.bind ?_ (fun _ => ?_))
   | exact ih0 _ _ _
   | exact ih1 _ _ _ _
   | exact ih2 _ _ _ _ _
   | exact spec_BodyOk.mono _ _ _
   | exact spec_ReachOf.mono _ _ _
   | exact spec_Skip.mono _ _ _
   | exact LeO.none _
   | refine LeO.ite ?_ ?_
   | refine LeO.bind ?_ (fun _ => ?_)
  ·intro y0 y1 y2 y3
   unfold spec_PackBody.l1
   repeat' first
   | (with_reducible exact ih0 _ _ _)
   | (with_reducible exact ih1 _ _ _ _)
   | (with_reducible exact ih2 _ _ _ _ _)
   | (with_reducible exact spec_BodyOk.mono _ _ _)
   | (with_reducible exact spec_ReachOf.mono _ _ _)
   | (with_reducible exact spec_Skip.mono _ _ _)
   | (with_reducible exact LeO.refl _)
   | (with_reducible exact LeO.none _)
   | (with_reducible refine LeO.ite ?_ ?_)
   | (with_reducible refine LeO.bind ?_ (fun _ => ?_))
   | exact ih0 _ _ _
   | exact ih1 _ _ _ _
   | exact ih2 _ _ _ _ _
   | exact spec_BodyOk.mono _ _ _
   | exact spec_ReachOf.mono _ _ _
   | exact spec_Skip.mono _ _ _
   | exact LeO.none _
   | refine LeO.ite ?_ ?_
   | refine LeO.bind ?_ (fun _ => ?_)
  ·intro y0 y1 y2 y3 y4
   unfold spec_PackBody.l2
   repeat' first
   | (with_reducible exact ih0 _ _ _)
   | (with_reducible exact ih1 _ _ _ _)
   | (with_reducible exact ih2 _ _ _ _ _)
   | (with_reducible exact spec_BodyOk.mono _ _ _)
   | (with_reducible exact spec_ReachOf.mono _ _ _)
   | (with_reducible exact spec_Skip.mono _ _ _)
   | (with_reducible exact LeO.refl _)
   | (with_reducible exact LeO.none _)
   | (with_reducible refine LeO.ite ?_ ?_)
   | (with_reducible refine LeO.bind ?_ (fun _ => ?_))
   | exact ih0 _ _ _
   | exact ih1 _ _ _ _
   | exact ih2 _ _ _ _ _
   | exact spec_BodyOk.mono _ _ _
   | exact spec_ReachOf.mono _ _ _
   | exact spec_Skip.mono _ _ _
   | exact LeO.none _
   | refine LeO.ite ?_ ?_
   | refine LeO.bind ?_ (fun _ => ?_)
theorem spec_PackBody.mono : ∀ a0 k, LeO (spec_PackBody.f k a0) (spec_PackBody.f (k + 1) a0) := by
 intro a0 k
 obtain ⟨ih0, ih1, ih2⟩ := spec_PackBody.mono_l k
 unfold spec_PackBody.f
 repeat' first
   | (with_reducible exact ih0 _ _ _)
   | (with_reducible exact ih1 _ _ _ _)
   | (with_reducible exact ih2 _ _ _ _ _)
   | (with_reducible exact spec_BodyOk.mono _ _ _)
   | (with_reducible exact spec_ReachOf.mono _ _ _)
   | (with_reducible exact spec_Skip.mono _ _ _)
   | (with_reducible exact LeO.refl _)
   | (with_reducible exact LeO.none _)
   | (with_reducible refine LeO.ite ?_ ?_)
   | (with_reducible refine LeO.bind ?_ (fun _ => ?_))
   | exact ih0 _ _ _
   | exact ih1 _ _ _ _
   | exact ih2 _ _ _ _ _
   | exact spec_BodyOk.mono _ _ _
   | exact spec_ReachOf.mono _ _ _
   | exact spec_Skip.mono _ _ _
   | exact LeO.none _
   | refine LeO.ite ?_ ?_
   | refine LeO.bind ?_ (fun _ => ?_)
set_option maxHeartbeats 80000000 in
set_option maxRecDepth 100000 in
theorem spec_PackBody.calls (k : Nat) (A0 : Option Addr) (c0 : Nat) (l0 : List (S63)) (r : List (S63)) (w : World) (hr0 : Kd.C k63 w A0 l0.length l0) (hc0 : l0.length ≤ c0) (h : spec_PackBody.f k l0 = some r) :
  Calls Try.prog 13 #[.slice A0 l0.length c0] w fun e w' => ∃ v0_ : Value, e = .returned (v0_) ∧ Kd.R k63 63 w' w.heap.size (fun _ => True) v0_ r ∧ Below w.heap.size w w' := by
 have hu63 := Try.underlying63
 have HR0 := Aside0.mk hr0
 have HC0 := Aside0.mk hc0
 clear hr0 hc0
 have HB := Aside0.mk (Below.refl w.heap.size w)
 have H : ((some (([] : List (S63)) : List (S63))).bind fun y197 => (if y197.length + l0.length < 3518437208883 then ((some (y197 ++ l0 : List (S63))).bind fun y200 => ((spec_BodyOk.f k l0 3).bind fun t203 => (if t203 = true then (spec_PackBody.l0 k l0 y200 0) else (some y200)))) else (none))) = some r := h
 clear h
 obtain ⟨y197, hy197⟩ : ∃ y_ : List (S63), y_ = (([] : List (S63))) := ⟨_, rfl⟩
 replace H : (if y197.length + l0.length < 3518437208883 then ((some (y197 ++ l0 : List (S63))).bind fun y200 => ((spec_BodyOk.f k l0 3).bind fun t203 => (if t203 = true then (spec_PackBody.l0 k l0 y200 0) else (some y200)))) else (none)) = some r := by first | (rw [hy197]; with_reducible exact H) | (have H2_ := (Option.bind_some _ _).symm.trans H; rw [hy197]; with_reducible exact H2_) | (have H2_ := (Option.bind_some _ _).symm.trans H; with_reducible exact H2_) | with_reducible exact H | (rw [hy197]; exact H) | exact H
 have Ny197 := Aside0.mk hy197
 clear hy197
 by_cases c2 : y197.length + l0.length < 3518437208883
 ·rw [if_pos c2] at H
  have LMc2 := Aside0.mk c2
  clear c2
  obtain ⟨y200, hy200⟩ : ∃ y_ : List (S63), y_ = (y197 ++ l0) := ⟨_, rfl⟩
  replace H : ((spec_BodyOk.f k l0 3).bind fun t203 => (if t203 = true then (spec_PackBody.l0 k l0 y200 0) else (some y200))) = some r := by first | (rw [hy200]; with_reducible exact H) | (have H2_ := (Option.bind_some _ _).symm.trans H; rw [hy200]; with_reducible exact H2_) | (have H2_ := (Option.bind_some _ _).symm.trans H; with_reducible exact H2_) | with_reducible exact H | (rw [hy200]; exact H) | exact H
  have Ny200 := Aside0.mk hy200
  clear hy200
  replace H := Option.bind_eq_some_iff.mp H
  obtain ⟨t203, A30, H⟩ := H
  (try dsimp only at H)
  have A3 := Aside0.mk A30
  clear A30
  by_cases c4 : t203 = true
  ·subst c4
   rw [if_pos rfl] at H
   have H' := Aside0.mk H
   clear H
   go_enter Try.func13, Try.ntmps13
   go_wp2_with (first | ((with_reducible refine gate_dst (N := 11) rfl ?_); refine Kd.R_lit k63 _ 63 ?hg (N := 11) ?hd (xs := ([] : List (S63))) (inner := []) (ok := fun _ => True) (okp := fun _ => True) ?hr ?hp (fun _ hk => hk) trivial (Below.refl _ _) (Nat.le_refl _) (by simp) ?_; (case hd => rfl); (case hg => rfl); (case hr => first | (go_simp; done) | (go_simp; rfl)); (case hp => exact (Reps.none _ _)); intro v198 w5 ho6 hb hg_ hnew_; clear hg_ hnew_; (first | rw [← Ny197.out] at ho6 | (simp only [Int.reduceToNat] at ho6; rw [← Ny197.out] at ho6)); have n0_ := Aside0.mk (Kd.R_lower ho6 (below_size att7_0_0)); have n1_ := Aside0.mk (below_step att7_0_0 hb); clear HB; have HO199 := n0_; have HB := n1_; clear n0_ n1_; clear hb ho6) | ((with_reducible refine gate_builtin (b := .append) (xs := #[.tmp 11, .tmp 12]) rfl ?_); at_builtin; refine Kd.R_append_rows k63 (w0 := w) w.heap.size rfl (.tmp 11) (.tmp 12) 24 63 (.agg #[(.int .i64 0), (.int .i64 0), (.int .i64 0), (.int .i64 0), (.int .i64 0)]) 40 rfl Try.underlying24 info63 rfl (by decide) (by omega) v198 y197 l0 _ _ _ (fun _ => True) (fun _ => False) rfl rfl ?aO ?aR (fun _ _ h => h) (fun _ h => h.elim) ?aF ?aB ?aS ?aL ?_; (case aR => repeat (first | exact (Kd.C_below HR0.out HB.out) | (with_reducible refine Kd.C_alloc ?_ _) | (with_reducible refine Kd.C_drewN ?_ _) | (with_reducible refine Kd.C_drew ?_))); (case aB => exact att7_0_0); (case aF => exact (fun _ _ => trivial)); (case aO => exact att7_0_22); (case aS => exact (below_size att7_0_0)); (case aL => have := LMc2.out; omega); intro v201 w7 ho hb hg hat; rw [← Ny200.out] at ho; have n0_ := Aside0.mk (hb); have n1_ := Aside0.mk (ho); clear HB; clear HO199; have HB := n0_; have HO202 := n1_; clear n0_ n1_; clear ho hb hg hat) | ((with_reducible refine gate_callee (f := 63) rfl ?_); refine goesL_ (some 15) rfl rfl Try.func63 (by kernel_rfl) rfl #[.slice A0 l0.length c0, .int .i64 3] rfl att7_0_8 ?_; (with_reducible refine (spec_BodyOk.calls k _ _ l0 3 true _ ?side1 ?side2 A3.out).mono ?_); (case side1 => repeat (first | exact (Kd.C_below HR0.out HB.out) | (with_reducible refine Kd.C_alloc ?_ _) | (with_reducible refine Kd.C_drewN ?_ _) | (with_reducible refine Kd.C_drew ?_))); (case side2 => exact HC0.out); rintro e w8 ⟨rfl, hb⟩; refine ⟨_, rfl, ?_⟩; have n0_ := Aside0.mk (Kd.R_below att7_0_16 hb); have n1_ := Aside0.mk (below_step att7_0_0 hb); clear HO202; clear HB; have HO202 := n0_; have HB := n1_; clear n0_ n1_; (try clear hb); (try clear hb2); (try clear hk); (try clear hi)))
   go_loopg [4] k (fun kq v4 w' => ∃ (x3_1 : List (S63)) (x4_1 : Int), v4 = .int .i64 x4_1 ∧ Aside0 (spec_PackBody.l0 kq l0 x3_1 x4_1 = some r) ∧ Aside0 (kq ≤ k) ∧ Aside0 (Kd.R k63 63 w' w.heap.size (fun _ => True) v201 x3_1) ∧ Aside0 (Below w.heap.size w w'))
   case atStart => exact ⟨(y200), (0), att7_0_10, H', ⟨Nat.le_refl _⟩, ⟨att7_0_16⟩, ⟨att7_0_0⟩⟩
   case round =>
    clear H'
    try clear c1
    try clear c2
    try clear p2
    try clear c4
    try clear c6
    obtain ⟨x3_1, x4_1, rfl, HA, HK1, HO_3, HB⟩ := hrel
    cases gk with
    | zero => exact absurd HA.out (by simp [spec_PackBody.l0])
    | succ k1 =>
     have H := HA.out
     clear HA
     simp only [spec_PackBody.l0] at H
     by_cases c9 : x4_1 < (x3_1.length : Int)
     ·rw [if_pos c9] at H
      have c9b0 : decide (x4_1 < (x3_1.length : Int)) = true := decide_eq_true c9
      clear c9
      by_cases c10 : 0 ≤ x4_1
      ·rw [if_pos c10] at H
       have c10b0 : decide (0 ≤ x4_1) = true := decide_eq_true c10
       clear c10
       by_cases c11 : ((rd_T63 x3_1 x4_1).f0) = 11
       ·rw [if_pos c11] at H
        have c11b0 : (((rd_T63 x3_1 x4_1).f0) == 11) = true := beq_iff_eq.mpr c11
        have c11b1 : (((rd_T63 x3_1 x4_1).f0) != 11) = false := bne_eq_false_iff_eq.mpr c11
        clear c11
        by_cases c12 : x4_1 < (l0.length : Int)
        ·rw [if_pos c12] at H
         have c12b0 : decide (x4_1 < (l0.length : Int)) = true := decide_eq_true c12
         clear c12
         replace H := Option.bind_eq_some_iff.mp H
         obtain ⟨t206, A130, H⟩ := H
         (try dsimp only at H)
         have A13 := Aside0.mk A130
         clear A130
         obtain ⟨y207, hy207⟩ : ∃ y_ : List (S63), y_ = (x3_1.set (x4_1 : Int).toNat (⟨(rd_T63 x3_1 x4_1).f0, (rd_T63 x3_1 x4_1).f1, (rd_T63 x3_1 x4_1).f2, (rd_T63 x3_1 x4_1).f3, t206⟩ : S63)) := ⟨_, rfl⟩
         replace H : (spec_PackBody.l0 k1 l0 y207 (wrap64 (x4_1 + 1))) = some r := by first | (rw [hy207]; with_reducible exact H) | (have H2_ := (Option.bind_some _ _).symm.trans H; rw [hy207]; with_reducible exact H2_) | (have H2_ := (Option.bind_some _ _).symm.trans H; with_reducible exact H2_) | with_reducible exact H | (rw [hy207]; exact H) | exact H
         have Ny207 := Aside0.mk hy207
         clear hy207
         have H' := Aside0.mk H
         clear H
         obtain ⟨Ao15, co15, eo15⟩ := Kd.R_slice HO_3.out
         subst eo15
         have p204 : 0 ≤ (x4_1 : Int) := of_decide_eq_true att7_0_1
         have q204 : x4_1 < (x3_1.length : Int) := of_decide_eq_true att7_0_1
         obtain ⟨ad204, e204, hx204_0, hx204_1, hx204_2, hx204_3, hx204_4⟩ := at_T63 (Kd.R_reads' HO_3.out).2.2 x4_1 p204 q204
         cases e204
         replace p204 := eq_true p204
         replace q204 := eq_true q204
         have p205 : 0 ≤ (x4_1 : Int) := of_decide_eq_true att7_0_1
         have q205 : x4_1 < (l0.length : Int) := of_decide_eq_true att7_0_1
         obtain ⟨ad205, e205, hx205_0, hx205_1, hx205_2, hx205_3, hx205_4⟩ := at_T63 HR0.out x4_1 p205 q205
         cases e205
         replace hx205_0 := (HB.out.cell (World.block_lt_of_cell? w _ hx205_0)).trans hx205_0
         replace hx205_1 := (HB.out.cell (World.block_lt_of_cell? w _ hx205_1)).trans hx205_1
         replace hx205_2 := (HB.out.cell (World.block_lt_of_cell? w _ hx205_2)).trans hx205_2
         replace hx205_3 := (HB.out.cell (World.block_lt_of_cell? w _ hx205_3)).trans hx205_3
         replace hx205_4 := (HB.out.cell (World.block_lt_of_cell? w _ hx205_4)).trans hx205_4
         replace p205 := eq_true p205
         replace q205 := eq_true q205
         go_wp2_with (first | ((with_reducible refine gate_callee (f := 64) rfl ?_); refine goesL_ (some 46) rfl rfl Try.func64 (by kernel_rfl) rfl #[.slice (some ad205) l0.length c0, .int .i64 ((rd_T63 l0 x4_1).f4)] rfl att7_0_8 ?_; (with_reducible refine (spec_Skip.calls k1 _ _ l0 ((rd_T63 l0 x4_1).f4) t206 _ ?side1 ?side2 A13.out).mono ?_); (case side1 => repeat (first | exact (Kd.C_below HR0.out HB.out) | (with_reducible refine Kd.C_alloc ?_ _) | (with_reducible refine Kd.C_drewN ?_ _) | (with_reducible refine Kd.C_drew ?_))); (case side2 => exact HC0.out); rintro e w16 ⟨rfl, hb⟩; refine ⟨_, rfl, ?_⟩; have n0_ := Aside0.mk (Kd.R_below att7_0_2 hb); have n1_ := Aside0.mk (below_step att7_0_0 hb); clear HO_3; clear HB; have HO_3 := n0_; have HB := n1_; clear n0_ n1_; (try clear hb); (try clear hb2); (try clear hk); (try clear hi); have p14 : 0 ≤ (x4_1 : Int) := of_decide_eq_true att7_0_1; have q14 : (x4_1 : Int) < ((x3_1.length : Int) : Int) := of_decide_eq_true att7_0_1; obtain ⟨go14, co14, eo14, gb14, gl14, cl14, HG14⟩ := Kd.R_form HO_3.out (by omega); (first | cases eo14 | (injection eo14 with ea_ en_ ec_; (first | subst ea_ | (injection ea_ with ea_; subst ea_)); subst ec_; clear en_)); have GB14 := Aside0.mk gb14; have GG14 := Aside0.mk HG14; clear gb14 gl14 HG14; (first | simp only [add_plain] at hx204_0 | skip); (first | simp only [add_plain] at hx204_1 | skip); (first | simp only [add_plain] at hx204_2 | skip); (first | simp only [add_plain] at hx204_3 | skip); (first | simp only [add_plain] at hx204_4 | skip); obtain ⟨ce14, hcl14, hM14, hcc14, hfr14⟩ := Kd.R_elem HO_3.out z63 (x4_1 : Int) p14 q14; obtain rfl := k63_openM hM14; have hx14_0 : w16.cell? ⟨go14, (x4_1 : Int).toNat * 5, none⟩ = some (.int .i64 ((rd_T63 x3_1 x4_1).f0)) := hcc14 0 _ rfl; have hx14_1 : w16.cell? ⟨go14, (x4_1 : Int).toNat * 5 + 1, none⟩ = some (.int .i64 ((rd_T63 x3_1 x4_1).f1)) := hcc14 1 _ rfl; have hx14_2 : w16.cell? ⟨go14, (x4_1 : Int).toNat * 5 + 2, none⟩ = some (.int .i64 ((rd_T63 x3_1 x4_1).f2)) := hcc14 2 _ rfl; have hx14_3 : w16.cell? ⟨go14, (x4_1 : Int).toNat * 5 + 3, none⟩ = some (.int .i64 ((rd_T63 x3_1 x4_1).f3)) := hcc14 3 _ rfl; have hx14_4 : w16.cell? ⟨go14, (x4_1 : Int).toNat * 5 + 4, none⟩ = some (.int .i64 ((rd_T63 x3_1 x4_1).f4)) := hcc14 4 _ rfl; have hf14_0 : w16.frozen? ⟨go14, (x4_1 : Int).toNat * 5, none⟩ = false := hfr14 0; have hf14_1 : w16.frozen? ⟨go14, (x4_1 : Int).toNat * 5 + 1, none⟩ = false := hfr14 1; have hf14_2 : w16.frozen? ⟨go14, (x4_1 : Int).toNat * 5 + 2, none⟩ = false := hfr14 2; have hf14_3 : w16.frozen? ⟨go14, (x4_1 : Int).toNat * 5 + 3, none⟩ = false := hfr14 3; have hf14_4 : w16.frozen? ⟨go14, (x4_1 : Int).toNat * 5 + 4, none⟩ = false := hfr14 4; clear hcl14 hcc14 hfr14 hM14; replace p14 := eq_true p14; replace q14 := eq_true q14; have HX17 := Aside0.mk (show Kd.R k63 63 w16 w.heap.size (fun _ => True) (.slice (some ⟨go14, 0, none⟩) x3_1.length co15) x3_1 from att7_0_2); obtain ⟨ce17, hcl17, hM17, hcc17, hfr17⟩ := Kd.R_elem HX17.out z63 (x4_1 : Int) (of_decide_eq_true att7_0_1) att7_1_0; obtain rfl := k63_openM hM17; have HP17 := Kd.R_seg HX17.out (x4_1 : Int) (of_decide_eq_true att7_0_1) att7_1_0 (seg := [.int .i64 t206]) (j := 4) hcl17 hcc17 (show 5 ≤ 5 from by decide) (x' := (⟨(rd_T63 x3_1 x4_1).f0, (rd_T63 x3_1 x4_1).f1, (rd_T63 x3_1 x4_1).f2, (rd_T63 x3_1 x4_1).f3, t206⟩ : S63)) (k63_mkM _ _ _ (⟨(rd_T63 x3_1 x4_1).f0, (rd_T63 x3_1 x4_1).f1, (rd_T63 x3_1 x4_1).f2, (rd_T63 x3_1 x4_1).f3, t206⟩ : S63) ) (fun _ hk => hk); have hx17_4 := hcc17 4 _ rfl; (try simp only [show (k63).sz = 5 from rfl, Nat.mul_one, Nat.add_zero] at hx17_4); have hf17_4 := hfr17 4; (try simp only [show (k63).sz = 5 from rfl, Nat.mul_one, Nat.add_zero] at hf17_4); clear hcl17 hcc17 hfr17 hM17) | ((with_reducible refine gate_store (t := 3) (p := 48) rfl ?_); refine store_event (t := 3) (p := 48) (v := ?vo_w18) (w1 := (w16.setCell ⟨go14, (x4_1 : Int).toNat * 5 + 4, none⟩ (.int .i64 t206))) ?hg ?ho ?hn ?hr ?_; (case ho => rfl); (case hg => rfl); (case hn => rfl); (case hr => first | (go_simp; done) | (go_simp; rfl)); intro w18 hw; have hg : w16.grownBy w18 (some go14) := (by rw [hw]; exact HP17.2); have hp_ : Kd.R k63 63 w18 w.heap.size (fun _ => True) (.slice (some ⟨go14, 0, none⟩) x3_1.length co15) y207 := (by rw [hw, Ny207.out]; exact HP17.1); clear HP17; have n0_ := Aside0.mk (hp_); have n1_ := Aside0.mk ((by rw [hw]; exact below_set (HB.out) GB14.out : Below w.heap.size w w18)); clear HO_3; clear HB; have HO_3 := n0_; have HB := n1_; clear n0_ n1_; clear hg hw hp_))
         go_roundg k1
         case measure => have := HK1.out; omega
         case rel => exact ⟨(y207), (wrap64 (x4_1 + 1)), att7_0_10, H', ⟨by have := HK1.out; omega⟩, ⟨att7_0_2⟩, ⟨att7_0_0⟩⟩
        ·rw [if_neg c12] at H
         exact absurd H (by simp)
       ·rw [if_neg c11] at H
        have c11b0 : (((rd_T63 x3_1 x4_1).f0) == 11) = false := beq_eq_false_iff_ne.mpr c11
        have c11b1 : (((rd_T63 x3_1 x4_1).f0) != 11) = true := bne_iff_ne.mpr c11
        by_cases c19 : ((rd_T63 x3_1 x4_1).f0) = 12
        ·rw [if_pos c19] at H
         have c19b0 : (((rd_T63 x3_1 x4_1).f0) == 12) = true := beq_iff_eq.mpr c19
         have c19b1 : (((rd_T63 x3_1 x4_1).f0) != 12) = false := bne_eq_false_iff_eq.mpr c19
         clear c19
         by_cases c20 : x4_1 < (l0.length : Int)
         ·rw [if_pos c20] at H
          have c20b0 : decide (x4_1 < (l0.length : Int)) = true := decide_eq_true c20
          clear c20
          replace H := Option.bind_eq_some_iff.mp H
          obtain ⟨t210, A210, H⟩ := H
          (try dsimp only at H)
          have A21 := Aside0.mk A210
          clear A210
          obtain ⟨y211, hy211⟩ : ∃ y_ : List (S63), y_ = (x3_1.set (x4_1 : Int).toNat (⟨(rd_T63 x3_1 x4_1).f0, (rd_T63 x3_1 x4_1).f1, (rd_T63 x3_1 x4_1).f2, (rd_T63 x3_1 x4_1).f3, t210⟩ : S63)) := ⟨_, rfl⟩
          replace H : (spec_PackBody.l0 k1 l0 y211 (wrap64 (x4_1 + 1))) = some r := by first | (rw [hy211]; with_reducible exact H) | (have H2_ := (Option.bind_some _ _).symm.trans H; rw [hy211]; with_reducible exact H2_) | (have H2_ := (Option.bind_some _ _).symm.trans H; with_reducible exact H2_) | with_reducible exact H | (rw [hy211]; exact H) | exact H
          have Ny211 := Aside0.mk hy211
          clear hy211
          have H' := Aside0.mk H
          clear H
          obtain ⟨Ao23, co23, eo23⟩ := Kd.R_slice HO_3.out
          subst eo23
          have p204 : 0 ≤ (x4_1 : Int) := of_decide_eq_true att7_0_1
          have q204 : x4_1 < (x3_1.length : Int) := of_decide_eq_true att7_0_1
          obtain ⟨ad204, e204, hx204_0, hx204_1, hx204_2, hx204_3, hx204_4⟩ := at_T63 (Kd.R_reads' HO_3.out).2.2 x4_1 p204 q204
          cases e204
          replace p204 := eq_true p204
          replace q204 := eq_true q204
          have p208 : 0 ≤ (x4_1 : Int) := of_decide_eq_true att7_0_1
          have q208 : x4_1 < (x3_1.length : Int) := of_decide_eq_true att7_0_1
          obtain ⟨ad208, e208, hx208_0, hx208_1, hx208_2, hx208_3, hx208_4⟩ := at_T63 (Kd.R_reads' HO_3.out).2.2 x4_1 p208 q208
          obtain rfl : ad204 = ad208 := (by injection e208)
          replace p208 := eq_true p208
          replace q208 := eq_true q208
          have p209 : 0 ≤ (x4_1 : Int) := of_decide_eq_true att7_0_1
          have q209 : x4_1 < (l0.length : Int) := of_decide_eq_true att7_0_1
          obtain ⟨ad209, e209, hx209_0, hx209_1, hx209_2, hx209_3, hx209_4⟩ := at_T63 HR0.out x4_1 p209 q209
          cases e209
          replace hx209_0 := (HB.out.cell (World.block_lt_of_cell? w _ hx209_0)).trans hx209_0
          replace hx209_1 := (HB.out.cell (World.block_lt_of_cell? w _ hx209_1)).trans hx209_1
          replace hx209_2 := (HB.out.cell (World.block_lt_of_cell? w _ hx209_2)).trans hx209_2
          replace hx209_3 := (HB.out.cell (World.block_lt_of_cell? w _ hx209_3)).trans hx209_3
          replace hx209_4 := (HB.out.cell (World.block_lt_of_cell? w _ hx209_4)).trans hx209_4
          replace p209 := eq_true p209
          replace q209 := eq_true q209
          go_wp2_with (first | ((with_reducible refine gate_callee (f := 64) rfl ?_); refine goesL_ (some 46) rfl rfl Try.func64 (by kernel_rfl) rfl #[.slice (some ad209) l0.length c0, .int .i64 ((rd_T63 l0 x4_1).f4)] rfl att7_0_8 ?_; (with_reducible refine (spec_Skip.calls k1 _ _ l0 ((rd_T63 l0 x4_1).f4) t210 _ ?side1 ?side2 A21.out).mono ?_); (case side1 => repeat (first | exact (Kd.C_below HR0.out HB.out) | (with_reducible refine Kd.C_alloc ?_ _) | (with_reducible refine Kd.C_drewN ?_ _) | (with_reducible refine Kd.C_drew ?_))); (case side2 => exact HC0.out); rintro e w24 ⟨rfl, hb⟩; refine ⟨_, rfl, ?_⟩; have n0_ := Aside0.mk (Kd.R_below att7_0_2 hb); have n1_ := Aside0.mk (below_step att7_0_0 hb); clear HO_3; clear HB; have HO_3 := n0_; have HB := n1_; clear n0_ n1_; (try clear hb); (try clear hb2); (try clear hk); (try clear hi); have p22 : 0 ≤ (x4_1 : Int) := of_decide_eq_true att7_0_1; have q22 : (x4_1 : Int) < ((x3_1.length : Int) : Int) := of_decide_eq_true att7_0_1; obtain ⟨go22, co22, eo22, gb22, gl22, cl22, HG22⟩ := Kd.R_form HO_3.out (by omega); (first | cases eo22 | (injection eo22 with ea_ en_ ec_; (first | subst ea_ | (injection ea_ with ea_; subst ea_)); subst ec_; clear en_)); have GB22 := Aside0.mk gb22; have GG22 := Aside0.mk HG22; clear gb22 gl22 HG22; (first | simp only [add_plain] at hx204_0 | skip); (first | simp only [add_plain] at hx204_1 | skip); (first | simp only [add_plain] at hx204_2 | skip); (first | simp only [add_plain] at hx204_3 | skip); (first | simp only [add_plain] at hx204_4 | skip); (first | simp only [add_plain] at hx208_0 | skip); (first | simp only [add_plain] at hx208_1 | skip); (first | simp only [add_plain] at hx208_2 | skip); (first | simp only [add_plain] at hx208_3 | skip); (first | simp only [add_plain] at hx208_4 | skip); obtain ⟨ce22, hcl22, hM22, hcc22, hfr22⟩ := Kd.R_elem HO_3.out z63 (x4_1 : Int) p22 q22; obtain rfl := k63_openM hM22; have hx22_0 : w24.cell? ⟨go22, (x4_1 : Int).toNat * 5, none⟩ = some (.int .i64 ((rd_T63 x3_1 x4_1).f0)) := hcc22 0 _ rfl; have hx22_1 : w24.cell? ⟨go22, (x4_1 : Int).toNat * 5 + 1, none⟩ = some (.int .i64 ((rd_T63 x3_1 x4_1).f1)) := hcc22 1 _ rfl; have hx22_2 : w24.cell? ⟨go22, (x4_1 : Int).toNat * 5 + 2, none⟩ = some (.int .i64 ((rd_T63 x3_1 x4_1).f2)) := hcc22 2 _ rfl; have hx22_3 : w24.cell? ⟨go22, (x4_1 : Int).toNat * 5 + 3, none⟩ = some (.int .i64 ((rd_T63 x3_1 x4_1).f3)) := hcc22 3 _ rfl; have hx22_4 : w24.cell? ⟨go22, (x4_1 : Int).toNat * 5 + 4, none⟩ = some (.int .i64 ((rd_T63 x3_1 x4_1).f4)) := hcc22 4 _ rfl; have hf22_0 : w24.frozen? ⟨go22, (x4_1 : Int).toNat * 5, none⟩ = false := hfr22 0; have hf22_1 : w24.frozen? ⟨go22, (x4_1 : Int).toNat * 5 + 1, none⟩ = false := hfr22 1; have hf22_2 : w24.frozen? ⟨go22, (x4_1 : Int).toNat * 5 + 2, none⟩ = false := hfr22 2; have hf22_3 : w24.frozen? ⟨go22, (x4_1 : Int).toNat * 5 + 3, none⟩ = false := hfr22 3; have hf22_4 : w24.frozen? ⟨go22, (x4_1 : Int).toNat * 5 + 4, none⟩ = false := hfr22 4; clear hcl22 hcc22 hfr22 hM22; replace p22 := eq_true p22; replace q22 := eq_true q22; have HX25 := Aside0.mk (show Kd.R k63 63 w24 w.heap.size (fun _ => True) (.slice (some ⟨go22, 0, none⟩) x3_1.length co23) x3_1 from att7_0_2); obtain ⟨ce25, hcl25, hM25, hcc25, hfr25⟩ := Kd.R_elem HX25.out z63 (x4_1 : Int) (of_decide_eq_true att7_0_1) att7_1_0; obtain rfl := k63_openM hM25; have HP25 := Kd.R_seg HX25.out (x4_1 : Int) (of_decide_eq_true att7_0_1) att7_1_0 (seg := [.int .i64 t210]) (j := 4) hcl25 hcc25 (show 5 ≤ 5 from by decide) (x' := (⟨(rd_T63 x3_1 x4_1).f0, (rd_T63 x3_1 x4_1).f1, (rd_T63 x3_1 x4_1).f2, (rd_T63 x3_1 x4_1).f3, t210⟩ : S63)) (k63_mkM _ _ _ (⟨(rd_T63 x3_1 x4_1).f0, (rd_T63 x3_1 x4_1).f1, (rd_T63 x3_1 x4_1).f2, (rd_T63 x3_1 x4_1).f3, t210⟩ : S63) ) (fun _ hk => hk); have hx25_4 := hcc25 4 _ rfl; (try simp only [show (k63).sz = 5 from rfl, Nat.mul_one, Nat.add_zero] at hx25_4); have hf25_4 := hfr25 4; (try simp only [show (k63).sz = 5 from rfl, Nat.mul_one, Nat.add_zero] at hf25_4); clear hcl25 hcc25 hfr25 hM25) | ((with_reducible refine gate_store (t := 3) (p := 48) rfl ?_); refine store_event (t := 3) (p := 48) (v := ?vo_w26) (w1 := (w24.setCell ⟨go22, (x4_1 : Int).toNat * 5 + 4, none⟩ (.int .i64 t210))) ?hg ?ho ?hn ?hr ?_; (case ho => rfl); (case hg => rfl); (case hn => rfl); (case hr => first | (go_simp; done) | (go_simp; rfl)); intro w26 hw; have hg : w24.grownBy w26 (some go22) := (by rw [hw]; exact HP25.2); have hp_ : Kd.R k63 63 w26 w.heap.size (fun _ => True) (.slice (some ⟨go22, 0, none⟩) x3_1.length co23) y211 := (by rw [hw, Ny211.out]; exact HP25.1); clear HP25; have n0_ := Aside0.mk (hp_); have n1_ := Aside0.mk ((by rw [hw]; exact below_set (HB.out) GB22.out : Below w.heap.size w w26)); clear HO_3; clear HB; have HO_3 := n0_; have HB := n1_; clear n0_ n1_; clear hg hw hp_))
          go_roundg k1
          case measure => have := HK1.out; omega
          case rel => exact ⟨(y211), (wrap64 (x4_1 + 1)), att7_0_10, H', ⟨by have := HK1.out; omega⟩, ⟨att7_0_2⟩, ⟨att7_0_0⟩⟩
         ·rw [if_neg c20] at H
          exact absurd H (by simp)
        ·rw [if_neg c19] at H
         have c19b0 : (((rd_T63 x3_1 x4_1).f0) == 12) = false := beq_eq_false_iff_ne.mpr c19
         have c19b1 : (((rd_T63 x3_1 x4_1).f0) != 12) = true := bne_iff_ne.mpr c19
         have H' := Aside0.mk H
         clear H
         obtain ⟨Ao27, co27, eo27⟩ := Kd.R_slice HO_3.out
         subst eo27
         have p204 : 0 ≤ (x4_1 : Int) := of_decide_eq_true att7_0_1
         have q204 : x4_1 < (x3_1.length : Int) := of_decide_eq_true att7_0_1
         obtain ⟨ad204, e204, hx204_0, hx204_1, hx204_2, hx204_3, hx204_4⟩ := at_T63 (Kd.R_reads' HO_3.out).2.2 x4_1 p204 q204
         cases e204
         replace p204 := eq_true p204
         replace q204 := eq_true q204
         have p208 : 0 ≤ (x4_1 : Int) := of_decide_eq_true att7_0_1
         have q208 : x4_1 < (x3_1.length : Int) := of_decide_eq_true att7_0_1
         obtain ⟨ad208, e208, hx208_0, hx208_1, hx208_2, hx208_3, hx208_4⟩ := at_T63 (Kd.R_reads' HO_3.out).2.2 x4_1 p208 q208
         obtain rfl : ad204 = ad208 := (by injection e208)
         replace p208 := eq_true p208
         replace q208 := eq_true q208
         go_wp2
         go_roundg k1
         case measure => have := HK1.out; omega
         case rel => exact ⟨(x3_1), (wrap64 (x4_1 + 1)), att7_0_10, H', ⟨by have := HK1.out; omega⟩, ⟨att7_0_2⟩, ⟨att7_0_0⟩⟩
      ·rw [if_neg c10] at H
       exact absurd H (by simp)
     ·rw [if_neg c9] at H
      have c9b0 : decide (x4_1 < (x3_1.length : Int)) = false := decide_eq_false c9
      clear c9
      replace H := Option.bind_eq_some_iff.mp H
      obtain ⟨t212, A280, H⟩ := H
      (try dsimp only at H)
      have A28 := Aside0.mk A280
      clear A280
      by_cases c29 : 0 ≤ (x3_1.length : Int)
      ·rw [if_pos c29] at H
       have c29b0 := eq_true c29
       have c29b1 : decide (0 ≤ (x3_1.length : Int)) = true := decide_eq_true c29
       clear c29
       by_cases c30 : ((x3_1.length : Int) : Int).toNat ≤ 35184372088832
       ·rw [if_pos c30] at H
        have c30b0 := eq_true c30
        have c30b1 : decide (((x3_1.length : Int) : Int).toNat ≤ 35184372088832) = true := decide_eq_true c30
        clear c30
        obtain ⟨y215, hy215⟩ : ∃ y_ : List Int, y_ = (List.replicate ((x3_1.length : Int) : Int).toNat 0) := ⟨_, rfl⟩
        replace H : (spec_PackBody.l1 k1 x3_1 t212 y215 0) = some r := by first | (rw [hy215]; with_reducible exact H) | (have H2_ := (Option.bind_some _ _).symm.trans H; rw [hy215]; with_reducible exact H2_) | (have H2_ := (Option.bind_some _ _).symm.trans H; with_reducible exact H2_) | with_reducible exact H | (rw [hy215]; exact H) | exact H
        have Ny215 := Aside0.mk hy215
        clear hy215
        have H' := Aside0.mk H
        clear H
        obtain ⟨Ao31, co31, eo31⟩ := Kd.R_slice HO_3.out
        subst eo31
        go_wp2_with (first | ((with_reducible refine gate_callee (f := 27) rfl ?_); refine goesL_ (some 50) rfl rfl Try.func27 (by kernel_rfl) rfl #[.slice Ao31 x3_1.length co31, .int .i64 0] rfl att7_0_8 ?_; (with_reducible refine (spec_ReachOf.calls k1 _ _ x3_1 0 t212 _ ?side1 ?side2 A28.out).mono ?_); (case side1 => repeat (first | exact (Kd.R_reads' HO_3.out).2.2 | (with_reducible refine Kd.C_alloc ?_ _) | (with_reducible refine Kd.C_drewN ?_ _) | (with_reducible refine Kd.C_drew ?_))); (case side2 => exact (Kd.R_reads' HO_3.out).2.1); rintro e w32 ⟨v213, rfl, ho0, hb⟩; refine ⟨_, rfl, ?_⟩; have n0_ := Aside0.mk (Kd.R_below att7_0_2 hb); have n1_ := Aside0.mk (Kd.R_lower ho0 (below_size att7_0_0)); have n2_ := Aside0.mk (below_step att7_0_0 hb); clear HO_3; clear HB; have HO_3 := n0_; have HO214 := n1_; have HB := n2_; clear n0_ n1_ n2_; (try clear hb); (try clear hb2); (try clear hk); (try clear hi); (try clear ho0)) | ((with_reducible refine gate_dst (N := 53) rfl ?_); refine Kd.R_make (Kd.int .i64) _ 3 rfl (N := 53) rfl 34 _ _ rfl (x3_1.length : Int) rfl rfl Try.underlying34 (.int .i64 0) 8 info3 rfl (by decide) (by omega) 0 (ok := fun _ => True) (okp := fun _ => True) rfl (fun _ hk => hk) trivial (of_decide_eq_true att7_0_1) (Nat.le_trans (Nat.mul_le_mul_right _ (of_decide_eq_true att7_0_1 : (x3_1.length : Int).toNat ≤ 35184372088832)) (by omega)) (Below.refl _ _) (Nat.le_refl _) ?_; intro v216 w33 ho34 hb hg_ hnew_; clear hg_ hnew_; (first | rw [← Ny215.out] at ho34 | (simp only [Int.reduceToNat] at ho34; rw [← Ny215.out] at ho34)); have n0_ := Aside0.mk (Kd.R_below att7_0_2 hb); have n1_ := Aside0.mk (Kd.R_elder' att7_0_21 (Kd.R_base ho34) hb); have n2_ := Aside0.mk (Kd.R_lower (Kd.R_new' ho34 (Kd.R_lt att7_0_21)) (below_size att7_0_0)); have n3_ := Aside0.mk (below_step att7_0_0 hb); clear HO_3; clear HO214; clear HB; have HO_3 := n0_; have HO214 := n1_; have HO217 := n2_; have HB := n3_; clear n0_ n1_ n2_ n3_; clear hb ho34))
        go_loopg [7] k1 (fun kq v7 w' => ∃ (x6_2 : List Int) (x7_2 : Int), v7 = .int .i64 x7_2 ∧ Aside0 (spec_PackBody.l1 kq x3_1 t212 x6_2 x7_2 = some r) ∧ Aside0 (kq ≤ k1) ∧ Aside0 (Kd.R k63 63 w' w.heap.size (fun _ => True) (.slice Ao31 x3_1.length co31) x3_1) ∧ Aside0 (Kd.R (Kd.int .i64) 3 w' w.heap.size (fun k_ => some k_ ≠ (v216 : Value).ownBlock) v213 t212) ∧ Aside0 (Kd.R (Kd.int .i64) 3 w' w.heap.size (fun k_ => some k_ ≠ (v213 : Value).ownBlock) v216 x6_2) ∧ Aside0 (Below w.heap.size w w'))
        case atStart => exact ⟨(y215), (0), att7_0_10, H', ⟨Nat.le_refl _⟩, ⟨att7_0_2⟩, ⟨by (with_reducible repeat (first | apply Kd.R_alloc | apply Kd.R_drewN | apply Kd.R_drew)); exact Kd.R_mono HO214.out (fun _ hk => hk.2)⟩, ⟨by (with_reducible repeat (first | apply Kd.R_alloc | apply Kd.R_drewN | apply Kd.R_drew)); exact Kd.R_mono HO217.out (fun _ hk => hk.2)⟩, ⟨att7_0_0⟩⟩
        case round =>
         clear H'
         try clear c1
         try clear p1
         try clear q1
         try clear hx1
         try clear hf1
         try clear c2
         try clear p2
         try clear q2
         try clear hx2
         try clear hf2
         try clear c3
         try clear c4
         try clear c6
         try clear p6
         try clear c9
         try clear c9b0
         try clear c10
         try clear c10b0
         try clear c11
         try clear c11b0
         try clear c11b1
         try clear c12
         try clear c12b0
         try clear c13
         try clear c14
         try clear p14
         try clear q14
         try clear hx14
         try clear hf14
         try clear c17
         try clear hx17
         try clear hf17
         try clear c19
         try clear c19b0
         try clear c19b1
         try clear c20
         try clear c20b0
         try clear p20
         try clear q20
         try clear hx20
         try clear c22
         try clear p22
         try clear q22
         try clear hx22
         try clear hf22
         try clear c25
         try clear hx25
         try clear hf25
         try clear c27
         try clear c29
         try clear c29b0
         try clear c29b1
         try clear c30
         try clear c30b0
         try clear c30b1
         try clear hx14_0
         try clear hx14_1
         try clear hx14_2
         try clear hx14_3
         try clear hx14_4
         try clear hx17_4
         try clear hx204_0
         try clear hx204_1
         try clear hx204_2
         try clear hx204_3
         try clear hx204_4
         try clear hx205_0
         try clear hx205_1
         try clear hx205_2
         try clear hx205_3
         try clear hx205_4
         try clear hx208_0
         try clear hx208_1
         try clear hx208_2
         try clear hx208_3
         try clear hx208_4
         try clear hx209_0
         try clear hx209_1
         try clear hx209_2
         try clear hx209_3
         try clear hx209_4
         try clear hx22_0
         try clear hx22_1
         try clear hx22_2
         try clear hx22_3
         try clear hx22_4
         try clear hx25_4
         try clear p14
         try clear p2
         try clear p204
         try clear p205
         try clear p208
         try clear p209
         try clear p22
         try clear q14
         try clear q204
         try clear q205
         try clear q208
         try clear q209
         try clear q22
         obtain ⟨x6_2, x7_2, rfl, HA, HK2, HO_3, HO_5, HO_6, HB⟩ := hrel
         cases gk with
         | zero => exact absurd HA.out (by simp [spec_PackBody.l1])
         | succ k2 =>
          have H := HA.out
          clear HA
          simp only [spec_PackBody.l1] at H
          by_cases c35 : x7_2 < (t212.length : Int)
          ·rw [if_pos c35] at H
           have c35b0 : decide (x7_2 < (t212.length : Int)) = true := decide_eq_true c35
           clear c35
           by_cases c36 : 0 ≤ x7_2
           ·rw [if_pos c36] at H
            have c36b0 : decide (0 ≤ x7_2) = true := decide_eq_true c36
            clear c36
            by_cases c37 : 0 ≤ (rd t212 x7_2)
            ·rw [if_pos c37] at H
             have c37b0 : decide (0 ≤ (rd t212 x7_2)) = true := decide_eq_true c37
             clear c37
             by_cases c38 : (rd t212 x7_2) < (x6_2.length : Int)
             ·rw [if_pos c38] at H
              have c38b0 : decide ((rd t212 x7_2) < (x6_2.length : Int)) = true := decide_eq_true c38
              clear c38
              obtain ⟨y219, hy219⟩ : ∃ y_ : List Int, y_ = (x6_2.set ((rd t212 x7_2) : Int).toNat x7_2) := ⟨_, rfl⟩
              replace H : (spec_PackBody.l1 k2 x3_1 t212 y219 (wrap64 (x7_2 + 1))) = some r := by first | (rw [hy219]; with_reducible exact H) | (have H2_ := (Option.bind_some _ _).symm.trans H; rw [hy219]; with_reducible exact H2_) | (have H2_ := (Option.bind_some _ _).symm.trans H; with_reducible exact H2_) | with_reducible exact H | (rw [hy219]; exact H) | exact H
              have Ny219 := Aside0.mk hy219
              clear hy219
              have H' := Aside0.mk H
              clear H
              obtain ⟨Ao40, co40, eo40⟩ := Kd.R_slice HO_5.out
              subst eo40
              have p218 : 0 ≤ (x7_2 : Int) := of_decide_eq_true att7_0_1
              have q218 : x7_2 < (t212.length : Int) := of_decide_eq_true att7_0_1
              obtain ⟨ad218, e218, hx218_0⟩ := Kd.at_int (Kd.R_reads' HO_5.out).2.2 x7_2 p218 q218
              cases e218
              replace p218 := eq_true p218
              replace q218 := eq_true q218
              have p39 : 0 ≤ ((rd t212 x7_2) : Int) := of_decide_eq_true att7_0_1
              have q39 : ((rd t212 x7_2) : Int) < ((x6_2.length : Int) : Int) := of_decide_eq_true att7_0_1
              obtain ⟨go39, co39, eo39, gb39, gl39, cl39, HG39⟩ := Kd.R_form HO_6.out (by omega)
              (first | cases eo39 | (injection eo39 with ea_ en_ ec_; (first | subst ea_ | (injection ea_ with ea_; subst ea_)); subst ec_; clear en_))
              have GB39 := Aside0.mk gb39
              have GG39 := Aside0.mk HG39
              clear gb39 gl39 HG39
              obtain ⟨hx39_0, hf39_0⟩ := Kd.R_celln 0 HO_6.out ((rd t212 x7_2) : Int) p39 q39
              replace p39 := eq_true p39
              replace q39 := eq_true q39
              have HP41 := Kd.R_putg HO_6.out ((rd t212 x7_2) : Int) x7_2
              go_wp2_with (first | ((with_reducible refine gate_store (t := 3) (p := 66) rfl ?_); refine store_event (t := 3) (p := 66) (v := ?vo_w42) (w1 := (wr.setCell ⟨go39, ((rd t212 x7_2) : Int).toNat, none⟩ (.int .i64 x7_2))) ?hg ?ho ?hn ?hr ?_; (case ho => rfl); (case hg => rfl); (case hn => rfl); (case hr => first | (go_simp; done) | (go_simp; rfl)); intro w42 hw; have hg : wr.grownBy w42 (some go39) := (by rw [hw]; exact HP41.2); have hp_ : Kd.R (Kd.int .i64) 3 w42 w.heap.size (fun k_ => some k_ ≠ (.slice (some ad218) t212.length co40 : Value).ownBlock) (.slice (some ⟨go39, 0, none⟩) x6_2.length co39) y219 := (by rw [hw, Ny219.out]; exact HP41.1); clear HP41; have n0_ := Aside0.mk (Kd.R_over' (v := (.slice (some ⟨go39, 0, none⟩) x6_2.length co39)) att7_0_2 (Kd.R_typed HO_6.out) (by decide) hg); have n1_ := Aside0.mk (Kd.R_after (v := (.slice (some ⟨go39, 0, none⟩) x6_2.length co39)) (v1 := (.slice (some ⟨go39, 0, none⟩) x6_2.length co39)) (ok := (fun _ => True)) (by (with_reducible repeat (first | apply Kd.R_alloc | apply Kd.R_drewN | apply Kd.R_drew)); exact Kd.R_mono HO_5.out (fun _ hk => ⟨trivial, hk⟩)) hg (.inl rfl)); have n2_ := Aside0.mk (hp_); have n3_ := Aside0.mk ((by rw [hw]; exact below_set (HB.out) GB39.out : Below w.heap.size w w42)); clear HO_3; clear HO_5; clear HO_6; clear HB; have HO_3 := n0_; have HO_5 := n1_; have HO_6 := n2_; have HB := n3_; clear n0_ n1_ n2_ n3_; clear hg hw hp_))
              go_roundg k2
              case measure => have := HK1.out; have := HK2.out; omega
              case rel => exact ⟨(y219), (wrap64 (x7_2 + 1)), att7_0_10, H', ⟨by have := HK1.out; have := HK2.out; omega⟩, ⟨att7_0_2⟩, ⟨by (with_reducible repeat (first | apply Kd.R_alloc | apply Kd.R_drewN | apply Kd.R_drew)); exact Kd.R_mono HO_5.out (fun _ hk => hk.2)⟩, ⟨att7_0_6⟩, ⟨att7_0_0⟩⟩
             ·rw [if_neg c38] at H
              exact absurd H (by simp)
            ·rw [if_neg c37] at H
             exact absurd H (by simp)
           ·rw [if_neg c36] at H
            exact absurd H (by simp)
          ·rw [if_neg c35] at H
           have c35b0 : decide (x7_2 < (t212.length : Int)) = false := decide_eq_false c35
           clear c35
           obtain ⟨y220, hy220⟩ : ∃ y_ : List (S63), y_ = (([] : List (S63))) := ⟨_, rfl⟩
           replace H : (spec_PackBody.l2 k2 x3_1 t212 x6_2 y220 0) = some r := by first | (rw [hy220]; with_reducible exact H) | (have H2_ := (Option.bind_some _ _).symm.trans H; rw [hy220]; with_reducible exact H2_) | (have H2_ := (Option.bind_some _ _).symm.trans H; with_reducible exact H2_) | with_reducible exact H | (rw [hy220]; exact H) | exact H
           have Ny220 := Aside0.mk hy220
           clear hy220
           have H' := Aside0.mk H
           clear H
           obtain ⟨Ao43, co43, eo43⟩ := Kd.R_slice HO_5.out
           subst eo43
           go_wp2_with (first | ((with_reducible refine gate_dst (N := 67) rfl ?_); refine Kd.R_lit k63 _ 63 ?hg (N := 67) ?hd (xs := ([] : List (S63))) (inner := []) (ok := fun _ => True) (okp := fun _ => True) ?hr ?hp (fun _ hk => hk) trivial (Below.refl _ _) (Nat.le_refl _) (by simp) ?_; (case hd => rfl); (case hg => rfl); (case hr => first | (go_simp; done) | (go_simp; rfl)); (case hp => exact (Reps.none _ _)); intro v221 w44 ho45 hb hg_ hnew_; clear hg_ hnew_; (first | rw [← Ny220.out] at ho45 | (simp only [Int.reduceToNat] at ho45; rw [← Ny220.out] at ho45)); have n0_ := Aside0.mk (Kd.R_elder' att7_0_2 (Kd.R_base ho45) hb); have n1_ := Aside0.mk (Kd.R_below att7_0_7 hb); have n2_ := Aside0.mk (Kd.R_below att7_0_6 hb); have n3_ := Aside0.mk (Kd.R_lower (Kd.R_new' ho45 (Kd.R_lt att7_0_2)) (below_size att7_0_0)); have n4_ := Aside0.mk (below_step att7_0_0 hb); clear HO_3; clear HO_5; clear HO_6; clear HB; have HO_3 := n0_; have HO_5 := n1_; have HO_6 := n2_; have HO222 := n3_; have HB := n4_; clear n0_ n1_ n2_ n3_ n4_; clear hb ho45))
           go_loopg [8, 9] k2 (fun kq v8 v9 w' => ∃ (x8_3 : List (S63)) (x9_3 : Int), v9 = .int .i64 x9_3 ∧ Aside0 (spec_PackBody.l2 kq x3_1 t212 x6_2 x8_3 x9_3 = some r) ∧ Aside0 (kq ≤ k2) ∧ Aside0 (Kd.R k63 63 w' w.heap.size (fun k_ => some k_ ≠ (v8 : Value).ownBlock) (.slice Ao31 x3_1.length co31) x3_1) ∧ Aside0 (Kd.R (Kd.int .i64) 3 w' w.heap.size (fun k_ => some k_ ≠ (v216 : Value).ownBlock) (.slice Ao43 t212.length co43) t212) ∧ Aside0 (Kd.R (Kd.int .i64) 3 w' w.heap.size (fun k_ => some k_ ≠ ((.slice Ao43 t212.length co43) : Value).ownBlock) v216 x6_2) ∧ Aside0 (Kd.R k63 63 w' w.heap.size (fun k_ => some k_ ≠ ((.slice Ao31 x3_1.length co31) : Value).ownBlock) v8 x8_3) ∧ Aside0 (Below w.heap.size w w'))
           case atStart => exact ⟨(y220), (0), att7_0_10, H', ⟨Nat.le_refl _⟩, ⟨att7_0_9⟩, ⟨att7_0_7⟩, ⟨att7_0_6⟩, ⟨by (with_reducible repeat (first | apply Kd.R_alloc | apply Kd.R_drewN | apply Kd.R_drew)); exact Kd.R_mono HO222.out (fun _ hk => hk.2)⟩, ⟨att7_0_0⟩⟩
           case round =>
            clear H'
            try clear c1
            try clear p1
            try clear q1
            try clear hx1
            try clear hf1
            try clear c2
            try clear p2
            try clear q2
            try clear hx2
            try clear hf2
            try clear c3
            try clear p3
            try clear q3
            try clear hx3
            try clear hf3
            try clear c4
            try clear c6
            try clear p6
            try clear c9
            try clear c9b0
            try clear c10
            try clear c10b0
            try clear c11
            try clear c11b0
            try clear c11b1
            try clear c12
            try clear c12b0
            try clear c13
            try clear c14
            try clear p14
            try clear q14
            try clear hx14
            try clear hf14
            try clear c17
            try clear hx17
            try clear hf17
            try clear c19
            try clear c19b0
            try clear c19b1
            try clear c20
            try clear c20b0
            try clear p20
            try clear q20
            try clear hx20
            try clear p21
            try clear q21
            try clear hx21
            try clear c22
            try clear p22
            try clear q22
            try clear hx22
            try clear hf22
            try clear c25
            try clear hx25
            try clear hf25
            try clear c27
            try clear c29
            try clear c29b0
            try clear c29b1
            try clear c30
            try clear c30b0
            try clear c30b1
            try clear c35
            try clear c35b0
            try clear c36
            try clear c36b0
            try clear c37
            try clear c37b0
            try clear c38
            try clear c38b0
            try clear p39
            try clear q39
            try clear hx39
            try clear hf39
            try clear hx14_0
            try clear hx14_1
            try clear hx14_2
            try clear hx14_3
            try clear hx14_4
            try clear hx17_4
            try clear hx204_0
            try clear hx204_1
            try clear hx204_2
            try clear hx204_3
            try clear hx204_4
            try clear hx205_0
            try clear hx205_1
            try clear hx205_2
            try clear hx205_3
            try clear hx205_4
            try clear hx208_0
            try clear hx208_1
            try clear hx208_2
            try clear hx208_3
            try clear hx208_4
            try clear hx209_0
            try clear hx209_1
            try clear hx209_2
            try clear hx209_3
            try clear hx209_4
            try clear hx218_0
            try clear hx22_0
            try clear hx22_1
            try clear hx22_2
            try clear hx22_3
            try clear hx22_4
            try clear hx25_4
            try clear hx39_0
            try clear p1
            try clear p14
            try clear p2
            try clear p20
            try clear p204
            try clear p205
            try clear p208
            try clear p209
            try clear p218
            try clear p22
            try clear p39
            try clear p6
            try clear q1
            try clear q14
            try clear q2
            try clear q20
            try clear q204
            try clear q205
            try clear q208
            try clear q209
            try clear q218
            try clear q22
            try clear q39
            obtain ⟨x8_3, x9_3, rfl, HA, HK3, HO_3, HO_5, HO_6, HO_8, HB⟩ := hrel
            cases gk with
            | zero => exact absurd HA.out (by simp [spec_PackBody.l2])
            | succ k3 =>
             have H := HA.out
             clear HA
             simp only [spec_PackBody.l2] at H
             by_cases c46 : x9_3 < (t212.length : Int)
             ·rw [if_pos c46] at H
              have c46b0 : decide (x9_3 < (t212.length : Int)) = true := decide_eq_true c46
              clear c46
              by_cases c47 : 0 ≤ x9_3
              ·rw [if_pos c47] at H
               have c47b0 : decide (0 ≤ x9_3) = true := decide_eq_true c47
               clear c47
               by_cases c48 : 0 ≤ (rd t212 x9_3)
               ·rw [if_pos c48] at H
                have c48b0 : decide (0 ≤ (rd t212 x9_3)) = true := decide_eq_true c48
                clear c48
                by_cases c49 : (rd t212 x9_3) < (x3_1.length : Int)
                ·rw [if_pos c49] at H
                 have c49b0 : decide ((rd t212 x9_3) < (x3_1.length : Int)) = true := decide_eq_true c49
                 clear c49
                 by_cases c50 : ((rd_T63 x3_1 (rd t212 x9_3)).f0) = 11
                 ·rw [if_pos c50] at H
                  have c50b0 : (((rd_T63 x3_1 (rd t212 x9_3)).f0) == 11) = true := beq_iff_eq.mpr c50
                  have c50b1 : (((rd_T63 x3_1 (rd t212 x9_3)).f0) != 11) = false := bne_eq_false_iff_eq.mpr c50
                  clear c50
                  by_cases c51 : 0 ≤ ((rd_T63 x3_1 (rd t212 x9_3)).f4)
                  ·rw [if_pos c51] at H
                   have c51b0 : decide (0 ≤ ((rd_T63 x3_1 (rd t212 x9_3)).f4)) = true := decide_eq_true c51
                   clear c51
                   by_cases c52 : ((rd_T63 x3_1 (rd t212 x9_3)).f4) < (x6_2.length : Int)
                   ·rw [if_pos c52] at H
                    have c52b0 : decide (((rd_T63 x3_1 (rd t212 x9_3)).f4) < (x6_2.length : Int)) = true := decide_eq_true c52
                    clear c52
                    by_cases c53 : x8_3.length < 3518437208883
                    ·rw [if_pos c53] at H
                     have LMc53 := Aside0.mk c53
                     clear c53
                     obtain ⟨y227, hy227⟩ : ∃ y_ : List (S63), y_ = (x8_3 ++ [(⟨(rd_T63 x3_1 (rd t212 x9_3)).f0, (rd_T63 x3_1 (rd t212 x9_3)).f1, (rd_T63 x3_1 (rd t212 x9_3)).f2, (rd_T63 x3_1 (rd t212 x9_3)).f3, rd x6_2 ((rd_T63 x3_1 (rd t212 x9_3)).f4)⟩ : S63)]) := ⟨_, rfl⟩
                     replace H : (spec_PackBody.l2 k3 x3_1 t212 x6_2 y227 (wrap64 (x9_3 + 1))) = some r := by first | (rw [hy227]; with_reducible exact H) | (have H2_ := (Option.bind_some _ _).symm.trans H; rw [hy227]; with_reducible exact H2_) | (have H2_ := (Option.bind_some _ _).symm.trans H; with_reducible exact H2_) | with_reducible exact H | (rw [hy227]; exact H) | exact H
                     have Ny227 := Aside0.mk hy227
                     clear hy227
                     have H' := Aside0.mk H
                     clear H
                     have p223 : 0 ≤ (x9_3 : Int) := of_decide_eq_true att7_0_1
                     have q223 : x9_3 < (t212.length : Int) := of_decide_eq_true att7_0_1
                     obtain ⟨ad223, e223, hx223_0⟩ := Kd.at_int (Kd.R_reads' HO_5.out).2.2 x9_3 p223 q223
                     cases e223
                     replace p223 := eq_true p223
                     replace q223 := eq_true q223
                     have p224 : 0 ≤ ((rd t212 x9_3) : Int) := of_decide_eq_true att7_0_1
                     have q224 : (rd t212 x9_3) < (x3_1.length : Int) := of_decide_eq_true att7_0_1
                     obtain ⟨ad224, e224, hx224_0, hx224_1, hx224_2, hx224_3, hx224_4⟩ := at_T63 (Kd.R_reads' HO_3.out).2.2 (rd t212 x9_3) p224 q224
                     cases e224
                     replace p224 := eq_true p224
                     replace q224 := eq_true q224
                     go_upto_region 20 with (first | ((with_reducible refine gate_dst (N := 10) rfl ?_); refine box_event ?hg (N := 10) ?hd (cs := #[.int .i64 0, .int .i64 0, .int .i64 0, .int .i64 0, .int .i64 0]) (t := 63) ?hr ?_; (case hd => rfl); (case hg => rfl); (case hr => first | (go_simp; done) | (go_simp; rfl)); intro gb225 hg w54 hbox hb; have n0_ := Aside0.mk (Kd.R_below (Kd.R_elderB att7_0_2 gb225 (Nat.le_of_eq hg.symm)) hb); have n1_ := Aside0.mk (Kd.R_below att7_0_7 hb); have n2_ := Aside0.mk (Kd.R_below att7_0_6 hb); have n3_ := Aside0.mk (Kd.R_below (Kd.R_elderB att7_0_17 gb225 (Nat.le_of_eq hg.symm)) hb); have n4_ := Aside0.mk (below_step att7_0_0 hb); have n5_ := Aside0.mk (hbox); have n6_ := Aside0.mk ((by rw [hg]; exact (below_size att7_0_0) : w.heap.size ≤ gb225)); have n7_ := Aside0.mk ((by rw [hg]; exact (below_size att7_0_0) : w.heap.size ≤ gb225)); clear HO_3; clear HO_5; clear HO_6; clear HO_8; clear HB; have HO_3 := n0_; have HO_5 := n1_; have HO_6 := n2_; have HO_8 := n3_; have HB := n4_; have BK225 := n5_; have GW225 := n6_; have GE225 := n7_; clear n0_ n1_ n2_ n3_ n4_ n5_ n6_ n7_; clear hb hbox hg; have hcz55_0 : w54.cell? ⟨gb225, 0, none⟩ = some (.int .i64 0) := (blk_cell BK225.out 0).trans rfl; have hcz55_1 : w54.cell? ⟨gb225, 1, none⟩ = some (.int .i64 0) := (blk_cell BK225.out 1).trans rfl; have hcz55_2 : w54.cell? ⟨gb225, 2, none⟩ = some (.int .i64 0) := (blk_cell BK225.out 2).trans rfl; have hcz55_3 : w54.cell? ⟨gb225, 3, none⟩ = some (.int .i64 0) := (blk_cell BK225.out 3).trans rfl; have hcz55_4 : w54.cell? ⟨gb225, 4, none⟩ = some (.int .i64 0) := (blk_cell BK225.out 4).trans rfl; have hfz55_0 := blk_frozen BK225.out 0; have hfz55_1 := blk_frozen BK225.out 1; have hfz55_2 := blk_frozen BK225.out 2; have hfz55_3 := blk_frozen BK225.out 3; have hfz55_4 := blk_frozen BK225.out 4; obtain ⟨Ao56, co56, eo56⟩ := Kd.R_slice HO_6.out; subst eo56; have p226 : 0 ≤ (((rd_T63 x3_1 (rd t212 x9_3)).f4) : Int) := of_decide_eq_true att7_0_1; have q226 : ((rd_T63 x3_1 (rd t212 x9_3)).f4) < (x6_2.length : Int) := of_decide_eq_true att7_0_1; obtain ⟨ad226, e226, hx226_0⟩ := Kd.at_int (Kd.R_reads' HO_6.out).2.2 ((rd_T63 x3_1 (rd t212 x9_3)).f4) p226 q226; cases e226; have hn226_0 : ad226.block ≠ gb225 := Kd.own_blk (Kd.R_ne HO_6.out BK225.out (by decide)); have hn226_1 : ad226.block ≠ gb225 := Kd.own_blk (Kd.R_ne HO_6.out BK225.out (by decide)); have hn226_2 : ad226.block ≠ gb225 := Kd.own_blk (Kd.R_ne HO_6.out BK225.out (by decide)); have hn226_3 : ad226.block ≠ gb225 := Kd.own_blk (Kd.R_ne HO_6.out BK225.out (by decide)); have hn226_4 : ad226.block ≠ gb225 := Kd.own_blk (Kd.R_ne HO_6.out BK225.out (by decide)); replace hx226_0 := (cell_far (p := ⟨gb225, 0, none⟩) (by first | (rw [add_block]; exact hn226_0) | (show (Addr.add _ _).block ≠ _; rw [add_block]; exact hn226_0) | exact hn226_0) (.int .i64 ((rd_T63 x3_1 (rd t212 x9_3)).f0))).trans hx226_0; replace hx226_0 := (cell_far (p := ⟨gb225, 1, none⟩) (by first | (rw [add_block]; exact hn226_1) | (show (Addr.add _ _).block ≠ _; rw [add_block]; exact hn226_1) | exact hn226_1) (.int .i64 ((rd_T63 x3_1 (rd t212 x9_3)).f1))).trans hx226_0; replace hx226_0 := (cell_far (p := ⟨gb225, 2, none⟩) (by first | (rw [add_block]; exact hn226_2) | (show (Addr.add _ _).block ≠ _; rw [add_block]; exact hn226_2) | exact hn226_2) (.int .i64 ((rd_T63 x3_1 (rd t212 x9_3)).f2))).trans hx226_0; replace hx226_0 := (cell_far (p := ⟨gb225, 3, none⟩) (by first | (rw [add_block]; exact hn226_3) | (show (Addr.add _ _).block ≠ _; rw [add_block]; exact hn226_3) | exact hn226_3) (.int .i64 ((rd_T63 x3_1 (rd t212 x9_3)).f3))).trans hx226_0; replace hx226_0 := (cell_far (p := ⟨gb225, 4, none⟩) (by first | (rw [add_block]; exact hn226_4) | (show (Addr.add _ _).block ≠ _; rw [add_block]; exact hn226_4) | exact hn226_4) (.int .i64 ((rd_T63 x3_1 (rd t212 x9_3)).f4))).trans hx226_0; clear hn226_0; clear hn226_1; clear hn226_2; clear hn226_3; clear hn226_4; replace p226 := eq_true p226; replace q226 := eq_true q226))
                     have B5_ := blk5s_ (.int .i64 ((rd_T63 x3_1 (rd t212 x9_3)).f0)) (.int .i64 ((rd_T63 x3_1 (rd t212 x9_3)).f1)) (.int .i64 ((rd_T63 x3_1 (rd t212 x9_3)).f2)) (.int .i64 ((rd_T63 x3_1 (rd t212 x9_3)).f3)) (.int .i64 ((rd_T63 x3_1 (rd t212 x9_3)).f4)) BK225.out
                     obtain ⟨wz225_, hW5_⟩ : ∃ W_, W_ = (((((w54.setCell ⟨gb225, 0, none⟩ (.int .i64 ((rd_T63 x3_1 (rd t212 x9_3)).f0))).setCell ⟨gb225, 1, none⟩ (.int .i64 ((rd_T63 x3_1 (rd t212 x9_3)).f1))).setCell ⟨gb225, 2, none⟩ (.int .i64 ((rd_T63 x3_1 (rd t212 x9_3)).f2))).setCell ⟨gb225, 3, none⟩ (.int .i64 ((rd_T63 x3_1 (rd t212 x9_3)).f3))).setCell ⟨gb225, 4, none⟩ (.int .i64 ((rd_T63 x3_1 (rd t212 x9_3)).f4))) := ⟨_, rfl⟩
                     have n_HO_3 := Aside0.mk (far5s_ (g := gb225) (a0 := (.int .i64 ((rd_T63 x3_1 (rd t212 x9_3)).f0))) (a1 := (.int .i64 ((rd_T63 x3_1 (rd t212 x9_3)).f1))) (a2 := (.int .i64 ((rd_T63 x3_1 (rd t212 x9_3)).f2))) (a3 := (.int .i64 ((rd_T63 x3_1 (rd t212 x9_3)).f3))) (a4 := (.int .i64 ((rd_T63 x3_1 (rd t212 x9_3)).f4))) (Kd.R_mono HO_3.out (fun k_ hk => (⟨hk, hk.2⟩ : _ ∧ k_ ≠ gb225))))
                     have n_HO_5 := Aside0.mk (far5s_ (g := gb225) (a0 := (.int .i64 ((rd_T63 x3_1 (rd t212 x9_3)).f0))) (a1 := (.int .i64 ((rd_T63 x3_1 (rd t212 x9_3)).f1))) (a2 := (.int .i64 ((rd_T63 x3_1 (rd t212 x9_3)).f2))) (a3 := (.int .i64 ((rd_T63 x3_1 (rd t212 x9_3)).f3))) (a4 := (.int .i64 ((rd_T63 x3_1 (rd t212 x9_3)).f4))) (Kd.R_types HO_5.out BK225.out (by decide)))
                     have n_HO_6 := Aside0.mk (far5s_ (g := gb225) (a0 := (.int .i64 ((rd_T63 x3_1 (rd t212 x9_3)).f0))) (a1 := (.int .i64 ((rd_T63 x3_1 (rd t212 x9_3)).f1))) (a2 := (.int .i64 ((rd_T63 x3_1 (rd t212 x9_3)).f2))) (a3 := (.int .i64 ((rd_T63 x3_1 (rd t212 x9_3)).f3))) (a4 := (.int .i64 ((rd_T63 x3_1 (rd t212 x9_3)).f4))) (Kd.R_types HO_6.out BK225.out (by decide)))
                     have n_HO_8 := Aside0.mk (far5s_ (g := gb225) (a0 := (.int .i64 ((rd_T63 x3_1 (rd t212 x9_3)).f0))) (a1 := (.int .i64 ((rd_T63 x3_1 (rd t212 x9_3)).f1))) (a2 := (.int .i64 ((rd_T63 x3_1 (rd t212 x9_3)).f2))) (a3 := (.int .i64 ((rd_T63 x3_1 (rd t212 x9_3)).f3))) (a4 := (.int .i64 ((rd_T63 x3_1 (rd t212 x9_3)).f4))) (Kd.R_mono HO_8.out (fun k_ hk => (⟨hk, hk.2⟩ : _ ∧ k_ ≠ gb225))))
                     have n_HB := Aside0.mk (below5s_ (a0 := (.int .i64 ((rd_T63 x3_1 (rd t212 x9_3)).f0))) (a1 := (.int .i64 ((rd_T63 x3_1 (rd t212 x9_3)).f1))) (a2 := (.int .i64 ((rd_T63 x3_1 (rd t212 x9_3)).f2))) (a3 := (.int .i64 ((rd_T63 x3_1 (rd t212 x9_3)).f3))) (a4 := (.int .i64 ((rd_T63 x3_1 (rd t212 x9_3)).f4))) HB.out GE225.out)
                     rw [← hW5_] at B5_ hx226_0 n_HO_3 n_HO_5 n_HO_6 n_HO_8 n_HB ⊢
                     clear hW5_ hcz55_0 hcz55_1 hcz55_2 hcz55_3 hcz55_4 hfz55_0 hfz55_1 hfz55_2 hfz55_3 hfz55_4 HO_3 HO_5 HO_6 HO_8 HB BK225
                     have HO_3 := n_HO_3
                     have HO_5 := n_HO_5
                     have HO_6 := n_HO_6
                     have HO_8 := n_HO_8
                     have HB := n_HB
                     have BK225 := Aside0.mk B5_
                     clear B5_ n_HO_3 n_HO_5 n_HO_6 n_HO_8 n_HB
                     have hcz55_0 : wz225_.cell? ⟨gb225, 0, none⟩ = some (.int .i64 ((rd_T63 x3_1 (rd t212 x9_3)).f0)) := (blk_cell BK225.out 0).trans rfl
                     have hfz55_0 := blk_frozen BK225.out 0
                     have hcz55_1 : wz225_.cell? ⟨gb225, 1, none⟩ = some (.int .i64 ((rd_T63 x3_1 (rd t212 x9_3)).f1)) := (blk_cell BK225.out 1).trans rfl
                     have hfz55_1 := blk_frozen BK225.out 1
                     have hcz55_2 : wz225_.cell? ⟨gb225, 2, none⟩ = some (.int .i64 ((rd_T63 x3_1 (rd t212 x9_3)).f2)) := (blk_cell BK225.out 2).trans rfl
                     have hfz55_2 := blk_frozen BK225.out 2
                     have hcz55_3 : wz225_.cell? ⟨gb225, 3, none⟩ = some (.int .i64 ((rd_T63 x3_1 (rd t212 x9_3)).f3)) := (blk_cell BK225.out 3).trans rfl
                     have hfz55_3 := blk_frozen BK225.out 3
                     have hcz55_4 : wz225_.cell? ⟨gb225, 4, none⟩ = some (.int .i64 ((rd_T63 x3_1 (rd t212 x9_3)).f4)) := (blk_cell BK225.out 4).trans rfl
                     have hfz55_4 := blk_frozen BK225.out 4
                     go_wp2_with (first | ((with_reducible refine gate_builtin (b := .append) (xs := #[.tmp 95, .tmp 97]) rfl ?_); at_builtin; refine Kd.R_append k63 (w0 := w) w.heap.size rfl (.tmp 95) (.tmp 97) 24 63 (.agg #[(.int .i64 0), (.int .i64 0), (.int .i64 0), (.int .i64 0), (.int .i64 0)]) 40 rfl Try.underlying24 info63 rfl (by decide) (by omega) u8 x8_3 (⟨(rd_T63 x3_1 (rd t212 x9_3)).f0, (rd_T63 x3_1 (rd t212 x9_3)).f1, (rd_T63 x3_1 (rd t212 x9_3)).f2, (rd_T63 x3_1 (rd t212 x9_3)).f3, rd x6_2 ((rd_T63 x3_1 (rd t212 x9_3)).f4)⟩ : S63) [.int .i64 ((rd_T63 x3_1 (rd t212 x9_3)).f0), .int .i64 ((rd_T63 x3_1 (rd t212 x9_3)).f1), .int .i64 ((rd_T63 x3_1 (rd t212 x9_3)).f2), .int .i64 ((rd_T63 x3_1 (rd t212 x9_3)).f3), .int .i64 (rd x6_2 ((rd_T63 x3_1 (rd t212 x9_3)).f4))] (fun k_ => some k_ ≠ (.slice (some ad224) x3_1.length co31 : Value).ownBlock ∧ k_ ≠ gb225) (fun _ => False) rfl att7_0_23 ?aP (fun _ hk => hk.elim) ?aF ?aO ?aB ?aS ?aL ?_; (case aP => exact k63_mkM _ _ _ (⟨(rd_T63 x3_1 (rd t212 x9_3)).f0, (rd_T63 x3_1 (rd t212 x9_3)).f1, (rd_T63 x3_1 (rd t212 x9_3)).f2, (rd_T63 x3_1 (rd t212 x9_3)).f3, rd x6_2 ((rd_T63 x3_1 (rd t212 x9_3)).f4)⟩ : S63)); (case aB => exact att7_0_4); (case aF => exact (fun k_ hk => ⟨Kd.fresh' (Kd.R_lt att7_0_13) k_ hk, Kd.freshB (g := gb225) (o := .cells #[.int .i64 ((rd_T63 x3_1 (rd t212 x9_3)).f0), .int .i64 ((rd_T63 x3_1 (rd t212 x9_3)).f1), .int .i64 ((rd_T63 x3_1 (rd t212 x9_3)).f2), .int .i64 ((rd_T63 x3_1 (rd t212 x9_3)).f3), .int .i64 (rd x6_2 ((rd_T63 x3_1 (rd t212 x9_3)).f4))] 63 (0, 0)) att7_0_3 k_ hk⟩)); (case aO => exact att7_0_11); (case aS => exact (below_size att7_0_4)); (case aL => have := LMc53.out; omega); intro v228 w57 ho hb hg hat; rw [← Ny227.out] at ho; have n0_ := Aside0.mk (Kd.R_after (ok := (fun k_ => k_ ≠ gb225)) att7_0_12 hg hat); have n1_ := Aside0.mk (Kd.R_over' att7_0_15 (Kd.R_typed att7_0_5) (by decide) hg); have n2_ := Aside0.mk (Kd.R_over' att7_0_14 (Kd.R_typed att7_0_5) (by decide) hg); have n3_ := Aside0.mk (blk_grown (g := gb225) (o := .cells #[.int .i64 ((rd_T63 x3_1 (rd t212 x9_3)).f0), .int .i64 ((rd_T63 x3_1 (rd t212 x9_3)).f1), .int .i64 ((rd_T63 x3_1 (rd t212 x9_3)).f2), .int .i64 ((rd_T63 x3_1 (rd t212 x9_3)).f3), .int .i64 (rd x6_2 ((rd_T63 x3_1 (rd t212 x9_3)).f4))] 63 (0, 0)) att7_0_3 hg (Kd.R_away HO_8.out (fun _ hk => hk.2))); have n4_ := Aside0.mk (hb); have n5_ := Aside0.mk (ho); clear HO_3; clear HO_5; clear HO_6; clear BK225; clear HB; clear HO_8; have HO_3 := n0_; have HO_5 := n1_; have HO_6 := n2_; have BK225 := n3_; have HB := n4_; have HO229 := n5_; clear n0_ n1_ n2_ n3_ n4_ n5_; clear ho hb hg hat))
                     go_roundg k3
                     case measure => have := HK1.out; have := HK2.out; have := HK3.out; omega
                     case rel => exact ⟨(y227), (wrap64 (x9_3 + 1)), att7_0_10, H', ⟨att7_0_20⟩, ⟨att7_0_9⟩, ⟨att7_0_7⟩, ⟨att7_0_6⟩, ⟨by (with_reducible repeat (first | apply Kd.R_alloc | apply Kd.R_drewN | apply Kd.R_drew)); exact Kd.R_mono HO229.out (fun _ hk => hk.1)⟩, ⟨att7_0_4⟩⟩
                    ·rw [if_neg c53] at H
                     exact absurd H (by simp)
                   ·rw [if_neg c52] at H
                    exact absurd H (by simp)
                  ·rw [if_neg c51] at H
                   exact absurd H (by simp)
                 ·rw [if_neg c50] at H
                  have c50b0 : (((rd_T63 x3_1 (rd t212 x9_3)).f0) == 11) = false := beq_eq_false_iff_ne.mpr c50
                  have c50b1 : (((rd_T63 x3_1 (rd t212 x9_3)).f0) != 11) = true := bne_iff_ne.mpr c50
                  by_cases c58 : ((rd_T63 x3_1 (rd t212 x9_3)).f0) = 12
                  ·rw [if_pos c58] at H
                   have c58b0 : (((rd_T63 x3_1 (rd t212 x9_3)).f0) == 12) = true := beq_iff_eq.mpr c58
                   have c58b1 : (((rd_T63 x3_1 (rd t212 x9_3)).f0) != 12) = false := bne_eq_false_iff_eq.mpr c58
                   clear c58
                   by_cases c59 : 0 ≤ ((rd_T63 x3_1 (rd t212 x9_3)).f4)
                   ·rw [if_pos c59] at H
                    have c59b0 : decide (0 ≤ ((rd_T63 x3_1 (rd t212 x9_3)).f4)) = true := decide_eq_true c59
                    clear c59
                    by_cases c60 : ((rd_T63 x3_1 (rd t212 x9_3)).f4) < (x6_2.length : Int)
                    ·rw [if_pos c60] at H
                     have c60b0 : decide (((rd_T63 x3_1 (rd t212 x9_3)).f4) < (x6_2.length : Int)) = true := decide_eq_true c60
                     clear c60
                     by_cases c61 : x8_3.length < 3518437208883
                     ·rw [if_pos c61] at H
                      have LMc61 := Aside0.mk c61
                      clear c61
                      obtain ⟨y231, hy231⟩ : ∃ y_ : List (S63), y_ = (x8_3 ++ [(⟨(rd_T63 x3_1 (rd t212 x9_3)).f0, (rd_T63 x3_1 (rd t212 x9_3)).f1, (rd_T63 x3_1 (rd t212 x9_3)).f2, (rd_T63 x3_1 (rd t212 x9_3)).f3, rd x6_2 ((rd_T63 x3_1 (rd t212 x9_3)).f4)⟩ : S63)]) := ⟨_, rfl⟩
                      replace H : (spec_PackBody.l2 k3 x3_1 t212 x6_2 y231 (wrap64 (x9_3 + 1))) = some r := by first | (rw [hy231]; with_reducible exact H) | (have H2_ := (Option.bind_some _ _).symm.trans H; rw [hy231]; with_reducible exact H2_) | (have H2_ := (Option.bind_some _ _).symm.trans H; with_reducible exact H2_) | with_reducible exact H | (rw [hy231]; exact H) | exact H
                      have Ny231 := Aside0.mk hy231
                      clear hy231
                      have H' := Aside0.mk H
                      clear H
                      have p223 : 0 ≤ (x9_3 : Int) := of_decide_eq_true att7_0_1
                      have q223 : x9_3 < (t212.length : Int) := of_decide_eq_true att7_0_1
                      obtain ⟨ad223, e223, hx223_0⟩ := Kd.at_int (Kd.R_reads' HO_5.out).2.2 x9_3 p223 q223
                      cases e223
                      replace p223 := eq_true p223
                      replace q223 := eq_true q223
                      have p224 : 0 ≤ ((rd t212 x9_3) : Int) := of_decide_eq_true att7_0_1
                      have q224 : (rd t212 x9_3) < (x3_1.length : Int) := of_decide_eq_true att7_0_1
                      obtain ⟨ad224, e224, hx224_0, hx224_1, hx224_2, hx224_3, hx224_4⟩ := at_T63 (Kd.R_reads' HO_3.out).2.2 (rd t212 x9_3) p224 q224
                      cases e224
                      replace p224 := eq_true p224
                      replace q224 := eq_true q224
                      go_upto_region 20 with (first | ((with_reducible refine gate_dst (N := 10) rfl ?_); refine box_event ?hg (N := 10) ?hd (cs := #[.int .i64 0, .int .i64 0, .int .i64 0, .int .i64 0, .int .i64 0]) (t := 63) ?hr ?_; (case hd => rfl); (case hg => rfl); (case hr => first | (go_simp; done) | (go_simp; rfl)); intro gb225 hg w62 hbox hb; have n0_ := Aside0.mk (Kd.R_below (Kd.R_elderB att7_0_2 gb225 (Nat.le_of_eq hg.symm)) hb); have n1_ := Aside0.mk (Kd.R_below att7_0_7 hb); have n2_ := Aside0.mk (Kd.R_below att7_0_6 hb); have n3_ := Aside0.mk (Kd.R_below (Kd.R_elderB att7_0_17 gb225 (Nat.le_of_eq hg.symm)) hb); have n4_ := Aside0.mk (below_step att7_0_0 hb); have n5_ := Aside0.mk (hbox); have n6_ := Aside0.mk ((by rw [hg]; exact (below_size att7_0_0) : w.heap.size ≤ gb225)); have n7_ := Aside0.mk ((by rw [hg]; exact (below_size att7_0_0) : w.heap.size ≤ gb225)); clear HO_3; clear HO_5; clear HO_6; clear HO_8; clear HB; have HO_3 := n0_; have HO_5 := n1_; have HO_6 := n2_; have HO_8 := n3_; have HB := n4_; have BK225 := n5_; have GW225 := n6_; have GE225 := n7_; clear n0_ n1_ n2_ n3_ n4_ n5_ n6_ n7_; clear hb hbox hg; have hcz63_0 : w62.cell? ⟨gb225, 0, none⟩ = some (.int .i64 0) := (blk_cell BK225.out 0).trans rfl; have hcz63_1 : w62.cell? ⟨gb225, 1, none⟩ = some (.int .i64 0) := (blk_cell BK225.out 1).trans rfl; have hcz63_2 : w62.cell? ⟨gb225, 2, none⟩ = some (.int .i64 0) := (blk_cell BK225.out 2).trans rfl; have hcz63_3 : w62.cell? ⟨gb225, 3, none⟩ = some (.int .i64 0) := (blk_cell BK225.out 3).trans rfl; have hcz63_4 : w62.cell? ⟨gb225, 4, none⟩ = some (.int .i64 0) := (blk_cell BK225.out 4).trans rfl; have hfz63_0 := blk_frozen BK225.out 0; have hfz63_1 := blk_frozen BK225.out 1; have hfz63_2 := blk_frozen BK225.out 2; have hfz63_3 := blk_frozen BK225.out 3; have hfz63_4 := blk_frozen BK225.out 4; obtain ⟨Ao64, co64, eo64⟩ := Kd.R_slice HO_6.out; subst eo64; have p230 : 0 ≤ (((rd_T63 x3_1 (rd t212 x9_3)).f4) : Int) := of_decide_eq_true att7_0_1; have q230 : ((rd_T63 x3_1 (rd t212 x9_3)).f4) < (x6_2.length : Int) := of_decide_eq_true att7_0_1; obtain ⟨ad230, e230, hx230_0⟩ := Kd.at_int (Kd.R_reads' HO_6.out).2.2 ((rd_T63 x3_1 (rd t212 x9_3)).f4) p230 q230; cases e230; have hn230_0 : ad230.block ≠ gb225 := Kd.own_blk (Kd.R_ne HO_6.out BK225.out (by decide)); have hn230_1 : ad230.block ≠ gb225 := Kd.own_blk (Kd.R_ne HO_6.out BK225.out (by decide)); have hn230_2 : ad230.block ≠ gb225 := Kd.own_blk (Kd.R_ne HO_6.out BK225.out (by decide)); have hn230_3 : ad230.block ≠ gb225 := Kd.own_blk (Kd.R_ne HO_6.out BK225.out (by decide)); have hn230_4 : ad230.block ≠ gb225 := Kd.own_blk (Kd.R_ne HO_6.out BK225.out (by decide)); replace hx230_0 := (cell_far (p := ⟨gb225, 0, none⟩) (by first | (rw [add_block]; exact hn230_0) | (show (Addr.add _ _).block ≠ _; rw [add_block]; exact hn230_0) | exact hn230_0) (.int .i64 ((rd_T63 x3_1 (rd t212 x9_3)).f0))).trans hx230_0; replace hx230_0 := (cell_far (p := ⟨gb225, 1, none⟩) (by first | (rw [add_block]; exact hn230_1) | (show (Addr.add _ _).block ≠ _; rw [add_block]; exact hn230_1) | exact hn230_1) (.int .i64 ((rd_T63 x3_1 (rd t212 x9_3)).f1))).trans hx230_0; replace hx230_0 := (cell_far (p := ⟨gb225, 2, none⟩) (by first | (rw [add_block]; exact hn230_2) | (show (Addr.add _ _).block ≠ _; rw [add_block]; exact hn230_2) | exact hn230_2) (.int .i64 ((rd_T63 x3_1 (rd t212 x9_3)).f2))).trans hx230_0; replace hx230_0 := (cell_far (p := ⟨gb225, 3, none⟩) (by first | (rw [add_block]; exact hn230_3) | (show (Addr.add _ _).block ≠ _; rw [add_block]; exact hn230_3) | exact hn230_3) (.int .i64 ((rd_T63 x3_1 (rd t212 x9_3)).f3))).trans hx230_0; replace hx230_0 := (cell_far (p := ⟨gb225, 4, none⟩) (by first | (rw [add_block]; exact hn230_4) | (show (Addr.add _ _).block ≠ _; rw [add_block]; exact hn230_4) | exact hn230_4) (.int .i64 ((rd_T63 x3_1 (rd t212 x9_3)).f4))).trans hx230_0; clear hn230_0; clear hn230_1; clear hn230_2; clear hn230_3; clear hn230_4; replace p230 := eq_true p230; replace q230 := eq_true q230))
                      have B5_ := blk5s_ (.int .i64 ((rd_T63 x3_1 (rd t212 x9_3)).f0)) (.int .i64 ((rd_T63 x3_1 (rd t212 x9_3)).f1)) (.int .i64 ((rd_T63 x3_1 (rd t212 x9_3)).f2)) (.int .i64 ((rd_T63 x3_1 (rd t212 x9_3)).f3)) (.int .i64 ((rd_T63 x3_1 (rd t212 x9_3)).f4)) BK225.out
                      obtain ⟨wz225_, hW5_⟩ : ∃ W_, W_ = (((((w62.setCell ⟨gb225, 0, none⟩ (.int .i64 ((rd_T63 x3_1 (rd t212 x9_3)).f0))).setCell ⟨gb225, 1, none⟩ (.int .i64 ((rd_T63 x3_1 (rd t212 x9_3)).f1))).setCell ⟨gb225, 2, none⟩ (.int .i64 ((rd_T63 x3_1 (rd t212 x9_3)).f2))).setCell ⟨gb225, 3, none⟩ (.int .i64 ((rd_T63 x3_1 (rd t212 x9_3)).f3))).setCell ⟨gb225, 4, none⟩ (.int .i64 ((rd_T63 x3_1 (rd t212 x9_3)).f4))) := ⟨_, rfl⟩
                      have n_HO_3 := Aside0.mk (far5s_ (g := gb225) (a0 := (.int .i64 ((rd_T63 x3_1 (rd t212 x9_3)).f0))) (a1 := (.int .i64 ((rd_T63 x3_1 (rd t212 x9_3)).f1))) (a2 := (.int .i64 ((rd_T63 x3_1 (rd t212 x9_3)).f2))) (a3 := (.int .i64 ((rd_T63 x3_1 (rd t212 x9_3)).f3))) (a4 := (.int .i64 ((rd_T63 x3_1 (rd t212 x9_3)).f4))) (Kd.R_mono HO_3.out (fun k_ hk => (⟨hk, hk.2⟩ : _ ∧ k_ ≠ gb225))))
                      have n_HO_5 := Aside0.mk (far5s_ (g := gb225) (a0 := (.int .i64 ((rd_T63 x3_1 (rd t212 x9_3)).f0))) (a1 := (.int .i64 ((rd_T63 x3_1 (rd t212 x9_3)).f1))) (a2 := (.int .i64 ((rd_T63 x3_1 (rd t212 x9_3)).f2))) (a3 := (.int .i64 ((rd_T63 x3_1 (rd t212 x9_3)).f3))) (a4 := (.int .i64 ((rd_T63 x3_1 (rd t212 x9_3)).f4))) (Kd.R_types HO_5.out BK225.out (by decide)))
                      have n_HO_6 := Aside0.mk (far5s_ (g := gb225) (a0 := (.int .i64 ((rd_T63 x3_1 (rd t212 x9_3)).f0))) (a1 := (.int .i64 ((rd_T63 x3_1 (rd t212 x9_3)).f1))) (a2 := (.int .i64 ((rd_T63 x3_1 (rd t212 x9_3)).f2))) (a3 := (.int .i64 ((rd_T63 x3_1 (rd t212 x9_3)).f3))) (a4 := (.int .i64 ((rd_T63 x3_1 (rd t212 x9_3)).f4))) (Kd.R_types HO_6.out BK225.out (by decide)))
                      have n_HO_8 := Aside0.mk (far5s_ (g := gb225) (a0 := (.int .i64 ((rd_T63 x3_1 (rd t212 x9_3)).f0))) (a1 := (.int .i64 ((rd_T63 x3_1 (rd t212 x9_3)).f1))) (a2 := (.int .i64 ((rd_T63 x3_1 (rd t212 x9_3)).f2))) (a3 := (.int .i64 ((rd_T63 x3_1 (rd t212 x9_3)).f3))) (a4 := (.int .i64 ((rd_T63 x3_1 (rd t212 x9_3)).f4))) (Kd.R_mono HO_8.out (fun k_ hk => (⟨hk, hk.2⟩ : _ ∧ k_ ≠ gb225))))
                      have n_HB := Aside0.mk (below5s_ (a0 := (.int .i64 ((rd_T63 x3_1 (rd t212 x9_3)).f0))) (a1 := (.int .i64 ((rd_T63 x3_1 (rd t212 x9_3)).f1))) (a2 := (.int .i64 ((rd_T63 x3_1 (rd t212 x9_3)).f2))) (a3 := (.int .i64 ((rd_T63 x3_1 (rd t212 x9_3)).f3))) (a4 := (.int .i64 ((rd_T63 x3_1 (rd t212 x9_3)).f4))) HB.out GE225.out)
                      rw [← hW5_] at B5_ hx230_0 n_HO_3 n_HO_5 n_HO_6 n_HO_8 n_HB ⊢
                      clear hW5_ hcz63_0 hcz63_1 hcz63_2 hcz63_3 hcz63_4 hfz63_0 hfz63_1 hfz63_2 hfz63_3 hfz63_4 HO_3 HO_5 HO_6 HO_8 HB BK225
                      have HO_3 := n_HO_3
                      have HO_5 := n_HO_5
                      have HO_6 := n_HO_6
                      have HO_8 := n_HO_8
                      have HB := n_HB
                      have BK225 := Aside0.mk B5_
                      clear B5_ n_HO_3 n_HO_5 n_HO_6 n_HO_8 n_HB
                      have hcz63_0 : wz225_.cell? ⟨gb225, 0, none⟩ = some (.int .i64 ((rd_T63 x3_1 (rd t212 x9_3)).f0)) := (blk_cell BK225.out 0).trans rfl
                      have hfz63_0 := blk_frozen BK225.out 0
                      have hcz63_1 : wz225_.cell? ⟨gb225, 1, none⟩ = some (.int .i64 ((rd_T63 x3_1 (rd t212 x9_3)).f1)) := (blk_cell BK225.out 1).trans rfl
                      have hfz63_1 := blk_frozen BK225.out 1
                      have hcz63_2 : wz225_.cell? ⟨gb225, 2, none⟩ = some (.int .i64 ((rd_T63 x3_1 (rd t212 x9_3)).f2)) := (blk_cell BK225.out 2).trans rfl
                      have hfz63_2 := blk_frozen BK225.out 2
                      have hcz63_3 : wz225_.cell? ⟨gb225, 3, none⟩ = some (.int .i64 ((rd_T63 x3_1 (rd t212 x9_3)).f3)) := (blk_cell BK225.out 3).trans rfl
                      have hfz63_3 := blk_frozen BK225.out 3
                      have hcz63_4 : wz225_.cell? ⟨gb225, 4, none⟩ = some (.int .i64 ((rd_T63 x3_1 (rd t212 x9_3)).f4)) := (blk_cell BK225.out 4).trans rfl
                      have hfz63_4 := blk_frozen BK225.out 4
                      go_wp2_with (first | ((with_reducible refine gate_builtin (b := .append) (xs := #[.tmp 95, .tmp 97]) rfl ?_); at_builtin; refine Kd.R_append k63 (w0 := w) w.heap.size rfl (.tmp 95) (.tmp 97) 24 63 (.agg #[(.int .i64 0), (.int .i64 0), (.int .i64 0), (.int .i64 0), (.int .i64 0)]) 40 rfl Try.underlying24 info63 rfl (by decide) (by omega) u8 x8_3 (⟨(rd_T63 x3_1 (rd t212 x9_3)).f0, (rd_T63 x3_1 (rd t212 x9_3)).f1, (rd_T63 x3_1 (rd t212 x9_3)).f2, (rd_T63 x3_1 (rd t212 x9_3)).f3, rd x6_2 ((rd_T63 x3_1 (rd t212 x9_3)).f4)⟩ : S63) [.int .i64 ((rd_T63 x3_1 (rd t212 x9_3)).f0), .int .i64 ((rd_T63 x3_1 (rd t212 x9_3)).f1), .int .i64 ((rd_T63 x3_1 (rd t212 x9_3)).f2), .int .i64 ((rd_T63 x3_1 (rd t212 x9_3)).f3), .int .i64 (rd x6_2 ((rd_T63 x3_1 (rd t212 x9_3)).f4))] (fun k_ => some k_ ≠ (.slice (some ad224) x3_1.length co31 : Value).ownBlock ∧ k_ ≠ gb225) (fun _ => False) rfl att7_0_23 ?aP (fun _ hk => hk.elim) ?aF ?aO ?aB ?aS ?aL ?_; (case aP => exact k63_mkM _ _ _ (⟨(rd_T63 x3_1 (rd t212 x9_3)).f0, (rd_T63 x3_1 (rd t212 x9_3)).f1, (rd_T63 x3_1 (rd t212 x9_3)).f2, (rd_T63 x3_1 (rd t212 x9_3)).f3, rd x6_2 ((rd_T63 x3_1 (rd t212 x9_3)).f4)⟩ : S63)); (case aB => exact att7_0_4); (case aF => exact (fun k_ hk => ⟨Kd.fresh' (Kd.R_lt att7_0_13) k_ hk, Kd.freshB (g := gb225) (o := .cells #[.int .i64 ((rd_T63 x3_1 (rd t212 x9_3)).f0), .int .i64 ((rd_T63 x3_1 (rd t212 x9_3)).f1), .int .i64 ((rd_T63 x3_1 (rd t212 x9_3)).f2), .int .i64 ((rd_T63 x3_1 (rd t212 x9_3)).f3), .int .i64 (rd x6_2 ((rd_T63 x3_1 (rd t212 x9_3)).f4))] 63 (0, 0)) att7_0_3 k_ hk⟩)); (case aO => exact att7_0_11); (case aS => exact (below_size att7_0_4)); (case aL => have := LMc61.out; omega); intro v232 w65 ho hb hg hat; rw [← Ny231.out] at ho; have n0_ := Aside0.mk (Kd.R_after (ok := (fun k_ => k_ ≠ gb225)) att7_0_12 hg hat); have n1_ := Aside0.mk (Kd.R_over' att7_0_15 (Kd.R_typed att7_0_5) (by decide) hg); have n2_ := Aside0.mk (Kd.R_over' att7_0_14 (Kd.R_typed att7_0_5) (by decide) hg); have n3_ := Aside0.mk (blk_grown (g := gb225) (o := .cells #[.int .i64 ((rd_T63 x3_1 (rd t212 x9_3)).f0), .int .i64 ((rd_T63 x3_1 (rd t212 x9_3)).f1), .int .i64 ((rd_T63 x3_1 (rd t212 x9_3)).f2), .int .i64 ((rd_T63 x3_1 (rd t212 x9_3)).f3), .int .i64 (rd x6_2 ((rd_T63 x3_1 (rd t212 x9_3)).f4))] 63 (0, 0)) att7_0_3 hg (Kd.R_away HO_8.out (fun _ hk => hk.2))); have n4_ := Aside0.mk (hb); have n5_ := Aside0.mk (ho); clear HO_3; clear HO_5; clear HO_6; clear BK225; clear HB; clear HO_8; have HO_3 := n0_; have HO_5 := n1_; have HO_6 := n2_; have BK225 := n3_; have HB := n4_; have HO233 := n5_; clear n0_ n1_ n2_ n3_ n4_ n5_; clear ho hb hg hat))
                      go_roundg k3
                      case measure => have := HK1.out; have := HK2.out; have := HK3.out; omega
                      case rel => exact ⟨(y231), (wrap64 (x9_3 + 1)), att7_0_10, H', ⟨att7_0_20⟩, ⟨att7_0_9⟩, ⟨att7_0_7⟩, ⟨att7_0_6⟩, ⟨by (with_reducible repeat (first | apply Kd.R_alloc | apply Kd.R_drewN | apply Kd.R_drew)); exact Kd.R_mono HO233.out (fun _ hk => hk.1)⟩, ⟨att7_0_4⟩⟩
                     ·rw [if_neg c61] at H
                      exact absurd H (by simp)
                    ·rw [if_neg c60] at H
                     exact absurd H (by simp)
                   ·rw [if_neg c59] at H
                    exact absurd H (by simp)
                  ·rw [if_neg c58] at H
                   have c58b0 : (((rd_T63 x3_1 (rd t212 x9_3)).f0) == 12) = false := beq_eq_false_iff_ne.mpr c58
                   have c58b1 : (((rd_T63 x3_1 (rd t212 x9_3)).f0) != 12) = true := bne_iff_ne.mpr c58
                   by_cases c66 : x8_3.length < 3518437208883
                   ·rw [if_pos c66] at H
                    have LMc66 := Aside0.mk c66
                    clear c66
                    obtain ⟨y234, hy234⟩ : ∃ y_ : List (S63), y_ = (x8_3 ++ [(⟨(rd_T63 x3_1 (rd t212 x9_3)).f0, (rd_T63 x3_1 (rd t212 x9_3)).f1, (rd_T63 x3_1 (rd t212 x9_3)).f2, (rd_T63 x3_1 (rd t212 x9_3)).f3, (rd_T63 x3_1 (rd t212 x9_3)).f4⟩ : S63)]) := ⟨_, rfl⟩
                    replace H : (spec_PackBody.l2 k3 x3_1 t212 x6_2 y234 (wrap64 (x9_3 + 1))) = some r := by first | (rw [hy234]; with_reducible exact H) | (have H2_ := (Option.bind_some _ _).symm.trans H; rw [hy234]; with_reducible exact H2_) | (have H2_ := (Option.bind_some _ _).symm.trans H; with_reducible exact H2_) | with_reducible exact H | (rw [hy234]; exact H) | exact H
                    have Ny234 := Aside0.mk hy234
                    clear hy234
                    have H' := Aside0.mk H
                    clear H
                    have p223 : 0 ≤ (x9_3 : Int) := of_decide_eq_true att7_0_1
                    have q223 : x9_3 < (t212.length : Int) := of_decide_eq_true att7_0_1
                    obtain ⟨ad223, e223, hx223_0⟩ := Kd.at_int (Kd.R_reads' HO_5.out).2.2 x9_3 p223 q223
                    cases e223
                    replace p223 := eq_true p223
                    replace q223 := eq_true q223
                    have p224 : 0 ≤ ((rd t212 x9_3) : Int) := of_decide_eq_true att7_0_1
                    have q224 : (rd t212 x9_3) < (x3_1.length : Int) := of_decide_eq_true att7_0_1
                    obtain ⟨ad224, e224, hx224_0, hx224_1, hx224_2, hx224_3, hx224_4⟩ := at_T63 (Kd.R_reads' HO_3.out).2.2 (rd t212 x9_3) p224 q224
                    cases e224
                    replace p224 := eq_true p224
                    replace q224 := eq_true q224
                    go_upto_region 20 with (first | ((with_reducible refine gate_dst (N := 10) rfl ?_); refine box_event ?hg (N := 10) ?hd (cs := #[.int .i64 0, .int .i64 0, .int .i64 0, .int .i64 0, .int .i64 0]) (t := 63) ?hr ?_; (case hd => rfl); (case hg => rfl); (case hr => first | (go_simp; done) | (go_simp; rfl)); intro gb225 hg w67 hbox hb; have n0_ := Aside0.mk (Kd.R_below (Kd.R_elderB att7_0_2 gb225 (Nat.le_of_eq hg.symm)) hb); have n1_ := Aside0.mk (Kd.R_below att7_0_7 hb); have n2_ := Aside0.mk (Kd.R_below att7_0_6 hb); have n3_ := Aside0.mk (Kd.R_below (Kd.R_elderB att7_0_17 gb225 (Nat.le_of_eq hg.symm)) hb); have n4_ := Aside0.mk (below_step att7_0_0 hb); have n5_ := Aside0.mk (hbox); have n6_ := Aside0.mk ((by rw [hg]; exact (below_size att7_0_0) : w.heap.size ≤ gb225)); have n7_ := Aside0.mk ((by rw [hg]; exact (below_size att7_0_0) : w.heap.size ≤ gb225)); clear HO_3; clear HO_5; clear HO_6; clear HO_8; clear HB; have HO_3 := n0_; have HO_5 := n1_; have HO_6 := n2_; have HO_8 := n3_; have HB := n4_; have BK225 := n5_; have GW225 := n6_; have GE225 := n7_; clear n0_ n1_ n2_ n3_ n4_ n5_ n6_ n7_; clear hb hbox hg; have hcz68_0 : w67.cell? ⟨gb225, 0, none⟩ = some (.int .i64 0) := (blk_cell BK225.out 0).trans rfl; have hcz68_1 : w67.cell? ⟨gb225, 1, none⟩ = some (.int .i64 0) := (blk_cell BK225.out 1).trans rfl; have hcz68_2 : w67.cell? ⟨gb225, 2, none⟩ = some (.int .i64 0) := (blk_cell BK225.out 2).trans rfl; have hcz68_3 : w67.cell? ⟨gb225, 3, none⟩ = some (.int .i64 0) := (blk_cell BK225.out 3).trans rfl; have hcz68_4 : w67.cell? ⟨gb225, 4, none⟩ = some (.int .i64 0) := (blk_cell BK225.out 4).trans rfl; have hfz68_0 := blk_frozen BK225.out 0; have hfz68_1 := blk_frozen BK225.out 1; have hfz68_2 := blk_frozen BK225.out 2; have hfz68_3 := blk_frozen BK225.out 3; have hfz68_4 := blk_frozen BK225.out 4))
                    have B5_ := blk5s_ (.int .i64 ((rd_T63 x3_1 (rd t212 x9_3)).f0)) (.int .i64 ((rd_T63 x3_1 (rd t212 x9_3)).f1)) (.int .i64 ((rd_T63 x3_1 (rd t212 x9_3)).f2)) (.int .i64 ((rd_T63 x3_1 (rd t212 x9_3)).f3)) (.int .i64 ((rd_T63 x3_1 (rd t212 x9_3)).f4)) BK225.out
                    obtain ⟨wz225_, hW5_⟩ : ∃ W_, W_ = (((((w67.setCell ⟨gb225, 0, none⟩ (.int .i64 ((rd_T63 x3_1 (rd t212 x9_3)).f0))).setCell ⟨gb225, 1, none⟩ (.int .i64 ((rd_T63 x3_1 (rd t212 x9_3)).f1))).setCell ⟨gb225, 2, none⟩ (.int .i64 ((rd_T63 x3_1 (rd t212 x9_3)).f2))).setCell ⟨gb225, 3, none⟩ (.int .i64 ((rd_T63 x3_1 (rd t212 x9_3)).f3))).setCell ⟨gb225, 4, none⟩ (.int .i64 ((rd_T63 x3_1 (rd t212 x9_3)).f4))) := ⟨_, rfl⟩
                    have n_HO_3 := Aside0.mk (far5s_ (g := gb225) (a0 := (.int .i64 ((rd_T63 x3_1 (rd t212 x9_3)).f0))) (a1 := (.int .i64 ((rd_T63 x3_1 (rd t212 x9_3)).f1))) (a2 := (.int .i64 ((rd_T63 x3_1 (rd t212 x9_3)).f2))) (a3 := (.int .i64 ((rd_T63 x3_1 (rd t212 x9_3)).f3))) (a4 := (.int .i64 ((rd_T63 x3_1 (rd t212 x9_3)).f4))) (Kd.R_mono HO_3.out (fun k_ hk => (⟨hk, hk.2⟩ : _ ∧ k_ ≠ gb225))))
                    have n_HO_5 := Aside0.mk (far5s_ (g := gb225) (a0 := (.int .i64 ((rd_T63 x3_1 (rd t212 x9_3)).f0))) (a1 := (.int .i64 ((rd_T63 x3_1 (rd t212 x9_3)).f1))) (a2 := (.int .i64 ((rd_T63 x3_1 (rd t212 x9_3)).f2))) (a3 := (.int .i64 ((rd_T63 x3_1 (rd t212 x9_3)).f3))) (a4 := (.int .i64 ((rd_T63 x3_1 (rd t212 x9_3)).f4))) (Kd.R_types HO_5.out BK225.out (by decide)))
                    have n_HO_6 := Aside0.mk (far5s_ (g := gb225) (a0 := (.int .i64 ((rd_T63 x3_1 (rd t212 x9_3)).f0))) (a1 := (.int .i64 ((rd_T63 x3_1 (rd t212 x9_3)).f1))) (a2 := (.int .i64 ((rd_T63 x3_1 (rd t212 x9_3)).f2))) (a3 := (.int .i64 ((rd_T63 x3_1 (rd t212 x9_3)).f3))) (a4 := (.int .i64 ((rd_T63 x3_1 (rd t212 x9_3)).f4))) (Kd.R_types HO_6.out BK225.out (by decide)))
                    have n_HO_8 := Aside0.mk (far5s_ (g := gb225) (a0 := (.int .i64 ((rd_T63 x3_1 (rd t212 x9_3)).f0))) (a1 := (.int .i64 ((rd_T63 x3_1 (rd t212 x9_3)).f1))) (a2 := (.int .i64 ((rd_T63 x3_1 (rd t212 x9_3)).f2))) (a3 := (.int .i64 ((rd_T63 x3_1 (rd t212 x9_3)).f3))) (a4 := (.int .i64 ((rd_T63 x3_1 (rd t212 x9_3)).f4))) (Kd.R_mono HO_8.out (fun k_ hk => (⟨hk, hk.2⟩ : _ ∧ k_ ≠ gb225))))
                    have n_HB := Aside0.mk (below5s_ (a0 := (.int .i64 ((rd_T63 x3_1 (rd t212 x9_3)).f0))) (a1 := (.int .i64 ((rd_T63 x3_1 (rd t212 x9_3)).f1))) (a2 := (.int .i64 ((rd_T63 x3_1 (rd t212 x9_3)).f2))) (a3 := (.int .i64 ((rd_T63 x3_1 (rd t212 x9_3)).f3))) (a4 := (.int .i64 ((rd_T63 x3_1 (rd t212 x9_3)).f4))) HB.out GE225.out)
                    rw [← hW5_] at B5_ n_HO_3 n_HO_5 n_HO_6 n_HO_8 n_HB ⊢
                    clear hW5_ hcz68_0 hcz68_1 hcz68_2 hcz68_3 hcz68_4 hfz68_0 hfz68_1 hfz68_2 hfz68_3 hfz68_4 HO_3 HO_5 HO_6 HO_8 HB BK225
                    have HO_3 := n_HO_3
                    have HO_5 := n_HO_5
                    have HO_6 := n_HO_6
                    have HO_8 := n_HO_8
                    have HB := n_HB
                    have BK225 := Aside0.mk B5_
                    clear B5_ n_HO_3 n_HO_5 n_HO_6 n_HO_8 n_HB
                    have hcz68_0 : wz225_.cell? ⟨gb225, 0, none⟩ = some (.int .i64 ((rd_T63 x3_1 (rd t212 x9_3)).f0)) := (blk_cell BK225.out 0).trans rfl
                    have hfz68_0 := blk_frozen BK225.out 0
                    have hcz68_1 : wz225_.cell? ⟨gb225, 1, none⟩ = some (.int .i64 ((rd_T63 x3_1 (rd t212 x9_3)).f1)) := (blk_cell BK225.out 1).trans rfl
                    have hfz68_1 := blk_frozen BK225.out 1
                    have hcz68_2 : wz225_.cell? ⟨gb225, 2, none⟩ = some (.int .i64 ((rd_T63 x3_1 (rd t212 x9_3)).f2)) := (blk_cell BK225.out 2).trans rfl
                    have hfz68_2 := blk_frozen BK225.out 2
                    have hcz68_3 : wz225_.cell? ⟨gb225, 3, none⟩ = some (.int .i64 ((rd_T63 x3_1 (rd t212 x9_3)).f3)) := (blk_cell BK225.out 3).trans rfl
                    have hfz68_3 := blk_frozen BK225.out 3
                    have hcz68_4 : wz225_.cell? ⟨gb225, 4, none⟩ = some (.int .i64 ((rd_T63 x3_1 (rd t212 x9_3)).f4)) := (blk_cell BK225.out 4).trans rfl
                    have hfz68_4 := blk_frozen BK225.out 4
                    go_wp2_with (first | ((with_reducible refine gate_builtin (b := .append) (xs := #[.tmp 95, .tmp 97]) rfl ?_); at_builtin; refine Kd.R_append k63 (w0 := w) w.heap.size rfl (.tmp 95) (.tmp 97) 24 63 (.agg #[(.int .i64 0), (.int .i64 0), (.int .i64 0), (.int .i64 0), (.int .i64 0)]) 40 rfl Try.underlying24 info63 rfl (by decide) (by omega) u8 x8_3 (⟨(rd_T63 x3_1 (rd t212 x9_3)).f0, (rd_T63 x3_1 (rd t212 x9_3)).f1, (rd_T63 x3_1 (rd t212 x9_3)).f2, (rd_T63 x3_1 (rd t212 x9_3)).f3, (rd_T63 x3_1 (rd t212 x9_3)).f4⟩ : S63) [.int .i64 ((rd_T63 x3_1 (rd t212 x9_3)).f0), .int .i64 ((rd_T63 x3_1 (rd t212 x9_3)).f1), .int .i64 ((rd_T63 x3_1 (rd t212 x9_3)).f2), .int .i64 ((rd_T63 x3_1 (rd t212 x9_3)).f3), .int .i64 ((rd_T63 x3_1 (rd t212 x9_3)).f4)] (fun k_ => some k_ ≠ (.slice (some ad224) x3_1.length co31 : Value).ownBlock ∧ k_ ≠ gb225) (fun _ => False) rfl att7_0_23 ?aP (fun _ hk => hk.elim) ?aF ?aO ?aB ?aS ?aL ?_; (case aP => exact k63_mkM _ _ _ (⟨(rd_T63 x3_1 (rd t212 x9_3)).f0, (rd_T63 x3_1 (rd t212 x9_3)).f1, (rd_T63 x3_1 (rd t212 x9_3)).f2, (rd_T63 x3_1 (rd t212 x9_3)).f3, (rd_T63 x3_1 (rd t212 x9_3)).f4⟩ : S63)); (case aB => exact att7_0_4); (case aF => exact (fun k_ hk => ⟨Kd.fresh' (Kd.R_lt (by (with_reducible repeat (first | apply Kd.R_alloc | apply Kd.R_drewN | apply Kd.R_drew)); exact (Kd.R_mono (Kd.R_mono HO_3.out (fun k_ hk => (⟨hk, hk.2⟩ : _ ∧ k_ ≠ gb225))) (fun _ h_ => h_.1)))) k_ hk, Kd.freshB (g := gb225) (o := .cells #[.int .i64 ((rd_T63 x3_1 (rd t212 x9_3)).f0), .int .i64 ((rd_T63 x3_1 (rd t212 x9_3)).f1), .int .i64 ((rd_T63 x3_1 (rd t212 x9_3)).f2), .int .i64 ((rd_T63 x3_1 (rd t212 x9_3)).f3), .int .i64 ((rd_T63 x3_1 (rd t212 x9_3)).f4)] 63 (0, 0)) att7_0_19 k_ hk⟩)); (case aO => exact (by (with_reducible repeat (first | apply Kd.R_alloc | apply Kd.R_drewN | apply Kd.R_drew)); exact Kd.R_mono (Kd.R_mono HO_8.out (fun k_ hk => (⟨hk, hk.2⟩ : _ ∧ k_ ≠ gb225))) (fun _ hk => ⟨hk.1.1, hk.1.2⟩))); (case aS => exact (below_size att7_0_4)); (case aL => have := LMc66.out; omega); intro v235 w69 ho hb hg hat; rw [← Ny234.out] at ho; have n0_ := Aside0.mk (Kd.R_after (ok := (fun k_ => k_ ≠ gb225)) (by (with_reducible repeat (first | apply Kd.R_alloc | apply Kd.R_drewN | apply Kd.R_drew)); exact Kd.R_mono (Kd.R_mono HO_3.out (fun k_ hk => (⟨hk, hk.2⟩ : _ ∧ k_ ≠ gb225))) (fun _ hk => ⟨hk.1.2, hk.1.1⟩)) hg hat); have n1_ := Aside0.mk (Kd.R_over' (by (with_reducible repeat (first | apply Kd.R_alloc | apply Kd.R_drewN | apply Kd.R_drew)); exact (Kd.R_mono (Kd.R_types HO_5.out BK225.out (by decide)) (fun _ h_ => h_.1))) (Kd.R_typed att7_0_18) (by decide) hg); have n2_ := Aside0.mk (Kd.R_over' (by (with_reducible repeat (first | apply Kd.R_alloc | apply Kd.R_drewN | apply Kd.R_drew)); exact (Kd.R_mono (Kd.R_types HO_6.out BK225.out (by decide)) (fun _ h_ => h_.1))) (Kd.R_typed att7_0_18) (by decide) hg); have n3_ := Aside0.mk (blk_grown (g := gb225) (o := .cells #[.int .i64 ((rd_T63 x3_1 (rd t212 x9_3)).f0), .int .i64 ((rd_T63 x3_1 (rd t212 x9_3)).f1), .int .i64 ((rd_T63 x3_1 (rd t212 x9_3)).f2), .int .i64 ((rd_T63 x3_1 (rd t212 x9_3)).f3), .int .i64 ((rd_T63 x3_1 (rd t212 x9_3)).f4)] 63 (0, 0)) att7_0_19 hg (Kd.R_away HO_8.out (fun _ hk => hk.2))); have n4_ := Aside0.mk (hb); have n5_ := Aside0.mk (ho); clear HO_3; clear HO_5; clear HO_6; clear BK225; clear HB; clear HO_8; have HO_3 := n0_; have HO_5 := n1_; have HO_6 := n2_; have BK225 := n3_; have HB := n4_; have HO236 := n5_; clear n0_ n1_ n2_ n3_ n4_ n5_; clear ho hb hg hat))
                    go_roundg k3
                    case measure => have := HK1.out; have := HK2.out; have := HK3.out; omega
                    case rel => exact ⟨(y234), (wrap64 (x9_3 + 1)), att7_0_10, H', ⟨att7_0_20⟩, ⟨att7_0_9⟩, ⟨att7_0_7⟩, ⟨att7_0_6⟩, ⟨by (with_reducible repeat (first | apply Kd.R_alloc | apply Kd.R_drewN | apply Kd.R_drew)); exact Kd.R_mono HO236.out (fun _ hk => hk.1)⟩, ⟨att7_0_4⟩⟩
                   ·rw [if_neg c66] at H
                    exact absurd H (by simp)
                ·rw [if_neg c49] at H
                 exact absurd H (by simp)
               ·rw [if_neg c48] at H
                exact absurd H (by simp)
              ·rw [if_neg c47] at H
               exact absurd H (by simp)
             ·rw [if_neg c46] at H
              have c46b0 : decide (x9_3 < (t212.length : Int)) = false := decide_eq_false c46
              clear c46
              obtain rfl := Option.some.inj H
              go_wp2
              go_ret
              exact ⟨_, by first | rfl | (simp [errW_none, errW_some] <;> rfl) | (simp [*, errW_none, errW_some] <;> rfl), by (with_reducible repeat (first | apply Kd.R_alloc | apply Kd.R_drewN | apply Kd.R_drew)); exact Kd.R_mono HO_8.out (fun _ hk => trivial), att7_0_0⟩
       ·rw [if_neg c30] at H
        exact absurd H (by simp)
      ·rw [if_neg c29] at H
       exact absurd H (by simp)
  ·replace c4 := Bool.eq_false_iff.mpr c4
   subst c4
   rw [if_neg (show ¬ (false = true) by decide)] at H
   obtain rfl := Option.some.inj H
   go_enter Try.func13, Try.ntmps13
   go_wp2_with (first | ((with_reducible refine gate_dst (N := 11) rfl ?_); refine Kd.R_lit k63 _ 63 ?hg (N := 11) ?hd (xs := ([] : List (S63))) (inner := []) (ok := fun _ => True) (okp := fun _ => True) ?hr ?hp (fun _ hk => hk) trivial (Below.refl _ _) (Nat.le_refl _) (by simp) ?_; (case hd => rfl); (case hg => rfl); (case hr => first | (go_simp; done) | (go_simp; rfl)); (case hp => exact (Reps.none _ _)); intro v198 w70 ho71 hb hg_ hnew_; clear hg_ hnew_; (first | rw [← Ny197.out] at ho71 | (simp only [Int.reduceToNat] at ho71; rw [← Ny197.out] at ho71)); have n0_ := Aside0.mk (Kd.R_lower ho71 (below_size att7_0_0)); have n1_ := Aside0.mk (below_step att7_0_0 hb); clear HB; have HO199 := n0_; have HB := n1_; clear n0_ n1_; clear hb ho71) | ((with_reducible refine gate_builtin (b := .append) (xs := #[.tmp 11, .tmp 12]) rfl ?_); at_builtin; refine Kd.R_append_rows k63 (w0 := w) w.heap.size rfl (.tmp 11) (.tmp 12) 24 63 (.agg #[(.int .i64 0), (.int .i64 0), (.int .i64 0), (.int .i64 0), (.int .i64 0)]) 40 rfl Try.underlying24 info63 rfl (by decide) (by omega) v198 y197 l0 _ _ _ (fun _ => True) (fun _ => False) rfl rfl ?aO ?aR (fun _ _ h => h) (fun _ h => h.elim) ?aF ?aB ?aS ?aL ?_; (case aR => repeat (first | exact (Kd.C_below HR0.out HB.out) | (with_reducible refine Kd.C_alloc ?_ _) | (with_reducible refine Kd.C_drewN ?_ _) | (with_reducible refine Kd.C_drew ?_))); (case aB => exact att7_0_0); (case aF => exact (fun _ _ => trivial)); (case aO => exact att7_0_22); (case aS => exact (below_size att7_0_0)); (case aL => have := LMc2.out; omega); intro v201 w72 ho hb hg hat; rw [← Ny200.out] at ho; have n0_ := Aside0.mk (hb); have n1_ := Aside0.mk (ho); clear HB; clear HO199; have HB := n0_; have HO202 := n1_; clear n0_ n1_; clear ho hb hg hat) | ((with_reducible refine gate_callee (f := 63) rfl ?_); refine goesL_ (some 15) rfl rfl Try.func63 (by kernel_rfl) rfl #[.slice A0 l0.length c0, .int .i64 3] rfl att7_0_8 ?_; (with_reducible refine (spec_BodyOk.calls k _ _ l0 3 false _ ?side1 ?side2 A3.out).mono ?_); (case side1 => repeat (first | exact (Kd.C_below HR0.out HB.out) | (with_reducible refine Kd.C_alloc ?_ _) | (with_reducible refine Kd.C_drewN ?_ _) | (with_reducible refine Kd.C_drew ?_))); (case side2 => exact HC0.out); rintro e w73 ⟨rfl, hb⟩; refine ⟨_, rfl, ?_⟩; have n0_ := Aside0.mk (Kd.R_below att7_0_16 hb); have n1_ := Aside0.mk (below_step att7_0_0 hb); clear HO202; clear HB; have HO202 := n0_; have HB := n1_; clear n0_ n1_; (try clear hb); (try clear hb2); (try clear hk); (try clear hi)))
   go_ret
   exact ⟨_, by first | rfl | (simp [errW_none, errW_some] <;> rfl) | (simp [*, errW_none, errW_some] <;> rfl), by (with_reducible repeat (first | apply Kd.R_alloc | apply Kd.R_drewN | apply Kd.R_drew)); exact HO202.out, att7_0_0⟩
 ·rw [if_neg c2] at H
  exact absurd H (by simp)

end Go.Proofs.Ytocimkpafakiaaa.XFnExactPackProg
