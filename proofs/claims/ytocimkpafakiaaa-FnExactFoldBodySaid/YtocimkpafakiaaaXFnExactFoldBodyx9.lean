/- Each Go function that the law reaches as a Lean function, and that Go comes to just its answer; written by this session's xprint.py over the kit's printer. -/
import Derived.Test.YtocimkpafakiaaaXFnExactFoldBodyx0
import Derived.Test.YtocimkpafakiaaaXFnExactFoldBodyx6
import Derived.Test.YtocimkpafakiaaaXFnExactFoldBodyx7
import Derived.Test.YtocimkpafakiaaaXFnExactFoldBodyx8
namespace Go.Proofs.Ytocimkpafakiaaa.XFnExactFoldBody
open Go.RowKit Go.Proofs.YtocimkpafakiaaaW.PrintWords Go.Proofs.YtocimkpafakiaaaW.PrintLast Go.Proofs.YtocimkpafakiaaaW.PrintMore
attribute [local go_sem] max2_int min2_int max_two min_two max_three min_three max_four min_four   -- for this text's walks alone
set_option linter.unusedVariables false
set_option linter.unusedSimpArgs false

theorem att10_0_0 {p : Prop} (h : p := by repeat (first | (with_reducible first | exact HB.out | apply below_alloc | apply pw_below_drewN | apply below_drew1) | exact HB.out)) : p := h
theorem att10_0_1 {p : Prop} (h : p := by (with_reducible repeat (first | apply Kd.R_alloc | apply Kd.R_drewN | apply Kd.R_drew)); exact HO_7.out) : p := h
theorem att10_0_2 {p : Prop} (h : p := by first | (with_reducible assumption) | assumption) : p := h
theorem att10_0_3 {p : Prop} (h : p := by (with_reducible repeat (first | apply Kd.R_alloc | apply Kd.R_drewN | apply Kd.R_drew)); exact HO_4.out) : p := h
theorem att10_0_4 {p : Prop} (h : p := by (with_reducible repeat (first | apply Kd.S_alloc | apply Kd.S_drewN | apply Kd.S_drew)); exact HO_3.out) : p := h
theorem att10_0_5 {p : Prop} (h : p := by (with_reducible repeat (first | apply Kd.R_alloc | apply Kd.R_drewN | apply Kd.R_drew)); exact HO_9.out) : p := h
theorem att10_0_6 {p : Prop} (h : p := by (with_reducible repeat (first | apply Kd.R_alloc | apply Kd.R_drewN | apply Kd.R_drew)); exact HO_10.out) : p := h
theorem att10_0_7 {p : Prop} (h : p := by (try simp only [List.map_toArray, List.map_cons, List.map_nil]); first | done | rfl | (simp only [List.length_drop, List.length_take]; rfl)) : p := h
theorem att10_0_8 {p : Prop} (h : p := by repeat (first | (with_reducible exact HR253_0.out) | (with_reducible refine Kd.C_alloc ?_ _) | (with_reducible refine Kd.C_drewN ?_ _) | (with_reducible refine Kd.C_drew ?_) | exact HR253_0.out)) : p := h
theorem att10_0_9 {p : Prop} (h : p := by (try simp only [hl4_3]); (try simp only [hl3_4]); (try simp only [hl4_4]); (with_reducible repeat (first | apply Kd.R_alloc | apply Kd.R_drewN | apply Kd.R_drew)); exact HO_4.out) : p := h
theorem att10_0_10 {p : Prop} (h : p := by (try simp only [hl4_3]); (try simp only [hl3_4]); (try simp only [hl4_4]); (with_reducible repeat (first | apply Kd.R_alloc | apply Kd.R_drewN | apply Kd.R_drew)); exact Kd.R_mono HO_9.out (fun _ hk => trivial)) : p := h
theorem att10_0_11 {p : Prop} (h : p := by (with_reducible repeat (first | apply Kd.R_alloc | apply Kd.R_drewN | apply Kd.R_drew)); exact HL253_0.out) : p := h
theorem att10_0_12 {p : Prop} (h : p := by repeat (first | (with_reducible exact HR244_0.out) | (with_reducible refine Kd.C_alloc ?_ _) | (with_reducible refine Kd.C_drewN ?_ _) | (with_reducible refine Kd.C_drew ?_) | exact HR244_0.out)) : p := h
theorem att10_0_13 {p : Prop} (h : p := by repeat (first | (with_reducible exact HR239.out) | (with_reducible refine Kd.C_alloc ?_ _) | (with_reducible refine Kd.C_drewN ?_ _) | (with_reducible refine Kd.C_drew ?_) | exact HR239.out)) : p := h
theorem att10_0_14 {p : Prop} (h : p := by (with_reducible repeat (first | apply Kd.S_alloc | apply Kd.S_drewN | apply Kd.S_drew)); exact HO213.out) : p := h
theorem att10_0_15 {p : Prop} (h : p := by first | rfl | (simp; done) | (simp [*]; done)) : p := h
theorem att10_0_16 {p : Prop} (h : p := by have := HK1.out; have := HK2.out; have := HK3.out; have := HK4.out; omega) : p := h
theorem att10_0_17 {p : Prop} (h : p := by (with_reducible repeat (first | apply Kd.R_alloc | apply Kd.R_drewN | apply Kd.R_drew)); exact HL244_0.out) : p := h
theorem att10_0_18 {p : Prop} (h : p := by (try simp only [hl4_3]); (try simp only [hl3_4]); (try simp only [hl4_4]); (with_reducible repeat (first | apply Kd.R_alloc | apply Kd.R_drewN | apply Kd.R_drew)); exact Kd.R_mono HO_10.out (fun _ hk => hk.2)) : p := h
theorem att10_0_19 {p : Prop} (h : p := by (with_reducible repeat (first | apply Kd.R_alloc | apply Kd.R_drewN | apply Kd.R_drew)); exact HO265.out) : p := h
theorem att10_0_20 {p : Prop} (h : p := by (with_reducible repeat (first | apply Kd.R_alloc | apply Kd.R_drewN | apply Kd.R_drew)); exact HO242.out) : p := h
theorem att10_0_21 {p : Prop} (h : p := by (try simp only [hl4_3]); (try simp only [hl3_4]); (try simp only [hl4_4]); (with_reducible repeat (first | apply Kd.S_alloc | apply Kd.S_drewN | apply Kd.S_drew)); exact HO_3.out) : p := h
theorem att10_0_22 {p : Prop} (h : p := by (with_reducible repeat (first | apply Kd.S_alloc | apply Kd.S_drewN | apply Kd.S_drew)); exact Kd.S_mono HO_3.out (fun k_ hk => ⟨hk.1, fun e_ => hk.2 e_⟩)) : p := h
theorem att10_0_23 {p : Prop} (h : p := by (with_reducible repeat (first | apply Kd.R_alloc | apply Kd.R_drewN | apply Kd.R_drew)); exact Kd.R_mono HO_10.out (fun _ hk => ⟨trivial, hk⟩)) : p := h
theorem att10_0_24 {p : Prop} (h : p := by (with_reducible repeat (first | apply Kd.R_alloc | apply Kd.R_drewN | apply Kd.R_drew)); exact HO235.out) : p := h
theorem att10_1_0 {p : Prop} (h : p := by have h_ : ((rd t248 x11_4) : Int) < ((x3_4.length : Int) : Int) := of_decide_eq_true att10_0_2; first | exact h_ | (have e_ := (Kd.S_reads' HO_3.out).1; omega) | simpa using h_) : p := h
theorem att10_1_1 {p : Prop} (h : p := by have h_ : (x6_2 : Int) < (((rd_L5 x3_2 0).length : Int) : Int) := of_decide_eq_true att10_0_2; first | exact h_ | (have e_ := (Kd.R_reads' HR224_0.out).1; omega) | simpa using h_) : p := h
theorem att10_1_2 {p : Prop} (h : p := by first | exact q253 | exact of_decide_eq_true att10_0_2 | (have e_ := (Kd.S_reads' HO_3.out).1; omega)) : p := h
/-! ### spec_KnownAt: function 45 -/
mutual
def spec_KnownAt.l0 : Nat → List (S63) → List (List (S83)) → List Bool → Int → Option ((List (List (S83))))
 | 0, _, _, _, _ => none
 | k + 1, x0, x3, x4, x5 => if x5 < (x0.length : Int) then (if 4 ≤ 17592186044416 then (if x3.length < 5864062014805 then (spec_KnownAt.l0 k x0 (x3 ++ [(List.replicate 4 z83)]) x4 (wrap64 (x5 + 1))) else (none)) else (none)) else (spec_KnownAt.l1 k x0 x3 x4 0)
def spec_KnownAt.l1 : Nat → List (S63) → List (List (S83)) → List Bool → Int → Option ((List (List (S83))))
 | 0, _, _, _, _ => none
 | k + 1, x0, x3, x4, x6 => if x6 < 4 then (if 0 < (x3.length : Int) then (if 0 ≤ x6 then (if x6 < ((rd_L5 x3 0).length : Int) then (spec_KnownAt.l1 k x0 (x3.set (0 : Int).toNat ((rd_L5 x3 0).set (x6 : Int).toNat (⟨true, 0⟩ : S83))) x4 (wrap64 (x6 + 1))) else (none)) else (none)) else (none)) else (if 0 < (x4.length : Int) then (spec_KnownAt.l2 k x0 x3 (x4.set (0 : Int).toNat true) (([0] : List Int))) else (none))
def spec_KnownAt.l2 : Nat → List (S63) → List (List (S83)) → List Bool → List Int → Option ((List (List (S83))))
 | 0, _, _, _, _ => none
 | k + 1, x0, x3, x4, x7 => if (x7.length : Int) > 0 then (if 0 < (x7.length : Int) then ((some (([] : List Int) : List Int)).bind fun y233 => (if 1 ≤ (x7.length : Int) then ((some (x7.drop 1 : List Int)).bind fun y236 => (if y233.length + y236.length < 17592186044416 then (if 0 ≤ (rd x7 0) then (if (rd x7 0) < (x0.length : Int) then (if (rd x7 0) < (x3.length : Int) then ((spec_l19Behind.f k ((rd_T63 x0 (rd x7 0)).f0) ((rd_T63 x0 (rd x7 0)).f1) ((rd_T63 x0 (rd x7 0)).f2) ((rd_T63 x0 (rd x7 0)).f3) ((rd_T63 x0 (rd x7 0)).f4) (rd_L5 x3 (rd x7 0))).bind fun t245 => ((spec_NextOf.f k x0 (rd x7 0)).bind fun t248 => (spec_KnownAt.l3 k x0 x3 x4 (y233 ++ y236) t245 t248 0))) else (none)) else (none)) else (none)) else (none))) else (none))) else (none)) else (some x3)
def spec_KnownAt.l3 : Nat → List (S63) → List (List (S83)) → List Bool → List Int → List (S83) → List Int → Int → Option ((List (List (S83))))
 | 0, _, _, _, _, _, _, _ => none
 | k + 1, x0, x3, x4, x7, x9, x10, x11 => if x11 < (x10.length : Int) then (if 0 ≤ x11 then (if 0 ≤ (rd x10 x11) then (if (rd x10 x11) < (x4.length : Int) then (if (rdOf false x4 (rd x10 x11) = true) then (if (rd x10 x11) < (x3.length : Int) then ((spec_l19Meet.f k (rd_L5 x3 (rd x10 x11)) x9).bind fun bt254 => (if bt254.2 = true then (if x7.length < 17592186044416 then (spec_KnownAt.l3 k x0 (x3.set ((rd x10 x11) : Int).toNat bt254.1) x4 (x7 ++ [rd x10 x11]) x9 x10 (wrap64 (x11 + 1))) else (none)) else (spec_KnownAt.l3 k x0 x3 x4 x7 x9 x10 (wrap64 (x11 + 1))))) else (none)) else ((some (([] : List (S83)) : List (S83))).bind fun y263 => (if y263.length + x9.length < 8796093022208 then (if (rd x10 x11) < (x3.length : Int) then (if x7.length < 17592186044416 then (spec_KnownAt.l3 k x0 (x3.set ((rd x10 x11) : Int).toNat (y263 ++ x9)) (x4.set ((rd x10 x11) : Int).toNat true) (x7 ++ [rd x10 x11]) x9 x10 (wrap64 (x11 + 1))) else (none)) else (none)) else (none)))) else (none)) else (none)) else (none)) else (spec_KnownAt.l2 k x0 x3 x4 x7)
end
def spec_KnownAt.f (k : Nat) (l0 : List (S63)) : Option ((List (List (S83)))) := (some (([] : List (List (S83))) : List (List (S83)))).bind fun y211 => ((spec_BodyOk.f k l0 3).bind fun t214 => (if t214 = true then (if 0 ≤ (l0.length : Int) then (if ((l0.length : Int) : Int).toNat ≤ 281474976710656 then (spec_KnownAt.l0 k l0 y211 (List.replicate ((l0.length : Int) : Int).toNat false) 0) else (none)) else (none)) else (some y211)))
theorem spec_KnownAt.mono_l : ∀ k, (∀ y0 y1 y2 y3, LeO (spec_KnownAt.l0 k y0 y1 y2 y3) (spec_KnownAt.l0 (k + 1) y0 y1 y2 y3)) ∧ (∀ y0 y1 y2 y3, LeO (spec_KnownAt.l1 k y0 y1 y2 y3) (spec_KnownAt.l1 (k + 1) y0 y1 y2 y3)) ∧ (∀ y0 y1 y2 y3, LeO (spec_KnownAt.l2 k y0 y1 y2 y3) (spec_KnownAt.l2 (k + 1) y0 y1 y2 y3)) ∧ (∀ y0 y1 y2 y3 y4 y5 y6, LeO (spec_KnownAt.l3 k y0 y1 y2 y3 y4 y5 y6) (spec_KnownAt.l3 (k + 1) y0 y1 y2 y3 y4 y5 y6))
 | 0 => ⟨fun _ _ _ _ r h => by simp [spec_KnownAt.l0] at h, fun _ _ _ _ r h => by simp [spec_KnownAt.l1] at h, fun _ _ _ _ r h => by simp [spec_KnownAt.l2] at h, fun _ _ _ _ _ _ _ r h => by simp [spec_KnownAt.l3] at h⟩
 | k + 1 => by
  obtain ⟨ih0, ih1, ih2, ih3⟩ := spec_KnownAt.mono_l k
  refine ⟨?_, ?_, ?_, ?_⟩
  ·intro y0 y1 y2 y3
   unfold spec_KnownAt.l0
   repeat' first
   | (with_reducible exact ih0 _ _ _ _)
   | (with_reducible exact ih1 _ _ _ _)
   | (with_reducible exact ih2 _ _ _ _)
   | (with_reducible exact ih3 _ _ _ _ _ _ _)
   | (with_reducible exact spec_BodyOk.mono _ _ _)
   | (with_reducible exact spec_NextOf.mono _ _ _)
   | (with_reducible exact spec_l19Behind.mono _ _ _ _ _ _ _)
   | (with_reducible exact spec_l19Meet.mono _ _ _)
   | (with_reducible exact LeO.refl _)
   | (with_reducible exact LeO.none _)
   | (with_reducible refine LeO.ite ?_ ?_)
   | (with_reducible refine LeO.bind ?_ (fun _ => ?_))
   | exact ih0 _ _ _ _
   | exact ih1 _ _ _ _
   | exact ih2 _ _ _ _
   | exact ih3 _ _ _ _ _ _ _
   | exact spec_BodyOk.mono _ _ _
   | exact spec_NextOf.mono _ _ _
   | exact spec_l19Behind.mono _ _ _ _ _ _ _
   | exact spec_l19Meet.mono _ _ _
   | exact LeO.none _
   | refine LeO.ite ?_ ?_
   | refine LeO.bind ?_ (fun _ => ?_)
  ·intro y0 y1 y2 y3
   unfold spec_KnownAt.l1
   repeat' first
   | (with_reducible exact ih0 _ _ _ _)
   | (with_reducible exact ih1 _ _ _ _)
   | (with_reducible exact ih2 _ _ _ _)
   | (with_reducible exact ih3 _ _ _ _ _ _ _)
   | (with_reducible exact spec_BodyOk.mono _ _ _)
   | (with_reducible exact spec_NextOf.mono _ _ _)
   | (with_reducible exact spec_l19Behind.mono _ _ _ _ _ _ _)
   | (with_reducible exact spec_l19Meet.mono _ _ _)
   | (with_reducible exact LeO.refl _)
   | (with_reducible exact LeO.none _)
   | (with_reducible refine LeO.ite ?_ ?_)
   | (with_reducible refine LeO.bind ?_ (fun _ => ?_))
   | exact ih0 _ _ _ _
   | exact ih1 _ _ _ _
   | exact ih2 _ _ _ _
   | exact ih3 _ _ _ _ _ _ _
   | exact spec_BodyOk.mono _ _ _
   | exact spec_NextOf.mono _ _ _
   | exact spec_l19Behind.mono _ _ _ _ _ _ _
   | exact spec_l19Meet.mono _ _ _
   | exact LeO.none _
   | refine LeO.ite ?_ ?_
   | refine LeO.bind ?_ (fun _ => ?_)
  ·intro y0 y1 y2 y3
   unfold spec_KnownAt.l2
   repeat' first
   | (with_reducible exact ih0 _ _ _ _)
   | (with_reducible exact ih1 _ _ _ _)
   | (with_reducible exact ih2 _ _ _ _)
   | (with_reducible exact ih3 _ _ _ _ _ _ _)
   | (with_reducible exact spec_BodyOk.mono _ _ _)
   | (with_reducible exact spec_NextOf.mono _ _ _)
   | (with_reducible exact spec_l19Behind.mono _ _ _ _ _ _ _)
   | (with_reducible exact spec_l19Meet.mono _ _ _)
   | (with_reducible exact LeO.refl _)
   | (with_reducible exact LeO.none _)
   | (with_reducible refine LeO.ite ?_ ?_)
   | (with_reducible refine LeO.bind ?_ (fun _ => ?_))
   | exact ih0 _ _ _ _
   | exact ih1 _ _ _ _
   | exact ih2 _ _ _ _
   | exact ih3 _ _ _ _ _ _ _
   | exact spec_BodyOk.mono _ _ _
   | exact spec_NextOf.mono _ _ _
   | exact spec_l19Behind.mono _ _ _ _ _ _ _
   | exact spec_l19Meet.mono _ _ _
   | exact LeO.none _
   | refine LeO.ite ?_ ?_
   | refine LeO.bind ?_ (fun _ => ?_)
  ·intro y0 y1 y2 y3 y4 y5 y6
   unfold spec_KnownAt.l3
   repeat' first
   | (with_reducible exact ih0 _ _ _ _)
   | (with_reducible exact ih1 _ _ _ _)
   | (with_reducible exact ih2 _ _ _ _)
   | (with_reducible exact ih3 _ _ _ _ _ _ _)
   | (with_reducible exact spec_BodyOk.mono _ _ _)
   | (with_reducible exact spec_NextOf.mono _ _ _)
   | (with_reducible exact spec_l19Behind.mono _ _ _ _ _ _ _)
   | (with_reducible exact spec_l19Meet.mono _ _ _)
   | (with_reducible exact LeO.refl _)
   | (with_reducible exact LeO.none _)
   | (with_reducible refine LeO.ite ?_ ?_)
   | (with_reducible refine LeO.bind ?_ (fun _ => ?_))
   | exact ih0 _ _ _ _
   | exact ih1 _ _ _ _
   | exact ih2 _ _ _ _
   | exact ih3 _ _ _ _ _ _ _
   | exact spec_BodyOk.mono _ _ _
   | exact spec_NextOf.mono _ _ _
   | exact spec_l19Behind.mono _ _ _ _ _ _ _
   | exact spec_l19Meet.mono _ _ _
   | exact LeO.none _
   | refine LeO.ite ?_ ?_
   | refine LeO.bind ?_ (fun _ => ?_)
theorem spec_KnownAt.mono : ∀ a0 k, LeO (spec_KnownAt.f k a0) (spec_KnownAt.f (k + 1) a0) := by
 intro a0 k
 obtain ⟨ih0, ih1, ih2, ih3⟩ := spec_KnownAt.mono_l k
 unfold spec_KnownAt.f
 repeat' first
   | (with_reducible exact ih0 _ _ _ _)
   | (with_reducible exact ih1 _ _ _ _)
   | (with_reducible exact ih2 _ _ _ _)
   | (with_reducible exact ih3 _ _ _ _ _ _ _)
   | (with_reducible exact spec_BodyOk.mono _ _ _)
   | (with_reducible exact spec_NextOf.mono _ _ _)
   | (with_reducible exact spec_l19Behind.mono _ _ _ _ _ _ _)
   | (with_reducible exact spec_l19Meet.mono _ _ _)
   | (with_reducible exact LeO.refl _)
   | (with_reducible exact LeO.none _)
   | (with_reducible refine LeO.ite ?_ ?_)
   | (with_reducible refine LeO.bind ?_ (fun _ => ?_))
   | exact ih0 _ _ _ _
   | exact ih1 _ _ _ _
   | exact ih2 _ _ _ _
   | exact ih3 _ _ _ _ _ _ _
   | exact spec_BodyOk.mono _ _ _
   | exact spec_NextOf.mono _ _ _
   | exact spec_l19Behind.mono _ _ _ _ _ _ _
   | exact spec_l19Meet.mono _ _ _
   | exact LeO.none _
   | refine LeO.ite ?_ ?_
   | refine LeO.bind ?_ (fun _ => ?_)
def spec_KnownAt.T18 : Bool × List (List Nat × List Nat) := (true, [([], []), ([], []), ([0, 1], [0, 1]), ([2], [2]), ([], []), ([], []), ([4, 5], [4, 5]), ([6], [6]), ([3, 7], [3, 7]), ([8, 8, 0, 1, 2, 3, 4, 5, 6, 7, 8], [8])])
def spec_KnownAt.B18 : List Nat := [0, 0, 3, 7, 0, 0, 48, 112, 255, 511]
theorem spec_KnownAt.tab18 : rtab .any (opsOf Try.f45 18) = spec_KnownAt.T18 := by kernel_rfl
theorem spec_KnownAt.bits18 : waitsOk spec_KnownAt.T18.2 spec_KnownAt.B18 = true := by kernel_rfl
set_option maxHeartbeats 80000000 in
set_option maxRecDepth 100000 in
theorem spec_KnownAt.calls (k : Nat) (A0 : Option Addr) (c0 : Nat) (l0 : List (S63)) (r : List (List (S83))) (w : World) (hr0 : Kd.C k63 w A0 l0.length l0) (hc0 : l0.length ≤ c0) (h : spec_KnownAt.f k l0 = some r) :
  Calls Try.prog 45 #[.slice A0 l0.length c0] w fun e w' => ∃ v0_ : Value, e = .returned (v0_) ∧ Kd.S (Kd.slice 83 k83) 81 w' w.heap.size (fun _ => True) v0_ r ∧ Below w.heap.size w w' := by
 have hu83 := Try.underlying83
 have hu63 := Try.underlying63
 have HR0 := Aside0.mk hr0
 have HC0 := Aside0.mk hc0
 clear hr0 hc0
 have HB := Aside0.mk (Below.refl w.heap.size w)
 have H : ((some (([] : List (List (S83))) : List (List (S83)))).bind fun y211 => ((spec_BodyOk.f k l0 3).bind fun t214 => (if t214 = true then (if 0 ≤ (l0.length : Int) then (if ((l0.length : Int) : Int).toNat ≤ 281474976710656 then (spec_KnownAt.l0 k l0 y211 (List.replicate ((l0.length : Int) : Int).toNat false) 0) else (none)) else (none)) else (some y211)))) = some r := h
 clear h
 obtain ⟨y211, hy211⟩ : ∃ y_ : List (List (S83)), y_ = (([] : List (List (S83)))) := ⟨_, rfl⟩
 replace H : ((spec_BodyOk.f k l0 3).bind fun t214 => (if t214 = true then (if 0 ≤ (l0.length : Int) then (if ((l0.length : Int) : Int).toNat ≤ 281474976710656 then (spec_KnownAt.l0 k l0 y211 (List.replicate ((l0.length : Int) : Int).toNat false) 0) else (none)) else (none)) else (some y211))) = some r := by first | (rw [hy211]; with_reducible exact H) | (have H2_ := (Option.bind_some _ _).symm.trans H; rw [hy211]; with_reducible exact H2_) | (have H2_ := (Option.bind_some _ _).symm.trans H; with_reducible exact H2_) | with_reducible exact H | (rw [hy211]; exact H) | exact H
 have Ny211 := Aside0.mk hy211
 clear hy211
 replace H := Option.bind_eq_some_iff.mp H
 obtain ⟨t214, A20, H⟩ := H
 (try dsimp only at H)
 have A2 := Aside0.mk A20
 clear A20
 by_cases c3 : t214 = true
 ·subst c3
  rw [if_pos rfl] at H
  by_cases c4 : 0 ≤ (l0.length : Int)
  ·rw [if_pos c4] at H
   have c4b0 := eq_true c4
   have c4b1 : decide (0 ≤ (l0.length : Int)) = true := decide_eq_true c4
   clear c4
   by_cases c5 : ((l0.length : Int) : Int).toNat ≤ 281474976710656
   ·rw [if_pos c5] at H
    have c5b0 := eq_true c5
    have c5b1 : decide (((l0.length : Int) : Int).toNat ≤ 281474976710656) = true := decide_eq_true c5
    clear c5
    obtain ⟨y215, hy215⟩ : ∃ y_ : List Bool, y_ = (List.replicate ((l0.length : Int) : Int).toNat false) := ⟨_, rfl⟩
    replace H : (spec_KnownAt.l0 k l0 y211 y215 0) = some r := by first | (rw [hy215]; with_reducible exact H) | (have H2_ := (Option.bind_some _ _).symm.trans H; rw [hy215]; with_reducible exact H2_) | (have H2_ := (Option.bind_some _ _).symm.trans H; with_reducible exact H2_) | with_reducible exact H | (rw [hy215]; exact H) | exact H
    have Ny215 := Aside0.mk hy215
    clear hy215
    have H' := Aside0.mk H
    clear H
    go_enter Try.func45, Try.ntmps45
    go_wp2_with (first | ((with_reducible refine gate_dst (N := 15) rfl ?_); refine Kd.S_lit (Kd.slice 83 k83) _ 81 ?hg (N := 15) ?hd (xs := ([] : List (List (S83)))) (inner := []) (ok := fun _ => True) (okp := fun _ => True) ?hr ?hp (fun _ hk => hk) trivial (Below.refl _ _) (Nat.le_refl _) (by simp) ?_; (case hd => rfl); (case hg => rfl); (case hr => first | (go_simp; done) | (go_simp; rfl)); (case hp => exact (Reps.none _ _)); intro v212 w6 ho7 hb hg_ hnew_; clear hg_ hnew_; (first | rw [← Ny211.out] at ho7 | (simp only [Int.reduceToNat] at ho7; rw [← Ny211.out] at ho7)); have n0_ := Aside0.mk (Kd.S_lower ho7 (below_size att10_0_0)); have n1_ := Aside0.mk (below_step att10_0_0 hb); clear HB; have HO213 := n0_; have HB := n1_; clear n0_ n1_; clear hb ho7) | ((with_reducible refine gate_callee (f := 63) rfl ?_); refine goesL_ (some 17) rfl rfl Try.func63 (by kernel_rfl) rfl #[.slice A0 l0.length c0, .int .i64 3] rfl att10_0_7 ?_; (with_reducible refine (spec_BodyOk.calls k _ _ l0 3 true _ ?side1 ?side2 A2.out).mono ?_); (case side1 => repeat (first | exact (Kd.C_below HR0.out HB.out) | (with_reducible refine Kd.C_alloc ?_ _) | (with_reducible refine Kd.C_drewN ?_ _) | (with_reducible refine Kd.C_drew ?_))); (case side2 => exact HC0.out); rintro e w8 ⟨rfl, hb⟩; refine ⟨_, rfl, ?_⟩; have n0_ := Aside0.mk (Kd.S_below att10_0_14 hb); have n1_ := Aside0.mk (below_step att10_0_0 hb); clear HO213; clear HB; have HO213 := n0_; have HB := n1_; clear n0_ n1_; (try clear hb); (try clear hb2); (try clear hk); (try clear hi)) | ((with_reducible refine gate_dst (N := 22) rfl ?_); refine Kd.R_make Kd.bool _ 4 rfl (N := 22) rfl 66 _ _ rfl (l0.length : Int) rfl rfl Try.underlying66 (.bool false) 1 info4 rfl (by decide) (by omega) false (ok := fun _ => True) (okp := fun _ => True) rfl (fun _ hk => hk) trivial (of_decide_eq_true att10_0_2) (Nat.le_trans (Nat.mul_le_mul_right _ (of_decide_eq_true att10_0_2 : (l0.length : Int).toNat ≤ 281474976710656)) (by omega)) (Below.refl _ _) (Nat.le_refl _) ?_; intro v216 w9 ho10 hb hg_ hnew_; clear hg_ hnew_; (first | rw [← Ny215.out] at ho10 | (simp only [Int.reduceToNat] at ho10; rw [← Ny215.out] at ho10)); have n0_ := Aside0.mk (Kd.S_below att10_0_14 hb); have n1_ := Aside0.mk (Kd.R_lower ho10 (below_size att10_0_0)); have n2_ := Aside0.mk (below_step att10_0_0 hb); clear HO213; clear HB; have HO213 := n0_; have HO217 := n1_; have HB := n2_; clear n0_ n1_ n2_; clear hb ho10))
    go_loopg [3, 5] k (fun kq v3 v5 w' => ∃ (x3_1 : List (List (S83))) (x5_1 : Int), v5 = .int .i64 x5_1 ∧ Aside0 (spec_KnownAt.l0 kq l0 x3_1 y215 x5_1 = some r) ∧ Aside0 (kq ≤ k) ∧ Aside0 (Kd.S (Kd.slice 83 k83) 81 w' w.heap.size (fun _ => True) v3 x3_1) ∧ Aside0 (Kd.R Kd.bool 4 w' w.heap.size (fun _ => True) v216 y215) ∧ Aside0 (Below w.heap.size w w'))
    case atStart => exact ⟨(y211), (0), att10_0_15, H', ⟨Nat.le_refl _⟩, ⟨att10_0_14⟩, ⟨by (with_reducible repeat (first | apply Kd.R_alloc | apply Kd.R_drewN | apply Kd.R_drew)); exact HO217.out⟩, ⟨att10_0_0⟩⟩
    case round =>
     clear H'
     try clear p2
     try clear c3
     try clear c4
     try clear c4b0
     try clear c4b1
     try clear c5
     try clear c5b0
     try clear c5b1
     try clear c6
     obtain ⟨x3_1, x5_1, rfl, HA, HK1, HO_3, HO_4, HB⟩ := hrel
     cases gk with
     | zero => exact absurd HA.out (by simp [spec_KnownAt.l0])
     | succ k1 =>
      have H := HA.out
      clear HA
      simp only [spec_KnownAt.l0] at H
      by_cases c11 : x5_1 < (l0.length : Int)
      ·rw [if_pos c11] at H
       have c11b0 : decide (x5_1 < (l0.length : Int)) = true := decide_eq_true c11
       clear c11
       by_cases c12 : 4 ≤ 17592186044416
       ·rw [if_pos c12] at H
        have c12b0 := eq_true c12
        have c12b1 : decide (4 ≤ 17592186044416) = true := decide_eq_true c12
        clear c12
        obtain ⟨y218, hy218⟩ : ∃ y_ : List (S83), y_ = (List.replicate 4 z83) := ⟨_, rfl⟩
        replace H : (if x3_1.length < 5864062014805 then (spec_KnownAt.l0 k1 l0 (x3_1 ++ [y218]) y215 (wrap64 (x5_1 + 1))) else (none)) = some r := by first | (rw [hy218]; with_reducible exact H) | (have H2_ := (Option.bind_some _ _).symm.trans H; rw [hy218]; with_reducible exact H2_) | (have H2_ := (Option.bind_some _ _).symm.trans H; with_reducible exact H2_) | with_reducible exact H | (rw [hy218]; exact H) | exact H
        have Ny218 := Aside0.mk hy218
        clear hy218
        by_cases c13 : x3_1.length < 5864062014805
        ·rw [if_pos c13] at H
         have LMc13 := Aside0.mk c13
         clear c13
         obtain ⟨y221, hy221⟩ : ∃ y_ : List (List (S83)), y_ = (x3_1 ++ [y218]) := ⟨_, rfl⟩
         replace H : (spec_KnownAt.l0 k1 l0 y221 y215 (wrap64 (x5_1 + 1))) = some r := by first | (rw [hy221]; with_reducible exact H) | (have H2_ := (Option.bind_some _ _).symm.trans H; rw [hy221]; with_reducible exact H2_) | (have H2_ := (Option.bind_some _ _).symm.trans H; with_reducible exact H2_) | with_reducible exact H | (rw [hy221]; exact H) | exact H
         have Ny221 := Aside0.mk hy221
         clear hy221
         have H' := Aside0.mk H
         clear H
         go_wp2_with (first | ((with_reducible refine gate_dst (N := 30) rfl ?_); refine Kd.R_make k83 _ 83 rfl (N := 30) rfl 81 _ _ rfl 4 rfl rfl Try.underlying81 (.agg #[(.bool false), (.int .i64 0)]) 16 info83 rfl (by decide) (by omega) z83 (ok := fun _ => True) (okp := fun _ => True) (k83_mkM _ _ _ z83 ) (fun _ hk => hk) trivial (by omega) (by omega) (Below.refl _ _) (Nat.le_refl _) ?_; intro v219 w14 ho15 hb hg_ hnew_; clear hg_ hnew_; (first | rw [← Ny218.out] at ho15 | (simp only [Int.reduceToNat] at ho15; rw [← Ny218.out] at ho15)); have n0_ := Aside0.mk (Kd.S_elder' att10_0_4 (Kd.R_base ho15) hb); have n1_ := Aside0.mk (Kd.R_below att10_0_3 hb); have n2_ := Aside0.mk (Kd.R_lower ho15 (below_size att10_0_0)); have n3_ := Aside0.mk (below_step att10_0_0 hb); clear HO_3; clear HO_4; clear HB; have HO_3 := n0_; have HO_4 := n1_; have HO220 := n2_; have HB := n3_; clear n0_ n1_ n2_ n3_; clear hb ho15; obtain ⟨Ao17, co17, eo17⟩ := Kd.R_slice HO220.out; subst eo17) | ((with_reducible refine gate_builtin (b := .append) (xs := #[.tmp 29, .tmp 31]) rfl ?_); at_builtin; refine Kd.S_append (Kd.slice 83 k83) (w0 := w) w.heap.size rfl (.tmp 29) (.tmp 31) 46 81 (.slice none 0 0) 24 rfl Try.underlying46 info81 rfl (by decide) (by omega) u3 x3_1 y218 [.slice Ao17 y218.length co17] (fun _ => True) (fun k_ => some k_ = (.slice Ao17 y218.length co17 : Value).ownBlock) rfl rfl ?aP (fun k_ hk_ => ((Kd.R_mono (ok' := fun k_ => ((fun _ => True)) k_ ∧ some k_ ≠ (u3 : Value).ownBlock) (Kd.R_apart' (HO220.out) (Kd.S_typed HO_3.out) (by decide)) (fun k_ hk => ⟨trivial, hk.2⟩))).1 k_ hk_.symm) ?aF ?aO ?aB ?aS ?aL ?_; (case aP => exact Kd.M_row (Kd.R_mono (Kd.R_tight rfl (Kd.R_mono (ok' := fun k_ => ((fun _ => True)) k_ ∧ some k_ ≠ (u3 : Value).ownBlock) (Kd.R_apart' (HO220.out) (Kd.S_typed HO_3.out) (by decide)) (fun k_ hk => ⟨trivial, hk.2⟩))) (fun _ h_ => h_))); (case aB => exact att10_0_0); (case aF => exact (fun _ _ => trivial)); (case aO => exact (by (with_reducible repeat (first | apply Kd.S_alloc | apply Kd.S_drewN | apply Kd.S_drew)); exact Kd.S_mono HO_3.out (fun k_ hk => ⟨trivial, fun e_ => hk.2 e_⟩))); (case aS => exact (below_size att10_0_0)); (case aL => have := LMc13.out; omega); intro v222 w16 ho hb hg hat; rw [← Ny221.out] at ho; have n0_ := Aside0.mk (Kd.R_over' att10_0_3 (Kd.S_typed att10_0_4) (by decide) hg); have n1_ := Aside0.mk (hb); have n2_ := Aside0.mk (ho); clear HO_4; clear HB; clear HO_3; clear HO220; have HO_4 := n0_; have HB := n1_; have HO223 := n2_; clear n0_ n1_ n2_; clear ho hb hg hat))
         go_roundg k1
         case measure => have := HK1.out; omega
         case rel => exact ⟨(y221), (wrap64 (x5_1 + 1)), att10_0_15, H', ⟨by have := HK1.out; omega⟩, ⟨by (with_reducible repeat (first | apply Kd.S_alloc | apply Kd.S_drewN | apply Kd.S_drew)); exact HO223.out⟩, ⟨att10_0_3⟩, ⟨att10_0_0⟩⟩
        ·rw [if_neg c13] at H
         exact absurd H (by simp)
       ·rw [if_neg c12] at H
        exact absurd H (by simp)
      ·rw [if_neg c11] at H
       have c11b0 : decide (x5_1 < (l0.length : Int)) = false := decide_eq_false c11
       clear c11
       have H' := Aside0.mk H
       clear H
       go_wp2
       go_loopg [6] k1 (fun kq v6 w' => ∃ (x3_2 : List (List (S83))) (x6_2 : Int), v6 = .int .i64 x6_2 ∧ Aside0 (spec_KnownAt.l1 kq l0 x3_2 y215 x6_2 = some r) ∧ Aside0 (kq ≤ k1) ∧ Aside0 (Kd.S (Kd.slice 83 k83) 81 w' w.heap.size (fun _ => True) u3 x3_2) ∧ Aside0 (Kd.R Kd.bool 4 w' w.heap.size (fun _ => True) v216 y215) ∧ Aside0 (Below w.heap.size w w'))
       case atStart => exact ⟨(x3_1), (0), att10_0_15, H', ⟨Nat.le_refl _⟩, ⟨att10_0_4⟩, ⟨att10_0_3⟩, ⟨att10_0_0⟩⟩
       case round =>
        clear H'
        try clear c1
        try clear p2
        try clear c3
        try clear c4
        try clear c4b0
        try clear c4b1
        try clear c5
        try clear c5b0
        try clear c5b1
        try clear c6
        try clear p6
        try clear c11
        try clear c11b0
        try clear c12
        try clear c12b0
        try clear c12b1
        try clear c13
        try clear p2
        obtain ⟨x3_2, x6_2, rfl, HA, HK2, HO_3, HO_4, HB⟩ := hrel
        cases gk with
        | zero => exact absurd HA.out (by simp [spec_KnownAt.l1])
        | succ k2 =>
         have H := HA.out
         clear HA
         simp only [spec_KnownAt.l1] at H
         by_cases c18 : x6_2 < 4
         ·rw [if_pos c18] at H
          have c18b0 : decide (x6_2 < 4) = true := decide_eq_true c18
          clear c18
          by_cases c19 : 0 < (x3_2.length : Int)
          ·rw [if_pos c19] at H
           have c19b0 : decide (0 < (x3_2.length : Int)) = true := decide_eq_true c19
           have c19b1 : decide (0 < x3_2.length) = true := decide_eq_true (by omega)
           clear c19
           by_cases c20 : 0 ≤ x6_2
           ·rw [if_pos c20] at H
            have c20b0 : decide (0 ≤ x6_2) = true := decide_eq_true c20
            clear c20
            by_cases c21 : x6_2 < ((rd_L5 x3_2 0).length : Int)
            ·rw [if_pos c21] at H
             have c21b0 : decide (x6_2 < ((rd_L5 x3_2 0).length : Int)) = true := decide_eq_true c21
             clear c21
             obtain ⟨y225, hy225⟩ : ∃ y_ : List (S83), y_ = ((rd_L5 x3_2 0).set (x6_2 : Int).toNat (⟨true, 0⟩ : S83)) := ⟨_, rfl⟩
             replace H : (spec_KnownAt.l1 k2 l0 (x3_2.set (0 : Int).toNat y225) y215 (wrap64 (x6_2 + 1))) = some r := by first | (rw [hy225]; with_reducible exact H) | (have H2_ := (Option.bind_some _ _).symm.trans H; rw [hy225]; with_reducible exact H2_) | (have H2_ := (Option.bind_some _ _).symm.trans H; with_reducible exact H2_) | with_reducible exact H | (rw [hy225]; exact H) | exact H
             have Ny225 := Aside0.mk hy225
             clear hy225
             obtain ⟨y227, hy227⟩ : ∃ y_ : List (List (S83)), y_ = (x3_2.set (0 : Int).toNat y225) := ⟨_, rfl⟩
             replace H : (spec_KnownAt.l1 k2 l0 y227 y215 (wrap64 (x6_2 + 1))) = some r := by first | (rw [hy227]; with_reducible exact H) | (have H2_ := (Option.bind_some _ _).symm.trans H; rw [hy227]; with_reducible exact H2_) | (have H2_ := (Option.bind_some _ _).symm.trans H; with_reducible exact H2_) | with_reducible exact H | (rw [hy227]; exact H) | exact H
             have Ny227 := Aside0.mk hy227
             clear hy227
             have H' := Aside0.mk H
             clear H
             obtain ⟨Ao23, co23, eo23⟩ := Kd.S_slice HO_3.out
             subst eo23
             have p224 : 0 ≤ (0 : Int) := (by omega)
             have q224 : 0 < (x3_2.length : Int) := of_decide_eq_true att10_0_2
             obtain ⟨ad224, A224_0, c224_0, e224, hx224_0, hl224_0, hi224_0⟩ := at_L5 (Kd.S_reads' HO_3.out).2.2 0 p224 q224
             cases e224
             obtain ⟨ce224, hce224, hMe224, hcc224⟩ := Kd.S_get HO_3.out [] 0 p224 (by first | exact q224 | exact of_decide_eq_true att10_0_2 | (have e_ := (Kd.S_reads' HO_3.out).1; omega))
             obtain ⟨ve224_0, rfl, ge224_0⟩ := hMe224
             have hv224_0 := hcc224 0 _ rfl
             rw [Nat.add_zero, show ((Kd.slice 83 k83)).sz = 1 from rfl, Nat.mul_one] at hv224_0
             replace hv224_0 := Option.some.inj (hv224_0.symm.trans hx224_0)
             rw [hv224_0] at ge224_0
             have HL224_0 := Aside0.mk (show Kd.R k83 83 _ _ _ _ (rd_L5 x3_2 0) from ge224_0)
             clear hv224_0 ge224_0
             have HX224_0 := Aside0.mk hx224_0
             clear hcc224 hce224
             have qi224 : (0 < x3_2.length) = True := eq_true (by omega)
             (try rw [show ((0 : Int)).toNat = 0 from rfl] at hx224_0)
             (try rw [Addr.add_zero'] at hx224_0)
             have HR224_0 := Aside0.mk hi224_0
             have HC224_0 := Aside0.mk hl224_0
             clear hi224_0 hl224_0
             replace p224 := eq_true p224
             replace q224 := eq_true q224
             have p22 : 0 ≤ (x6_2 : Int) := of_decide_eq_true att10_0_2
             have q22 : (x6_2 : Int) < (((rd_L5 x3_2 0).length : Int) : Int) := of_decide_eq_true att10_0_2
             obtain ⟨go22, co22, eo22, gb22, gl22, cl22, HG22⟩ := Kd.R_form HL224_0.out (by omega)
             (first | cases eo22 | (injection eo22 with ea_ en_ ec_; (first | subst ea_ | (injection ea_ with ea_; subst ea_)); subst ec_; clear en_))
             have GB22 := Aside0.mk gb22
             have GG22 := Aside0.mk HG22
             clear gb22 gl22 HG22
             obtain ⟨ce22, hcl22, hM22, hcc22, hfr22⟩ := Kd.R_elem HL224_0.out z83 (x6_2 : Int) p22 q22
             obtain rfl := k83_openM hM22
             have hx22_0 : wr.cell? ⟨go22, (x6_2 : Int).toNat * 2, none⟩ = some (.bool ((rd_T83 (rd_L5 x3_2 0) x6_2).f0)) := hcc22 0 _ rfl
             have hx22_1 : wr.cell? ⟨go22, (x6_2 : Int).toNat * 2 + 1, none⟩ = some (.int .i64 ((rd_T83 (rd_L5 x3_2 0) x6_2).f1)) := hcc22 1 _ rfl
             have hf22_0 : wr.frozen? ⟨go22, (x6_2 : Int).toNat * 2, none⟩ = false := hfr22 0
             have hf22_1 : wr.frozen? ⟨go22, (x6_2 : Int).toNat * 2 + 1, none⟩ = false := hfr22 1
             clear hcl22 hcc22 hfr22 hM22
             replace p22 := eq_true p22
             replace q22 := eq_true q22
             have hq24 : (0 : Int) < (x3_2.length : Int) := (by have h_ : (0 : Int) < ((x3_2.length : Int) : Int) := of_decide_eq_true att10_0_2; first | exact h_ | (have e_ := (Kd.S_reads' HO_3.out).1; omega) | simpa only [List.length_set, List.length_set] using h_)
             obtain ⟨oki24, ce24, hcl24, hM24, hcc24, hok24, hbk24⟩ := Kd.S_borrow HO_3.out [] (0 : Int) (by omega) hq24
             obtain ⟨ve24_0, rfl, ge24_0⟩ := hM24
             have hv24 := hcc24 0 _ rfl
             rw [Nat.add_zero, show ((Kd.slice 83 k83)).sz = 1 from rfl, Nat.mul_one] at hv24
             replace hv24 := Option.some.inj (hv24.symm.trans HX224_0.out)
             subst hv24
             clear hcc24 hcl24
             replace ge24_0 := (show Kd.R k83 83 _ _ _ _ (rd_L5 x3_2 0) from ge24_0)
             obtain ⟨cf24, hcl24, hN24, hcc24, hfr24⟩ := Kd.R_elem ge24_0 z83 (x6_2 : Int) (of_decide_eq_true att10_0_2) att10_1_1
             obtain rfl := k83_openM hN24
             have HP24 := Kd.R_seg ge24_0 (x6_2 : Int) (of_decide_eq_true att10_0_2) att10_1_1 (seg := [.bool true, .int .i64 0]) (j := 0) hcl24 hcc24 (show 2 ≤ 2 from by decide) (x' := (⟨true, 0⟩ : S83)) (k83_mkM _ _ _ (⟨true, 0⟩ : S83)) (fun _ hk => hk)
             clear hcl24 hcc24 hfr24 hN24
             go_wp2_with (first | ((with_reducible refine gate_store (t := 83) (p := 42) rfl ?_); refine store_event (t := 83) (p := 42) (v := ?vo_w25) (w1 := ((wr.setCell ⟨go22, (x6_2 : Int).toNat * 2, none⟩ (.bool true)).setCell ⟨go22, (x6_2 : Int).toNat * 2 + 1, none⟩ (.int .i64 0))) ?hg ?ho ?hn ?hr ?_; (case ho => rfl); (case hg => rfl); (case hn => rfl); (case hr => first | (go_simp; done) | (go_simp; rfl)); intro w25 hw; have hg : wr.grownBy w25 (some go22) := (by rw [hw]; exact HP24.2); have hz_ : Kd.R k83 83 w25 w.heap.size oki24 (.slice (some ⟨go22, 0, none⟩) (rd_L5 x3_2 0).length c224_0) y225 := (by rw [hw, Ny225.out]; exact HP24.1); have hp_ : Kd.S (Kd.slice 83 k83) 81 w25 w.heap.size (fun _ => True) (.slice (some ad224) x3_2.length co23) y227 := (by rw [Ny227.out]; exact hbk24 hg (fun k_ e_ => by injection e_ with e_; subst e_; exact ge24_0.1 _ rfl) (Kd.M_row hz_)); have hm_ := Kd.R_mono hz_ hok24; clear HP24 hbk24; have n0_ := Aside0.mk (hp_); have n1_ := Aside0.mk (Kd.R_over' (v := (.slice (some ⟨go22, 0, none⟩) (rd_L5 x3_2 0).length c224_0)) att10_0_3 (Kd.R_typed HL224_0.out) (by decide) hg); have n2_ := Aside0.mk ((by rw [hw]; exact below_set (below_set (HB.out) GB22.out) GB22.out : Below w.heap.size w w25)); have n3_ := Aside0.mk (hm_); have n4_ := Aside0.mk ((Kd.R_reads' hm_).2.1); clear HO_3; clear HO_4; clear HB; clear HL224_0; have HO_3 := n0_; have HO_4 := n1_; have HB := n2_; have HL273 := n3_; have HC226 := n4_; clear n0_ n1_ n2_ n3_ n4_; clear hg hw hp_ hz_ hm_ hok24))
             go_roundg k2
             case measure => have := HK1.out; have := HK2.out; omega
             case rel => exact ⟨(y227), (wrap64 (x6_2 + 1)), att10_0_15, H', ⟨by have := HK1.out; have := HK2.out; omega⟩, ⟨att10_0_4⟩, ⟨att10_0_3⟩, ⟨att10_0_0⟩⟩
            ·rw [if_neg c21] at H
             exact absurd H (by simp)
           ·rw [if_neg c20] at H
            exact absurd H (by simp)
          ·rw [if_neg c19] at H
           exact absurd H (by simp)
         ·rw [if_neg c18] at H
          have c18b0 : decide (x6_2 < 4) = false := decide_eq_false c18
          clear c18
          by_cases c26 : 0 < (y215.length : Int)
          ·rw [if_pos c26] at H
           have c26b0 : decide (0 < (y215.length : Int)) = true := decide_eq_true c26
           have c26b1 : decide (0 < y215.length) = true := decide_eq_true (by omega)
           clear c26
           obtain ⟨y228, hy228⟩ : ∃ y_ : List Bool, y_ = (y215.set (0 : Int).toNat true) := ⟨_, rfl⟩
           replace H : (spec_KnownAt.l2 k2 l0 x3_2 y228 (([0] : List Int))) = some r := by first | (rw [hy228]; with_reducible exact H) | (have H2_ := (Option.bind_some _ _).symm.trans H; rw [hy228]; with_reducible exact H2_) | (have H2_ := (Option.bind_some _ _).symm.trans H; with_reducible exact H2_) | with_reducible exact H | (rw [hy228]; exact H) | exact H
           have Ny228 := Aside0.mk hy228
           clear hy228
           obtain ⟨y229, hy229⟩ : ∃ y_ : List Int, y_ = (([0] : List Int)) := ⟨_, rfl⟩
           replace H : (spec_KnownAt.l2 k2 l0 x3_2 y228 y229) = some r := by first | (rw [hy229]; with_reducible exact H) | (have H2_ := (Option.bind_some _ _).symm.trans H; rw [hy229]; with_reducible exact H2_) | (have H2_ := (Option.bind_some _ _).symm.trans H; with_reducible exact H2_) | with_reducible exact H | (rw [hy229]; exact H) | exact H
           have Ny229 := Aside0.mk hy229
           clear hy229
           have H' := Aside0.mk H
           clear H
           have p27 : 0 ≤ (0 : Int) := (by omega)
           have q27 : (0 : Int) < ((y215.length : Int) : Int) := of_decide_eq_true att10_0_2
           have qi27 : (0 < y215.length) = True := eq_true (by omega)
           obtain ⟨go27, co27, eo27, gb27, gl27, cl27, HG27⟩ := Kd.R_form HO_4.out (by omega)
           (first | cases eo27 | (injection eo27 with ea_ en_ ec_; (first | subst ea_ | (injection ea_ with ea_; subst ea_)); subst ec_; clear en_))
           have GB27 := Aside0.mk gb27
           have GG27 := Aside0.mk HG27
           clear gb27 gl27 HG27
           obtain ⟨hx27_0, hf27_0⟩ := Kd.R_celln false HO_4.out (0 : Int) p27 q27
           (try rw [show ((0 : Int)).toNat = 0 from rfl] at hx27_0)
           (try simp only [Nat.reduceMul, Nat.zero_mul, Nat.zero_add, Nat.reduceAdd] at hx27_0)
           (try rw [show ((0 : Int)).toNat = 0 from rfl] at hf27_0)
           (try simp only [Nat.reduceMul, Nat.zero_mul, Nat.zero_add, Nat.reduceAdd] at hf27_0)
           replace p27 := eq_true p27
           replace q27 := eq_true q27
           have HP28 := Kd.R_putg HO_4.out (0 : Int) true
           go_wp2_with (first | ((with_reducible refine gate_store (t := 4) (p := 44) rfl ?_); refine store_event (t := 4) (p := 44) (v := ?vo_w29) (w1 := (wr.setCell ⟨go27, (0 : Int).toNat, none⟩ (.bool true))) ?hg ?ho ?hn ?hr ?_; (case ho => rfl); (case hg => rfl); (case hn => rfl); (case hr => first | (go_simp; done) | (go_simp; rfl)); intro w29 hw; have hg : wr.grownBy w29 (some go27) := (by rw [hw]; exact HP28.2); have hp_ : Kd.R Kd.bool 4 w29 w.heap.size (fun _ => True) (.slice (some ⟨go27, 0, none⟩) y215.length co27) y228 := (by rw [hw, Ny228.out]; exact HP28.1); clear HP28; have n0_ := Aside0.mk (Kd.S_over' (v := (.slice (some ⟨go27, 0, none⟩) y215.length co27)) att10_0_4 (Kd.R_typed HO_4.out) (by decide) hg); have n1_ := Aside0.mk (hp_); have n2_ := Aside0.mk ((by rw [hw]; exact below_set (HB.out) GB27.out : Below w.heap.size w w29)); clear HO_3; clear HO_4; clear HB; have HO_3 := n0_; have HO_4 := n1_; have HB := n2_; clear n0_ n1_ n2_; clear hg hw hp_) | ((with_reducible refine gate_dst (N := 45) rfl ?_); refine Kd.R_lit (Kd.int .i64) _ 3 ?hg (N := 45) ?hd (xs := ([0] : List Int)) (inner := [.int .i64 0]) (ok := fun _ => True) (okp := fun _ => True) ?hr ?hp (fun _ hk => hk) trivial (Below.refl _ _) (Nat.le_refl _) (by simp) ?_; (case hd => rfl); (case hg => rfl); (case hr => first | (go_simp; done) | (go_simp; rfl)); (case hp => exact (Reps.one (show Kd.M (Kd.int .i64) _ _ _ 0 [.int .i64 0] from rfl) (Reps.none _ _))); intro v230 w30 ho31 hb hg_ hnew_; clear hg_ hnew_; (first | rw [← Ny229.out] at ho31 | (simp only [Int.reduceToNat] at ho31; rw [← Ny229.out] at ho31)); have n0_ := Aside0.mk (Kd.S_below att10_0_4 hb); have n1_ := Aside0.mk (Kd.R_below att10_0_3 hb); have n2_ := Aside0.mk (Kd.R_lower ho31 (below_size att10_0_0)); have n3_ := Aside0.mk (below_step att10_0_0 hb); clear HO_3; clear HO_4; clear HB; have HO_3 := n0_; have HO_4 := n1_; have HO231 := n2_; have HB := n3_; clear n0_ n1_ n2_ n3_; clear hb ho31))
           go_loopg [7] k2 (fun kq v7 w' => ∃ (x3_3 : List (List (S83))) (x4_3 : List Bool) (x7_3 : List Int), Aside0 (spec_KnownAt.l2 kq l0 x3_3 x4_3 x7_3 = some r) ∧ Aside0 (kq ≤ k2) ∧ Aside0 (Kd.S (Kd.slice 83 k83) 81 w' w.heap.size (fun _ => True) u3 x3_3) ∧ Aside0 (Kd.R Kd.bool 4 w' w.heap.size (fun _ => True) (.slice (some ⟨go27, 0, none⟩) y215.length co27) x4_3) ∧ Aside0 (Kd.R (Kd.int .i64) 3 w' w.heap.size (fun _ => True) v7 x7_3) ∧ Aside0 (Below w.heap.size w w'))
           case atStart => exact ⟨(x3_2), (y228), (y229), H', ⟨Nat.le_refl _⟩, ⟨att10_0_4⟩, ⟨att10_0_3⟩, ⟨by (with_reducible repeat (first | apply Kd.R_alloc | apply Kd.R_drewN | apply Kd.R_drew)); exact HO231.out⟩, ⟨att10_0_0⟩⟩
           case round =>
            clear H'
            try clear c1
            try clear c2
            try clear p2
            try clear q2
            try clear hx2
            try clear qi2
            try clear hf2
            try clear c3
            try clear c4
            try clear c4b0
            try clear c4b1
            try clear c5
            try clear c5b0
            try clear c5b1
            try clear c6
            try clear p6
            try clear c11
            try clear c11b0
            try clear c12
            try clear c12b0
            try clear c12b1
            try clear c13
            try clear c18
            try clear c18b0
            try clear c19
            try clear c19b0
            try clear c19b1
            try clear c20
            try clear c20b0
            try clear c21
            try clear c21b0
            try clear c22
            try clear p22
            try clear q22
            try clear hx22
            try clear qi22
            try clear hf22
            try clear c24
            try clear q24
            try clear c26
            try clear c26b0
            try clear c26b1
            try clear p27
            try clear q27
            try clear hx27
            try clear qi27
            try clear hf27
            try clear hx224_0
            try clear hx22_0
            try clear hx22_1
            try clear hx27_0
            try clear p2
            try clear p22
            try clear p224
            try clear p27
            try clear p6
            try clear q22
            try clear q224
            try clear q27
            obtain ⟨x3_3, x4_3, x7_3, HA, HK3, HO_3, HO_4, HO_7, HB⟩ := hrel
            have hl4_3 := (Kd.R_reads' HO_4.out).1
            rw [hl4_3] at HO_4
            (try simp only [hl4_3])
            (try simp only [hl4_3] at HO_3)
            (try simp only [hl4_3] at HO_7)
            cases gk with
            | zero => exact absurd HA.out (by simp [spec_KnownAt.l2])
            | succ k3 =>
             have H := HA.out
             clear HA
             simp only [spec_KnownAt.l2] at H
             by_cases c32 : (x7_3.length : Int) > 0
             ·rw [if_pos c32] at H
              have c32b0 : decide (0 < (x7_3.length : Int)) = true := decide_eq_true c32
              have c32b1 : decide (0 < x7_3.length) = true := decide_eq_true (by omega)
              clear c32
              by_cases c33 : 0 < (x7_3.length : Int)
              ·rw [if_pos c33] at H
               have c33b0 : decide (0 < (x7_3.length : Int)) = true := decide_eq_true c33
               have c33b1 : decide (0 < x7_3.length) = true := decide_eq_true (by omega)
               clear c33
               obtain ⟨y233, hy233⟩ : ∃ y_ : List Int, y_ = (([] : List Int)) := ⟨_, rfl⟩
               replace H : (if 1 ≤ (x7_3.length : Int) then ((some (x7_3.drop 1 : List Int)).bind fun y236 => (if y233.length + y236.length < 17592186044416 then (if 0 ≤ (rd x7_3 0) then (if (rd x7_3 0) < (l0.length : Int) then (if (rd x7_3 0) < (x3_3.length : Int) then ((spec_l19Behind.f k3 ((rd_T63 l0 (rd x7_3 0)).f0) ((rd_T63 l0 (rd x7_3 0)).f1) ((rd_T63 l0 (rd x7_3 0)).f2) ((rd_T63 l0 (rd x7_3 0)).f3) ((rd_T63 l0 (rd x7_3 0)).f4) (rd_L5 x3_3 (rd x7_3 0))).bind fun t245 => ((spec_NextOf.f k3 l0 (rd x7_3 0)).bind fun t248 => (spec_KnownAt.l3 k3 l0 x3_3 x4_3 (y233 ++ y236) t245 t248 0))) else (none)) else (none)) else (none)) else (none))) else (none)) = some r := by first | (rw [hy233]; with_reducible exact H) | (have H2_ := (Option.bind_some _ _).symm.trans H; rw [hy233]; with_reducible exact H2_) | (have H2_ := (Option.bind_some _ _).symm.trans H; with_reducible exact H2_) | with_reducible exact H | (rw [hy233]; exact H) | exact H
               have Ny233 := Aside0.mk hy233
               clear hy233
               by_cases c34 : 1 ≤ (x7_3.length : Int)
               ·rw [if_pos c34] at H
                have c34b0 := eq_true c34
                have c34b1 : decide (1 ≤ (x7_3.length : Int)) = true := decide_eq_true c34
                clear c34
                obtain ⟨y236, hy236⟩ : ∃ y_ : List Int, y_ = (x7_3.drop 1) := ⟨_, rfl⟩
                replace H : (if y233.length + y236.length < 17592186044416 then (if 0 ≤ (rd x7_3 0) then (if (rd x7_3 0) < (l0.length : Int) then (if (rd x7_3 0) < (x3_3.length : Int) then ((spec_l19Behind.f k3 ((rd_T63 l0 (rd x7_3 0)).f0) ((rd_T63 l0 (rd x7_3 0)).f1) ((rd_T63 l0 (rd x7_3 0)).f2) ((rd_T63 l0 (rd x7_3 0)).f3) ((rd_T63 l0 (rd x7_3 0)).f4) (rd_L5 x3_3 (rd x7_3 0))).bind fun t245 => ((spec_NextOf.f k3 l0 (rd x7_3 0)).bind fun t248 => (spec_KnownAt.l3 k3 l0 x3_3 x4_3 (y233 ++ y236) t245 t248 0))) else (none)) else (none)) else (none)) else (none)) = some r := by first | (rw [hy236]; with_reducible exact H) | (have H2_ := (Option.bind_some _ _).symm.trans H; rw [hy236]; with_reducible exact H2_) | (have H2_ := (Option.bind_some _ _).symm.trans H; with_reducible exact H2_) | with_reducible exact H | (rw [hy236]; exact H) | exact H
                have Ny236 := Aside0.mk hy236
                clear hy236
                by_cases c35 : y233.length + y236.length < 17592186044416
                ·rw [if_pos c35] at H
                 have LMc35 := Aside0.mk c35
                 clear c35
                 obtain ⟨y240, hy240⟩ : ∃ y_ : List Int, y_ = (y233 ++ y236) := ⟨_, rfl⟩
                 replace H : (if 0 ≤ (rd x7_3 0) then (if (rd x7_3 0) < (l0.length : Int) then (if (rd x7_3 0) < (x3_3.length : Int) then ((spec_l19Behind.f k3 ((rd_T63 l0 (rd x7_3 0)).f0) ((rd_T63 l0 (rd x7_3 0)).f1) ((rd_T63 l0 (rd x7_3 0)).f2) ((rd_T63 l0 (rd x7_3 0)).f3) ((rd_T63 l0 (rd x7_3 0)).f4) (rd_L5 x3_3 (rd x7_3 0))).bind fun t245 => ((spec_NextOf.f k3 l0 (rd x7_3 0)).bind fun t248 => (spec_KnownAt.l3 k3 l0 x3_3 x4_3 y240 t245 t248 0))) else (none)) else (none)) else (none)) = some r := by first | (rw [hy240]; with_reducible exact H) | (have H2_ := (Option.bind_some _ _).symm.trans H; rw [hy240]; with_reducible exact H2_) | (have H2_ := (Option.bind_some _ _).symm.trans H; with_reducible exact H2_) | with_reducible exact H | (rw [hy240]; exact H) | exact H
                 have Ny240 := Aside0.mk hy240
                 clear hy240
                 by_cases c36 : 0 ≤ (rd x7_3 0)
                 ·rw [if_pos c36] at H
                  have c36b0 : decide (0 ≤ (rd x7_3 0)) = true := decide_eq_true c36
                  clear c36
                  by_cases c37 : (rd x7_3 0) < (l0.length : Int)
                  ·rw [if_pos c37] at H
                   have c37b0 : decide ((rd x7_3 0) < (l0.length : Int)) = true := decide_eq_true c37
                   clear c37
                   by_cases c38 : (rd x7_3 0) < (x3_3.length : Int)
                   ·rw [if_pos c38] at H
                    have c38b0 : decide ((rd x7_3 0) < (x3_3.length : Int)) = true := decide_eq_true c38
                    clear c38
                    replace H := Option.bind_eq_some_iff.mp H
                    obtain ⟨t245, A390, H⟩ := H
                    (try dsimp only at H)
                    have A39 := Aside0.mk A390
                    clear A390
                    replace H := Option.bind_eq_some_iff.mp H
                    obtain ⟨t248, A400, H⟩ := H
                    (try dsimp only at H)
                    have A40 := Aside0.mk A400
                    clear A400
                    have H' := Aside0.mk H
                    clear H
                    obtain ⟨Ao41, co41, eo41⟩ := Kd.R_slice HO_7.out
                    subst eo41
                    have p232 : 0 ≤ (0 : Int) := (by omega)
                    have q232 : 0 < (x7_3.length : Int) := of_decide_eq_true att10_0_2
                    obtain ⟨ad232, e232, hx232_0⟩ := Kd.at_int (Kd.R_reads' HO_7.out).2.2 0 p232 q232
                    cases e232
                    have qi232 : (0 < x7_3.length) = True := eq_true (by omega)
                    (try rw [show ((0 : Int)).toNat = 0 from rfl] at hx232_0)
                    (try rw [Addr.add_zero'] at hx232_0)
                    replace p232 := eq_true p232
                    replace q232 := eq_true q232
                    try go_wp2_with (first | ((with_reducible refine gate_dst (N := 52) rfl ?_); refine Kd.R_lit (Kd.int .i64) _ 3 ?hg (N := 52) ?hd (xs := ([] : List Int)) (inner := []) (ok := fun _ => True) (okp := fun _ => True) ?hr ?hp (fun _ hk => hk) trivial (Below.refl _ _) (Nat.le_refl _) (by simp) ?_; (case hd => rfl); (case hg => rfl); (case hr => first | (go_simp; done) | (go_simp; rfl)); (case hp => exact (Reps.none _ _)); intro v234 w42 ho43 hb hg_ hnew_; clear hg_ hnew_; (first | rw [← Ny233.out] at ho43 | (simp only [Int.reduceToNat] at ho43; rw [← Ny233.out] at ho43)); have n0_ := Aside0.mk (Kd.S_below att10_0_4 hb); have n1_ := Aside0.mk (Kd.R_below att10_0_3 hb); have n2_ := Aside0.mk (Kd.R_elder' att10_0_1 (Kd.R_base ho43) hb); have n3_ := Aside0.mk (Kd.R_lower (Kd.R_new' ho43 (Kd.R_lt att10_0_1)) (below_size att10_0_0)); have n4_ := Aside0.mk (below_step att10_0_0 hb); clear HO_3; clear HO_4; clear HO_7; clear HB; have HO_3 := n0_; have HO_4 := n1_; have HO_7 := n2_; have HO235 := n3_; have HB := n4_; clear n0_ n1_ n2_ n3_ n4_; clear hb ho43; have q44 : (1 : Int) ≤ ((x7_3.length : Int) : Int) := of_decide_eq_true att10_0_2; obtain ⟨i044, hi044, _, hsz44, _⟩ := info_parts info3; have hroom44 : x7_3.length ≤ co41 := (Kd.R_reads' HO_7.out).2.1; have hC44 : Kd.C (Kd.int .i64) _ (some ad232) x7_3.length x7_3 := (Kd.R_reads' HO_7.out).2.2; have hcut44 := cut_from (P := Try.prog) 34 3 .i64 Try.underlying34 hi044 1 hsz44 (some ad232) x7_3.length co41 1 (by omega) q44; have hr44 := Kd.C_drop (m := (1 : Int).toNat) (c := co41) hC44 (by omega) hroom44; obtain ⟨A44, hA44⟩ : ∃ A1, A1 = (if co41 = (1 : Int).toNat then (some ad232) else ((some ad232) : Option Addr).map (·.add ((1 : Int).toNat * 1))) := ⟨_, rfl⟩; obtain ⟨c44, hc44⟩ : ∃ c1, c1 = co41 - (1 : Int).toNat := ⟨_, rfl⟩; have hy44 : y236.length = x7_3.length - (1 : Int).toNat := (by rw [Ny236.out, List.length_drop] <;> omega); rw [show (x7_3).drop (1 : Int).toNat = y236 from Ny236.out.symm] at hr44; replace hr44 : Kd.C (Kd.int .i64) _ A44 y236.length y236 := (by rw [hA44]; exact hr44); rw [← hy44, ← hA44, ← hc44] at hcut44; have HR239 := Aside0.mk hr44; have HC239 := Aside0.mk (show y236.length ≤ c44 from by rw [hy44, hc44]; exact Nat.sub_le_sub_right hroom44 _); clear hr44 hC44 hroom44 hi044 hsz44 hc44; have KY44 := Aside0.mk hy44; have KA44 := Aside0.mk hA44; clear hy44 hA44; have KL44 := Aside0.mk (show 1 ≤ x7_3.length from by omega); replace q44 := eq_true q44) | ((with_reducible refine gate_builtin (b := .append) (xs := #[.tmp 52, .tmp 54]) rfl ?_); at_builtin; refine Kd.R_append_rows (Kd.int .i64) (w0 := w) w.heap.size rfl (.tmp 52) (.tmp 54) 34 3 (.int .i64 0) 8 rfl Try.underlying34 info3 rfl (by decide) (by omega) v234 y233 y236 _ _ _ (fun k_ => some k_ ≠ (.slice (some ad232) x7_3.length co41 : Value).ownBlock) (fun _ => False) rfl rfl ?aO ?aR (fun _ _ h => h) (fun _ h => h.elim) ?aF ?aB ?aS ?aL ?_; (case aR => repeat (first | exact att10_0_13 | (with_reducible refine Kd.C_alloc ?_ _) | (with_reducible refine Kd.C_drewN ?_ _) | (with_reducible refine Kd.C_drew ?_))); (case aB => exact att10_0_0); (case aF => exact (fun k_ hk => Kd.fresh' (Kd.R_lt att10_0_1) k_ hk)); (case aO => exact (by (with_reducible repeat (first | apply Kd.R_alloc | apply Kd.R_drewN | apply Kd.R_drew)); exact Kd.R_mono HO235.out (fun _ hk => hk.2))); (case aS => exact (below_size att10_0_0)); (case aL => have := LMc35.out; omega); intro v241 w45 ho hb hg hat; rw [← Ny240.out] at ho; have n0_ := Aside0.mk (Kd.S_over' att10_0_4 (Kd.R_typed att10_0_24) (by decide) hg); have n1_ := Aside0.mk (Kd.R_over' att10_0_3 (Kd.R_typed att10_0_24) (by decide) hg); have n2_ := Aside0.mk (Kd.R_after (ok := (fun _ => True)) att10_0_1 hg hat); have n3_ := Aside0.mk (hb); have n4_ := Aside0.mk ((show Kd.C (Kd.int .i64) w45 A44 y236.length y236 from by rw [Ny236.out, KA44.out]; exact Kd.C_drop (m := 1) (c := co41) ((Kd.R_reads' (Kd.R_after (ok := (fun _ => True)) att10_0_1 hg hat)).2.2) KL44.out ((Kd.R_reads' (Kd.R_after (ok := (fun _ => True)) att10_0_1 hg hat)).2.1))); have n5_ := Aside0.mk (ho); clear HO_3; clear HO_4; clear HO_7; clear HB; clear HR239; clear HO235; have HO_3 := n0_; have HO_4 := n1_; have HO_7 := n2_; have HB := n3_; have HR239 := n4_; have HO242 := n5_; clear n0_ n1_ n2_ n3_ n4_ n5_; clear ho hb hg hat))
                    have n0_ := Aside0.mk (Kd.S_drew HO_3.out)
                    have n1_ := Aside0.mk (Kd.R_drew HO_4.out)
                    have n2_ := Aside0.mk (Kd.R_drew HO_7.out)
                    have n3_ := Aside0.mk (Kd.R_drew HO242.out)
                    have n4_ := Aside0.mk (Kd.C_drew HR239.out)
                    have n5_ := Aside0.mk (below_drew1 HB.out)
                    clear HO_3
                    clear HO_4
                    clear HO_7
                    clear HO242
                    clear HR239
                    clear HB
                    have HO_3 := n0_
                    have HO_4 := n1_
                    have HO_7 := n2_
                    have HO242 := n3_
                    have HR239 := n4_
                    have HB := n5_
                    clear n0_ n1_ n2_ n3_ n4_ n5_
                    have p243 : 0 ≤ ((rd x7_3 0) : Int) := of_decide_eq_true att10_0_2
                    have q243 : (rd x7_3 0) < (l0.length : Int) := of_decide_eq_true att10_0_2
                    obtain ⟨ad243, e243, hx243_0, hx243_1, hx243_2, hx243_3, hx243_4⟩ := at_T63 HR0.out (rd x7_3 0) p243 q243
                    have hw243_4 := hx243_4
                    have hw243_3 := hx243_3
                    have hw243_2 := hx243_2
                    have hw243_1 := hx243_1
                    have hw243_0 := hx243_0
                    cases e243
                    replace hx243_0 := (HB.out.cell (World.block_lt_of_cell? w _ hx243_0)).trans hx243_0
                    replace hx243_1 := (HB.out.cell (World.block_lt_of_cell? w _ hx243_1)).trans hx243_1
                    replace hx243_2 := (HB.out.cell (World.block_lt_of_cell? w _ hx243_2)).trans hx243_2
                    replace hx243_3 := (HB.out.cell (World.block_lt_of_cell? w _ hx243_3)).trans hx243_3
                    replace hx243_4 := (HB.out.cell (World.block_lt_of_cell? w _ hx243_4)).trans hx243_4
                    replace p243 := eq_true p243
                    replace q243 := eq_true q243
                    obtain ⟨Ao47, co47, eo47⟩ := Kd.S_slice HO_3.out
                    (first | subst eo47 | (injection eo47 with f1_ f2_ f3_; have f4_ := f1_.symm; have f5_ := f3_.symm; clear f1_ f2_ f3_; subst f4_; subst f5_))
                    have p244 : 0 ≤ ((rd x7_3 0) : Int) := of_decide_eq_true att10_0_2
                    have q244 : (rd x7_3 0) < (x3_3.length : Int) := of_decide_eq_true att10_0_2
                    obtain ⟨ad244, A244_0, c244_0, e244, hx244_0, hl244_0, hi244_0⟩ := at_L5 (Kd.S_reads' HO_3.out).2.2 (rd x7_3 0) p244 q244
                    cases e244
                    obtain ⟨ce244, hce244, hMe244, hcc244⟩ := Kd.S_get HO_3.out [] (rd x7_3 0) p244 (by first | exact q244 | exact of_decide_eq_true att10_0_2 | (have e_ := (Kd.S_reads' HO_3.out).1; omega))
                    obtain ⟨ve244_0, rfl, ge244_0⟩ := hMe244
                    have hv244_0 := hcc244 0 _ rfl
                    rw [Nat.add_zero, show ((Kd.slice 83 k83)).sz = 1 from rfl, Nat.mul_one] at hv244_0
                    replace hv244_0 := Option.some.inj (hv244_0.symm.trans hx244_0)
                    rw [hv244_0] at ge244_0
                    have HL244_0 := Aside0.mk (show Kd.R k83 83 _ _ _ _ (rd_L5 x3_3 (rd x7_3 0)) from ge244_0)
                    clear hv244_0 ge244_0
                    have HX244_0 := Aside0.mk hx244_0
                    clear hcc244 hce244
                    have HR244_0 := Aside0.mk hi244_0
                    have HC244_0 := Aside0.mk hl244_0
                    clear hi244_0 hl244_0
                    replace p244 := eq_true p244
                    replace q244 := eq_true q244
                    refine start_ (n := 10) (S := fun w' => w'.cell? (ad243.add (((rd x7_3 0)).toNat * 5)) = some (.int .i64 ((rd_T63 l0 (rd x7_3 0)).f0)) ∧ w'.cell? ⟨(ad243.add (((rd x7_3 0)).toNat * 5)).block, (ad243.add (((rd x7_3 0)).toNat * 5)).off + 1, none⟩ = some (.int .i64 ((rd_T63 l0 (rd x7_3 0)).f1)) ∧ w'.cell? ⟨(ad243.add (((rd x7_3 0)).toNat * 5)).block, (ad243.add (((rd x7_3 0)).toNat * 5)).off + 2, none⟩ = some (.int .i64 ((rd_T63 l0 (rd x7_3 0)).f2)) ∧ w'.cell? ⟨(ad243.add (((rd x7_3 0)).toNat * 5)).block, (ad243.add (((rd x7_3 0)).toNat * 5)).off + 3, none⟩ = some (.int .i64 ((rd_T63 l0 (rd x7_3 0)).f3)) ∧ w'.cell? ⟨(ad243.add (((rd x7_3 0)).toNat * 5)).block, (ad243.add (((rd x7_3 0)).toNat * 5)).off + 4, none⟩ = some (.int .i64 ((rd_T63 l0 (rd x7_3 0)).f4)) ∧ w'.cell? (ad244.add ((rd x7_3 0)).toNat) = some (.slice A244_0 (rd_L5 x3_3 (rd x7_3 0)).length c244_0)) (ds := []) (tf_ 0 10) (by kernel_rfl) rfl rfl ⟨((HB.out.cell (World.block_lt_of_cell? w _ hw243_0)).trans hw243_0), ((HB.out.cell (World.block_lt_of_cell? w _ hw243_1)).trans hw243_1), ((HB.out.cell (World.block_lt_of_cell? w _ hw243_2)).trans hw243_2), ((HB.out.cell (World.block_lt_of_cell? w _ hw243_3)).trans hw243_3), ((HB.out.cell (World.block_lt_of_cell? w _ hw243_4)).trans hw243_4), hx244_0⟩ (fun hHeld => ?_); refine with_tabW spec_KnownAt.tab18 spec_KnownAt.bits18 (fun HT_ HW_ => ?_)
                    generalize w45.drew = w46 at HO_3 HO_4 HO_7 HO242 HR239 HB HL244_0 HR244_0 HX244_0 hx243_0 hx243_1 hx243_2 hx243_3 hx243_4 hx244_0 hHeld ⊢
                    refine pureP_ (i := 0) (N := some 56) (tf_ 1 9) (any_of HT_.out (by kernel_rfl)) (h := ?_)
                    refine pureP_ (i := 1) (N := some 57) (tf_ 2 8) (any_of HT_.out (by kernel_rfl)) (h := ?_)
                    refine pureP_ (i := 2) (N := some 58) (tf_ 3 7) (any_of HT_.out (by kernel_rfl)) (h := ?_)
                    refine pureP_ (i := 4) (N := some 60) #[true, true, true, false, true, false, false, false, false, false] (any_of HT_.out (by kernel_rfl)) (h := ?_)
                    refine pureP_ (i := 5) (N := some 61) #[true, true, true, false, true, true, false, false, false, false] (any_of HT_.out (by kernel_rfl)) (h := ?_)
                    refine pureP_ (i := 6) (N := some 62) #[true, true, true, false, true, true, true, false, false, false] (any_of HT_.out (by kernel_rfl)) (h := ?_)
                    refine takeP_ (i := 3) (N := some 59) (tf_ 7 3) (take_ofW HT_.out HW_.out (by kernel_rfl)) hHeld (hy := Or.inl ⟨by rfl, by rintro w' ⟨s0, s1, s2, s3, s4, s5⟩; go_simp; with_reducible rfl⟩) (h := ?_)
                    refine takeP_ (i := 7) (N := some 63) (tf_ 8 2) (take_ofW HT_.out HW_.out (by kernel_rfl)) hHeld (hy := Or.inl ⟨by rfl, by rintro w' ⟨s0, s1, s2, s3, s4, s5⟩; go_simp; with_reducible rfl⟩) (h := ?_)
                    refine one_ (i := 8) (N := some 64) (tf_ 9 1) rfl rfl (one_of HT_.out (by kernel_rfl)) (by decide) (fun K hK => ?_)
                    refine goes_ Try.func91 (by kernel_rfl) rfl #[.agg #[.int .i64 ((rd_T63 l0 (rd x7_3 0)).f0), .int .i64 ((rd_T63 l0 (rd x7_3 0)).f1), .int .i64 ((rd_T63 l0 (rd x7_3 0)).f2), .int .i64 ((rd_T63 l0 (rd x7_3 0)).f3), .int .i64 ((rd_T63 l0 (rd x7_3 0)).f4)], .slice A244_0 (rd_L5 x3_3 (rd x7_3 0)).length c244_0] (by rfl) rfl rfl att10_0_7 ?_
                    with_reducible refine (spec_l19Behind.calls k3 ((rd_T63 l0 (rd x7_3 0)).f0) ((rd_T63 l0 (rd x7_3 0)).f1) ((rd_T63 l0 (rd x7_3 0)).f2) ((rd_T63 l0 (rd x7_3 0)).f3) ((rd_T63 l0 (rd x7_3 0)).f4) _ _ (rd_L5 x3_3 (rd x7_3 0)) t245 _ ?side1 ?side2 A39.out).mono ?_
                    (case side1 => repeat (first | exact att10_0_12 | (with_reducible refine Kd.C_alloc ?_ _) | (with_reducible refine Kd.C_drewN ?_ _) | (with_reducible refine Kd.C_drew ?_)))
                    (case side2 => exact HC244_0.out)
                    rintro e w48 ⟨v246, rfl, ho0, hb⟩
                    have HS5_ := (hb.cell (World.block_lt_of_cell? _ _ (hHeld.2.2.2.2.2))).trans (hHeld.2.2.2.2.2)
                    refine ⟨_, rfl, ?_⟩
                    have n0_ := Aside0.mk (Kd.S_elder' att10_0_4 (Kd.R_base ho0) hb)
                    have n1_ := Aside0.mk (Kd.R_below att10_0_3 hb)
                    have n2_ := Aside0.mk (Kd.R_below att10_0_1 hb)
                    have n3_ := Aside0.mk (Kd.R_below att10_0_20 hb)
                    have n4_ := Aside0.mk (Kd.R_elder' att10_0_17 (Kd.R_base ho0) hb)
                    have n5_ := Aside0.mk (Kd.R_lower (Kd.R_new' ho0 (Kd.R_lt att10_0_17)) (below_size att10_0_0))
                    have n6_ := Aside0.mk (Kd.C_below att10_0_13 hb)
                    have n7_ := Aside0.mk (Kd.C_below att10_0_12 hb)
                    have n8_ := Aside0.mk (pw_cell_below hb HX244_0.out)
                    have n9_ := Aside0.mk (below_step att10_0_0 hb)
                    clear HO_3
                    clear HO_4
                    clear HO_7
                    clear HO242
                    clear HL244_0
                    clear HR239
                    clear HR244_0
                    clear HX244_0
                    clear HB
                    have HO_3 := n0_
                    have HO_4 := n1_
                    have HO_7 := n2_
                    have HO242 := n3_
                    have HL244_0 := n4_
                    have HO247 := n5_
                    have HR239 := n6_
                    have HR244_0 := n7_
                    have HX244_0 := n8_
                    have HB := n9_
                    clear n0_ n1_ n2_ n3_ n4_ n5_ n6_ n7_ n8_ n9_
                    (try clear hb)
                    (try clear hb2)
                    (try clear hk)
                    (try clear hi)
                    (try clear ho0)
                    refine hK.out _ _ ⟨((HB.out.cell (World.block_lt_of_cell? w _ hw243_0)).trans hw243_0), ((HB.out.cell (World.block_lt_of_cell? w _ hw243_1)).trans hw243_1), ((HB.out.cell (World.block_lt_of_cell? w _ hw243_2)).trans hw243_2), ((HB.out.cell (World.block_lt_of_cell? w _ hw243_3)).trans hw243_3), ((HB.out.cell (World.block_lt_of_cell? w _ hw243_4)).trans hw243_4), HS5_⟩ (fun hHeld => ?_)
                    clear hK K
                    refine normP_ (h := ?_)
                    refine pureP_ (i := 9) (N := some 9) (tf_ 10 0) (any_of HT_.out (by kernel_rfl)) (h := ?_)
                    refine done_ (done_of HT_.out (by kernel_rfl)) ?_
                    try go_wp2_with (first | ((with_reducible refine gate_callee (f := 29) rfl ?_); refine goesL_ (some 67) rfl rfl Try.func29 (by kernel_rfl) rfl #[.slice (some ad243) l0.length c0, .int .i64 (rd x7_3 0)] rfl att10_0_7 ?_; (with_reducible refine (spec_NextOf.calls k3 _ _ l0 (rd x7_3 0) t248 _ ?side1 ?side2 A40.out).mono ?_); (case side1 => repeat (first | exact (Kd.C_below HR0.out HB.out) | (with_reducible refine Kd.C_alloc ?_ _) | (with_reducible refine Kd.C_drewN ?_ _) | (with_reducible refine Kd.C_drew ?_))); (case side2 => exact HC0.out); rintro e w49 ⟨v249, rfl, ho0, hb⟩; refine ⟨_, rfl, ?_⟩; have n0_ := Aside0.mk (Kd.S_below att10_0_4 hb); have n1_ := Aside0.mk (Kd.R_below att10_0_3 hb); have n2_ := Aside0.mk (Kd.R_elder' att10_0_1 (Kd.R_base ho0) hb); have n3_ := Aside0.mk (Kd.R_elder' att10_0_20 (Kd.R_base ho0) hb); have n4_ := Aside0.mk (Kd.R_below att10_0_17 hb); have n5_ := Aside0.mk (Kd.R_below (by (with_reducible repeat (first | apply Kd.R_alloc | apply Kd.R_drewN | apply Kd.R_drew)); exact HO247.out) hb); have n6_ := Aside0.mk (Kd.R_lower (Kd.R_new' (Kd.R_new' ho0 (Kd.R_lt att10_0_1)) (Kd.R_lt att10_0_20)) (below_size att10_0_0)); have n7_ := Aside0.mk (Kd.C_below att10_0_13 hb); have n8_ := Aside0.mk (Kd.C_below att10_0_12 hb); have n9_ := Aside0.mk (pw_cell_below hb HX244_0.out); have n10_ := Aside0.mk (below_step att10_0_0 hb); clear HO_3; clear HO_4; clear HO_7; clear HO242; clear HL244_0; clear HO247; clear HR239; clear HR244_0; clear HX244_0; clear HB; have HO_3 := n0_; have HO_4 := n1_; have HO_7 := n2_; have HO242 := n3_; have HL244_0 := n4_; have HO247 := n5_; have HO250 := n6_; have HR239 := n7_; have HR244_0 := n8_; have HX244_0 := n9_; have HB := n10_; clear n0_ n1_ n2_ n3_ n4_ n5_ n6_ n7_ n8_ n9_ n10_; (try clear hb); (try clear hb2); (try clear hk); (try clear hi); (try clear ho0)))
                    go_loopg [7, 11] k3 (fun kq v7 v11 w' => ∃ (x3_4 : List (List (S83))) (x4_4 : List Bool) (x7_4 : List Int) (x11_4 : Int), v11 = .int .i64 x11_4 ∧ Aside0 (spec_KnownAt.l3 kq l0 x3_4 x4_4 x7_4 t245 t248 x11_4 = some r) ∧ Aside0 (kq ≤ k3) ∧ Aside0 (Kd.S (Kd.slice 83 k83) 81 w' w.heap.size (fun k_ => some k_ ≠ (v246 : Value).ownBlock) (.slice (some ad244) x3_3.length co47) x3_4) ∧ Aside0 (Kd.R Kd.bool 4 w' w.heap.size (fun _ => True) (.slice (some ⟨go27, 0, none⟩) x4_3.length co27) x4_4) ∧ Aside0 (Kd.R (Kd.int .i64) 3 w' w.heap.size (fun k_ => some k_ ≠ (v249 : Value).ownBlock) v7 x7_4) ∧ Aside0 (Kd.R k83 83 w' w.heap.size (fun _ => True) v246 t245) ∧ Aside0 (Kd.R (Kd.int .i64) 3 w' w.heap.size (fun k_ => some k_ ≠ (v7 : Value).ownBlock) v249 t248) ∧ Aside0 (Below w.heap.size w w'))
                    case atStart => exact ⟨(x3_3), (x4_3), (y240), (0), att10_0_15, H', ⟨Nat.le_refl _⟩, ⟨by (try simp only [hl4_3]); (with_reducible repeat (first | apply Kd.S_alloc | apply Kd.S_drewN | apply Kd.S_drew)); exact Kd.S_mono HO_3.out (fun _ hk => hk.2)⟩, ⟨by (try simp only [hl4_3]); (with_reducible repeat (first | apply Kd.R_alloc | apply Kd.R_drewN | apply Kd.R_drew)); exact HO_4.out⟩, ⟨by (try simp only [hl4_3]); (with_reducible repeat (first | apply Kd.R_alloc | apply Kd.R_drewN | apply Kd.R_drew)); exact Kd.R_mono HO242.out (fun _ hk => hk.2)⟩, ⟨by (try simp only [hl4_3]); (with_reducible repeat (first | apply Kd.R_alloc | apply Kd.R_drewN | apply Kd.R_drew)); exact Kd.R_mono HO247.out (fun _ hk => trivial)⟩, ⟨by (try simp only [hl4_3]); (with_reducible repeat (first | apply Kd.R_alloc | apply Kd.R_drewN | apply Kd.R_drew)); exact Kd.R_mono HO250.out (fun _ hk => hk.2)⟩, ⟨att10_0_0⟩⟩
                    case round =>
                     clear H'
                     try clear c1
                     try clear c2
                     try clear p2
                     try clear q2
                     try clear hx2
                     try clear qi2
                     try clear hf2
                     try clear c3
                     try clear c4
                     try clear c4b0
                     try clear c4b1
                     try clear q4
                     try clear c5
                     try clear c5b0
                     try clear c5b1
                     try clear c6
                     try clear p6
                     try clear c9
                     try clear c11
                     try clear c11b0
                     try clear c12
                     try clear c12b0
                     try clear c12b1
                     try clear c13
                     try clear c18
                     try clear c18b0
                     try clear c19
                     try clear c19b0
                     try clear c19b1
                     try clear c20
                     try clear c20b0
                     try clear c21
                     try clear c21b0
                     try clear c22
                     try clear p22
                     try clear q22
                     try clear hx22
                     try clear qi22
                     try clear hf22
                     try clear p23
                     try clear q23
                     try clear hx23
                     try clear qi23
                     try clear c24
                     try clear p24
                     try clear q24
                     try clear hx24
                     try clear c26
                     try clear c26b0
                     try clear c26b1
                     try clear p27
                     try clear q27
                     try clear hx27
                     try clear qi27
                     try clear hf27
                     try clear c29
                     try clear c32
                     try clear c32b0
                     try clear c32b1
                     try clear c33
                     try clear c33b0
                     try clear c33b1
                     try clear c34
                     try clear c34b0
                     try clear c34b1
                     try clear c35
                     try clear c36
                     try clear c36b0
                     try clear c37
                     try clear c37b0
                     try clear c38
                     try clear c38b0
                     try clear c44
                     try clear q44
                     try clear c45
                     try clear hx224_0
                     try clear hx22_0
                     try clear hx22_1
                     try clear hx232_0
                     try clear hx243_0
                     try clear hx243_1
                     try clear hx243_2
                     try clear hx243_3
                     try clear hx243_4
                     try clear hx244_0
                     try clear hx27_0
                     try clear p2
                     try clear p22
                     try clear p224
                     try clear p232
                     try clear p243
                     try clear p244
                     try clear p27
                     try clear p6
                     try clear q2
                     try clear q22
                     try clear q224
                     try clear q232
                     try clear q24
                     try clear q243
                     try clear q244
                     try clear q27
                     try clear q44
                     obtain ⟨x3_4, x4_4, x7_4, x11_4, rfl, HA, HK4, HO_3, HO_4, HO_7, HO_9, HO_10, HB⟩ := hrel
                     have hl3_4 := (Kd.S_reads' HO_3.out).1
                     rw [hl3_4] at HO_3
                     (try simp only [hl3_4])
                     (try simp only [hl3_4] at HO_4)
                     (try simp only [hl3_4] at HO_7)
                     (try simp only [hl3_4] at HO_9)
                     (try simp only [hl3_4] at HO_10)
                     have hl4_4 := (Kd.R_reads' HO_4.out).1
                     rw [hl4_4] at HO_4
                     (try simp only [hl4_4])
                     (try simp only [hl4_4] at HO_3)
                     (try simp only [hl4_4] at HO_7)
                     (try simp only [hl4_4] at HO_9)
                     (try simp only [hl4_4] at HO_10)
                     cases gk with
                     | zero => exact absurd HA.out (by simp [spec_KnownAt.l3])
                     | succ k4 =>
                      have H := HA.out
                      clear HA
                      simp only [spec_KnownAt.l3] at H
                      by_cases c50 : x11_4 < (t248.length : Int)
                      ·rw [if_pos c50] at H
                       have c50b0 : decide (x11_4 < (t248.length : Int)) = true := decide_eq_true c50
                       clear c50
                       by_cases c51 : 0 ≤ x11_4
                       ·rw [if_pos c51] at H
                        have c51b0 : decide (0 ≤ x11_4) = true := decide_eq_true c51
                        clear c51
                        by_cases c52 : 0 ≤ (rd t248 x11_4)
                        ·rw [if_pos c52] at H
                         have c52b0 : decide (0 ≤ (rd t248 x11_4)) = true := decide_eq_true c52
                         clear c52
                         by_cases c53 : (rd t248 x11_4) < (x4_4.length : Int)
                         ·rw [if_pos c53] at H
                          have c53b0 : decide ((rd t248 x11_4) < (x4_4.length : Int)) = true := decide_eq_true c53
                          clear c53
                          obtain ⟨bq54, hbq54⟩ : ∃ b_ : Bool, b_ = (rdOf false x4_4 (rd t248 x11_4)) := ⟨_, rfl⟩
                          replace H : (if (bq54 = true) then (if (rd t248 x11_4) < (x3_4.length : Int) then ((spec_l19Meet.f k4 (rd_L5 x3_4 (rd t248 x11_4)) t245).bind fun bt254 => (if bt254.2 = true then (if x7_4.length < 17592186044416 then (spec_KnownAt.l3 k4 l0 (x3_4.set ((rd t248 x11_4) : Int).toNat bt254.1) x4_4 (x7_4 ++ [rd t248 x11_4]) t245 t248 (wrap64 (x11_4 + 1))) else (none)) else (spec_KnownAt.l3 k4 l0 x3_4 x4_4 x7_4 t245 t248 (wrap64 (x11_4 + 1))))) else (none)) else ((some (([] : List (S83)) : List (S83))).bind fun y263 => (if y263.length + t245.length < 8796093022208 then (if (rd t248 x11_4) < (x3_4.length : Int) then (if x7_4.length < 17592186044416 then (spec_KnownAt.l3 k4 l0 (x3_4.set ((rd t248 x11_4) : Int).toNat (y263 ++ t245)) (x4_4.set ((rd t248 x11_4) : Int).toNat true) (x7_4 ++ [rd t248 x11_4]) t245 t248 (wrap64 (x11_4 + 1))) else (none)) else (none)) else (none)))) = some r := by rw [← hbq54] at H; exact H
                          have Nbq54 := Aside0.mk hbq54
                          clear hbq54
                          by_cases c55 : (bq54 = true)
                          ·subst c55
                           rw [if_pos rfl] at H
                           by_cases c56 : (rd t248 x11_4) < (x3_4.length : Int)
                           ·rw [if_pos c56] at H
                            have c56b0 : decide ((rd t248 x11_4) < (x3_4.length : Int)) = true := decide_eq_true c56
                            clear c56
                            replace H := Option.bind_eq_some_iff.mp H
                            obtain ⟨⟨t254, t255⟩, A570, H⟩ := H
                            (try dsimp only at H)
                            have A57 := Aside0.mk A570
                            clear A570
                            by_cases c58 : t255 = true
                            ·subst c58
                             rw [if_pos rfl] at H
                             obtain ⟨y258, hy258⟩ : ∃ y_ : List (List (S83)), y_ = (x3_4.set ((rd t248 x11_4) : Int).toNat t254) := ⟨_, rfl⟩
                             replace H : (if x7_4.length < 17592186044416 then (spec_KnownAt.l3 k4 l0 y258 x4_4 (x7_4 ++ [rd t248 x11_4]) t245 t248 (wrap64 (x11_4 + 1))) else (none)) = some r := by first | (rw [hy258]; with_reducible exact H) | (have H2_ := (Option.bind_some _ _).symm.trans H; rw [hy258]; with_reducible exact H2_) | (have H2_ := (Option.bind_some _ _).symm.trans H; with_reducible exact H2_) | with_reducible exact H | (rw [hy258]; exact H) | exact H
                             have Ny258 := Aside0.mk hy258
                             clear hy258
                             by_cases c60 : x7_4.length < 17592186044416
                             ·rw [if_pos c60] at H
                              have LMc60 := Aside0.mk c60
                              clear c60
                              obtain ⟨y259, hy259⟩ : ∃ y_ : List Int, y_ = (x7_4 ++ [rd t248 x11_4]) := ⟨_, rfl⟩
                              replace H : (spec_KnownAt.l3 k4 l0 y258 x4_4 y259 t245 t248 (wrap64 (x11_4 + 1))) = some r := by first | (rw [hy259]; with_reducible exact H) | (have H2_ := (Option.bind_some _ _).symm.trans H; rw [hy259]; with_reducible exact H2_) | (have H2_ := (Option.bind_some _ _).symm.trans H; with_reducible exact H2_) | with_reducible exact H | (rw [hy259]; exact H) | exact H
                              have Ny259 := Aside0.mk hy259
                              clear hy259
                              have H' := Aside0.mk H
                              clear H
                              obtain ⟨Ao61, co61, eo61⟩ := Kd.R_slice HO_10.out
                              subst eo61
                              have p251 : 0 ≤ (x11_4 : Int) := of_decide_eq_true att10_0_2
                              have q251 : x11_4 < (t248.length : Int) := of_decide_eq_true att10_0_2
                              obtain ⟨ad251, e251, hx251_0⟩ := Kd.at_int (Kd.R_reads' HO_10.out).2.2 x11_4 p251 q251
                              cases e251
                              replace p251 := eq_true p251
                              replace q251 := eq_true q251
                              have p252 : 0 ≤ ((rd t248 x11_4) : Int) := of_decide_eq_true att10_0_2
                              have q252 : (rd t248 x11_4) < (x4_4.length : Int) := of_decide_eq_true att10_0_2
                              obtain ⟨ad252, e252, hx252_0⟩ := Kd.at_bool (Kd.R_reads' HO_4.out).2.2 (rd t248 x11_4) p252 q252
                              (try rw [← Nbq54.out] at hx252_0)
                              obtain rfl : (⟨go27, 0, none⟩ : Addr) = ad252 := (by injection e252)
                              (first | simp only [add_plain] at hx252_0 | simp only [add_at] at hx252_0 | simp only [Addr.add, Nat.zero_add] at hx252_0 | skip)
                              replace p252 := eq_true p252
                              replace q252 := eq_true q252
                              have p253 : 0 ≤ ((rd t248 x11_4) : Int) := of_decide_eq_true att10_0_2
                              have q253 : (rd t248 x11_4) < (x3_4.length : Int) := of_decide_eq_true att10_0_2
                              obtain ⟨ad253, A253_0, c253_0, e253, hx253_0, hl253_0, hi253_0⟩ := at_L5 (Kd.S_reads' HO_3.out).2.2 (rd t248 x11_4) p253 q253
                              obtain rfl : ad244 = ad253 := (by injection e253)
                              obtain ⟨ce253, hce253, hMe253, hcc253⟩ := Kd.S_get HO_3.out [] (rd t248 x11_4) p253 att10_1_2
                              obtain ⟨ve253_0, rfl, ge253_0⟩ := hMe253
                              have hv253_0 := hcc253 0 _ rfl
                              rw [Nat.add_zero, show ((Kd.slice 83 k83)).sz = 1 from rfl, Nat.mul_one] at hv253_0
                              replace hv253_0 := Option.some.inj (hv253_0.symm.trans hx253_0)
                              rw [hv253_0] at ge253_0
                              have HL253_0 := Aside0.mk (show Kd.R k83 83 _ _ _ _ (rd_L5 x3_4 (rd t248 x11_4)) from ge253_0)
                              clear hv253_0 ge253_0
                              have HX253_0 := Aside0.mk hx253_0
                              clear hcc253 hce253
                              have HR253_0 := Aside0.mk hi253_0
                              have HC253_0 := Aside0.mk hl253_0
                              clear hi253_0 hl253_0
                              replace p253 := eq_true p253
                              replace q253 := eq_true q253
                              obtain ⟨Ao62, co62, eo62⟩ := Kd.R_slice HO_9.out
                              subst eo62
                              go_wp2_with (first | ((with_reducible refine gate_callee (f := 92) rfl ?_); refine goesL_ (some 102) rfl rfl Try.func92 (by kernel_rfl) rfl #[.slice A253_0 (rd_L5 x3_4 (rd t248 x11_4)).length c253_0, .slice Ao62 t245.length co62] rfl att10_0_7 ?_; (with_reducible refine (spec_l19Meet.calls k4 _ _ (rd_L5 x3_4 (rd t248 x11_4)) _ _ t245 t254 true _ ?side1 ?side2 ?side3 ?side4 A57.out).mono ?_); (case side1 => repeat (first | exact att10_0_8 | (with_reducible refine Kd.C_alloc ?_ _) | (with_reducible refine Kd.C_drewN ?_ _) | (with_reducible refine Kd.C_drew ?_))); (case side2 => exact HC253_0.out); (case side3 => repeat (first | exact (Kd.R_reads' HO_9.out).2.2 | (with_reducible refine Kd.C_alloc ?_ _) | (with_reducible refine Kd.C_drewN ?_ _) | (with_reducible refine Kd.C_drew ?_))); (case side4 => exact (Kd.R_reads' HO_9.out).2.1); rintro e w63 ⟨v256, rfl, ho0, hb⟩; refine ⟨_, rfl, ?_⟩; have n0_ := Aside0.mk (Kd.S_elder' att10_0_4 (Kd.R_base ho0) hb); have n1_ := Aside0.mk (Kd.R_below att10_0_3 hb); have n2_ := Aside0.mk (Kd.R_below att10_0_1 hb); have n3_ := Aside0.mk (Kd.R_elder' att10_0_5 (Kd.R_base ho0) hb); have n4_ := Aside0.mk (Kd.R_below att10_0_6 hb); have n5_ := Aside0.mk (Kd.R_elder' att10_0_11 (Kd.R_base ho0) hb); have n6_ := Aside0.mk (Kd.R_lower (Kd.R_new' (Kd.R_new' ho0 (Kd.R_lt att10_0_5)) (Kd.R_lt att10_0_11)) (below_size att10_0_0)); have n7_ := Aside0.mk (Kd.C_below att10_0_8 hb); have n8_ := Aside0.mk (pw_cell_below hb HX253_0.out); have n9_ := Aside0.mk (below_step att10_0_0 hb); clear HO_3; clear HO_4; clear HO_7; clear HO_9; clear HO_10; clear HL253_0; clear HR253_0; clear HX253_0; clear HB; have HO_3 := n0_; have HO_4 := n1_; have HO_7 := n2_; have HO_9 := n3_; have HO_10 := n4_; have HL253_0 := n5_; have HO257 := n6_; have HR253_0 := n7_; have HX253_0 := n8_; have HB := n9_; clear n0_ n1_ n2_ n3_ n4_ n5_ n6_ n7_ n8_ n9_; (try clear hb); (try clear hb2); (try clear hk); (try clear hi); (try clear ho0); have p59 : 0 ≤ ((rd t248 x11_4) : Int) := of_decide_eq_true att10_0_2; have q59 : ((rd t248 x11_4) : Int) < ((x3_4.length : Int) : Int) := of_decide_eq_true att10_0_2; obtain ⟨go59, co59, eo59, gb59, gl59, cl59, HG59⟩ := Kd.S_form HO_3.out (by omega); (first | cases eo59 | (injection eo59 with ea_ en_ ec_; (first | subst ea_ | (injection ea_ with ea_; subst ea_)); subst ec_; clear en_)); have GB59 := Aside0.mk gb59; have GG59 := Aside0.mk HG59; clear gb59 gl59 HG59; (first | simp only [add_plain] at hx244_0 | skip); (first | simp only [add_plain] at hx253_0 | skip); obtain ⟨_, ce59, hcl59, hM59, hcc59, hfr59, _, _⟩ := Kd.S_elem HO_3.out [] ((rd t248 x11_4) : Int) p59 q59; obtain ⟨ve59_0, rfl, ge59_0⟩ := hM59; have hx59_0 := hcc59 0 _ rfl; have hf59_0 := hfr59 0; (try simp only [show ((Kd.slice 83 k83)).sz = 1 from rfl, Nat.mul_one, Nat.add_zero] at hx59_0); (try simp only [show ((Kd.slice 83 k83)).sz = 1 from rfl, Nat.mul_one, Nat.add_zero] at hf59_0); clear hcl59 hcc59 hfr59 ; replace p59 := eq_true p59; replace q59 := eq_true q59; have HX64 := Aside0.mk (show Kd.S (Kd.slice 83 k83) 81 w63 w.heap.size (fun k_ => ((fun k_ => some k_ ≠ (.slice Ao62 t245.length co62 : Value).ownBlock)) k_ ∧ ¬ ((fun k_ => some k_ = (v256 : Value).ownBlock)) k_) (.slice (some ⟨go59, 0, none⟩) x3_4.length co47) x3_4 from att10_0_22); obtain ⟨oki64, ce64, hcl64, hM64, hcc64, hfr64, hoki64, hH64⟩ := Kd.S_elem HX64.out [] ((rd t248 x11_4) : Int) (of_decide_eq_true att10_0_2) att10_1_0; obtain ⟨ve64_0, rfl, ge64_0⟩ := hM64; have HP64 := Kd.S_seg hH64 (of_decide_eq_true att10_0_2) att10_1_0 (seg := [v256]) (j := 0) (show 1 ≤ 1 from by decide) (x' := t254) (Kd.M_row (Kd.R_mono (Kd.R_tight rfl (Kd.R_mono (ok' := fun k_ => ((fun k_ => some k_ ≠ (.slice Ao62 t245.length co62 : Value).ownBlock)) k_ ∧ k_ ≠ go59) (Kd.R_apart' (HO257.out) (Kd.S_typed HO_3.out) (by decide)) (fun k_ hk => ⟨hk.1.1.2, fun e_ => (hk.2) (by rw [e_]; rfl)⟩))) (fun _ h_ => Or.inr (h_)))) (fun _ hk => hk) (fun k_ hk_ => ((Kd.R_mono (ok' := fun k_ => ((fun k_ => some k_ ≠ (.slice Ao62 t245.length co62 : Value).ownBlock)) k_ ∧ k_ ≠ go59) (Kd.R_apart' (HO257.out) (Kd.S_typed HO_3.out) (by decide)) (fun k_ hk => ⟨hk.1.1.2, fun e_ => (hk.2) (by rw [e_]; rfl)⟩))).1 k_ hk_.symm); have hx64_0 := hcc64 0 _ rfl; (try simp only [show ((Kd.slice 83 k83)).sz = 1 from rfl, Nat.mul_one, Nat.add_zero] at hx64_0); have hf64_0 := hfr64 0; (try simp only [show ((Kd.slice 83 k83)).sz = 1 from rfl, Nat.mul_one, Nat.add_zero] at hf64_0); clear hcl64 hcc64 hfr64 hoki64 hH64; (try simp only [show ((Kd.slice 83 k83)).sz = 1 from rfl, Nat.mul_one, Nat.add_zero] at HP64); obtain ⟨av_sl, cv_sl, ev_sl⟩ := Kd.R_slice HO257.out) | ((with_reducible refine gate_store (t := 81) (p := 109) rfl ?_); refine store_event (t := 81) (p := 109) (v := ?vo_w65) (w1 := (w63.setCell ⟨go59, ((rd t248 x11_4) : Int).toNat, none⟩ (v256))) ?hg ?ho ?hn ?hr ?_; (case ho => rfl); (case hg => rfl); (case hn => rfl); (case hr => first | (go_simp; done) | (go_simp; rfl)); intro w65 hw; have hg : w63.grownBy w65 (some go59) := (by rw [hw]; exact HP64.2); have hp_ : Kd.S (Kd.slice 83 k83) 81 w65 w.heap.size (fun k_ => some k_ ≠ (.slice Ao62 t245.length co62 : Value).ownBlock) (.slice (some ⟨go59, 0, none⟩) x3_4.length co47) y258 := (by rw [hw, Ny258.out]; exact HP64.1); clear HP64; have n0_ := Aside0.mk (hp_); have n1_ := Aside0.mk (Kd.R_over' (v := (.slice (some ⟨go59, 0, none⟩) x3_4.length co47)) att10_0_3 (Kd.S_typed HO_3.out) (by decide) hg); have n2_ := Aside0.mk (Kd.R_over' (v := (.slice (some ⟨go59, 0, none⟩) x3_4.length co47)) att10_0_1 (Kd.S_typed HO_3.out) (by decide) hg); have n3_ := Aside0.mk (Kd.R_over' (v := (.slice (some ⟨go59, 0, none⟩) x3_4.length co47)) att10_0_5 (Kd.S_typed HO_3.out) (by decide) hg); have n4_ := Aside0.mk (Kd.R_over' (v := (.slice (some ⟨go59, 0, none⟩) x3_4.length co47)) att10_0_6 (Kd.S_typed HO_3.out) (by decide) hg); have n5_ := Aside0.mk (Kd.R_after (v := (.slice (some ⟨go59, 0, none⟩) x3_4.length co47)) (v1 := (.slice (some ⟨go59, 0, none⟩) x3_4.length co47)) (ok := (fun k_ => some k_ ≠ (.slice Ao62 t245.length co62 : Value).ownBlock ∧ some k_ ≠ (v256 : Value).ownBlock)) (by (with_reducible repeat (first | apply Kd.R_alloc | apply Kd.R_drewN | apply Kd.R_drew)); exact Kd.R_mono HL253_0.out (fun _ hk => ⟨⟨hk.1.1, hk.2⟩, hk.1.2⟩)) hg (.inl rfl)); have n6_ := Aside0.mk ((by rw [hw]; exact below_set (HB.out) GB59.out : Below w.heap.size w w65)); clear HO_3; clear HO_4; clear HO_7; clear HO_9; clear HO_10; clear HL253_0; clear HB; clear HO257; have HO_3 := n0_; have HO_4 := n1_; have HO_7 := n2_; have HO_9 := n3_; have HO_10 := n4_; have HL253_0 := n5_; have HB := n6_; clear n0_ n1_ n2_ n3_ n4_ n5_ n6_; clear hg hw hp_) | ((with_reducible refine gate_builtin (b := .append) (xs := #[.tmp 110, .tmp 112]) rfl ?_); at_builtin; refine Kd.R_append (Kd.int .i64) (w0 := w) w.heap.size rfl (.tmp 110) (.tmp 112) 34 3 (.int .i64 0) 8 rfl Try.underlying34 info3 rfl (by decide) (by omega) u7 x7_4 (rd t248 x11_4) [.int .i64 (rd t248 x11_4)] (fun k_ => some k_ ≠ (.slice (some ad251) t248.length co61 : Value).ownBlock) (fun _ => False) rfl rfl ?aP (fun _ hk => hk.elim) ?aF ?aO ?aB ?aS ?aL ?_; (case aP => exact rfl); (case aB => exact att10_0_0); (case aF => exact (fun k_ hk => Kd.fresh' (Kd.R_lt att10_0_6) k_ hk)); (case aO => exact att10_0_1); (case aS => exact (below_size att10_0_0)); (case aL => have := LMc60.out; omega); intro v260 w66 ho hb hg hat; rw [← Ny259.out] at ho; have n0_ := Aside0.mk (Kd.S_over' att10_0_4 (Kd.R_typed att10_0_1) (by decide) hg); have n1_ := Aside0.mk (Kd.R_over' att10_0_3 (Kd.R_typed att10_0_1) (by decide) hg); have n2_ := Aside0.mk (Kd.R_over' att10_0_5 (Kd.R_typed att10_0_1) (by decide) hg); have n3_ := Aside0.mk (Kd.R_after (ok := (fun _ => True)) att10_0_23 hg hat); have n4_ := Aside0.mk (Kd.R_over' att10_0_11 (Kd.R_typed att10_0_1) (by decide) hg); have n5_ := Aside0.mk (hb); have n6_ := Aside0.mk (ho); clear HO_3; clear HO_4; clear HO_9; clear HO_10; clear HL253_0; clear HB; clear HO_7; have HO_3 := n0_; have HO_4 := n1_; have HO_9 := n2_; have HO_10 := n3_; have HL253_0 := n4_; have HB := n5_; have HO261 := n6_; clear n0_ n1_ n2_ n3_ n4_ n5_ n6_; clear ho hb hg hat))
                              (try simp only [← hl3_4, ← hl4_4])
                              (try rw [show (⟨go59, (rd x7_3 0).toNat, none⟩ : Addr) = (⟨go59, 0, none⟩ : Addr).add (rd x7_3 0).toNat from by simp only [add_plain]])
                              go_roundg k4
                              case measure => have := HK1.out; have := HK2.out; have := HK3.out; have := HK4.out; omega
                              case rel => exact ⟨(y258), (x4_4), (y259), (wrap64 (x11_4 + 1)), att10_0_15, H', ⟨att10_0_16⟩, ⟨att10_0_21⟩, ⟨att10_0_9⟩, ⟨by (try simp only [hl4_3]); (try simp only [hl3_4]); (try simp only [hl4_4]); (with_reducible repeat (first | apply Kd.R_alloc | apply Kd.R_drewN | apply Kd.R_drew)); exact HO261.out⟩, ⟨att10_0_10⟩, ⟨att10_0_18⟩, ⟨att10_0_0⟩⟩
                             ·rw [if_neg c60] at H
                              exact absurd H (by simp)
                            ·replace c58 := Bool.eq_false_iff.mpr c58
                             subst c58
                             rw [if_neg (show ¬ (false = true) by decide)] at H
                             have H' := Aside0.mk H
                             clear H
                             obtain ⟨Ao67, co67, eo67⟩ := Kd.R_slice HO_10.out
                             subst eo67
                             have p251 : 0 ≤ (x11_4 : Int) := of_decide_eq_true att10_0_2
                             have q251 : x11_4 < (t248.length : Int) := of_decide_eq_true att10_0_2
                             obtain ⟨ad251, e251, hx251_0⟩ := Kd.at_int (Kd.R_reads' HO_10.out).2.2 x11_4 p251 q251
                             cases e251
                             replace p251 := eq_true p251
                             replace q251 := eq_true q251
                             have p252 : 0 ≤ ((rd t248 x11_4) : Int) := of_decide_eq_true att10_0_2
                             have q252 : (rd t248 x11_4) < (x4_4.length : Int) := of_decide_eq_true att10_0_2
                             obtain ⟨ad252, e252, hx252_0⟩ := Kd.at_bool (Kd.R_reads' HO_4.out).2.2 (rd t248 x11_4) p252 q252
                             (try rw [← Nbq54.out] at hx252_0)
                             obtain rfl : (⟨go27, 0, none⟩ : Addr) = ad252 := (by injection e252)
                             (first | simp only [add_plain] at hx252_0 | simp only [add_at] at hx252_0 | simp only [Addr.add, Nat.zero_add] at hx252_0 | skip)
                             replace p252 := eq_true p252
                             replace q252 := eq_true q252
                             have p253 : 0 ≤ ((rd t248 x11_4) : Int) := of_decide_eq_true att10_0_2
                             have q253 : (rd t248 x11_4) < (x3_4.length : Int) := of_decide_eq_true att10_0_2
                             obtain ⟨ad253, A253_0, c253_0, e253, hx253_0, hl253_0, hi253_0⟩ := at_L5 (Kd.S_reads' HO_3.out).2.2 (rd t248 x11_4) p253 q253
                             obtain rfl : ad244 = ad253 := (by injection e253)
                             obtain ⟨ce253, hce253, hMe253, hcc253⟩ := Kd.S_get HO_3.out [] (rd t248 x11_4) p253 att10_1_2
                             obtain ⟨ve253_0, rfl, ge253_0⟩ := hMe253
                             have hv253_0 := hcc253 0 _ rfl
                             rw [Nat.add_zero, show ((Kd.slice 83 k83)).sz = 1 from rfl, Nat.mul_one] at hv253_0
                             replace hv253_0 := Option.some.inj (hv253_0.symm.trans hx253_0)
                             rw [hv253_0] at ge253_0
                             have HL253_0 := Aside0.mk (show Kd.R k83 83 _ _ _ _ (rd_L5 x3_4 (rd t248 x11_4)) from ge253_0)
                             clear hv253_0 ge253_0
                             have HX253_0 := Aside0.mk hx253_0
                             clear hcc253 hce253
                             have HR253_0 := Aside0.mk hi253_0
                             have HC253_0 := Aside0.mk hl253_0
                             clear hi253_0 hl253_0
                             replace p253 := eq_true p253
                             replace q253 := eq_true q253
                             obtain ⟨Ao68, co68, eo68⟩ := Kd.R_slice HO_9.out
                             subst eo68
                             go_wp2_with (first | ((with_reducible refine gate_callee (f := 92) rfl ?_); refine goesL_ (some 102) rfl rfl Try.func92 (by kernel_rfl) rfl #[.slice A253_0 (rd_L5 x3_4 (rd t248 x11_4)).length c253_0, .slice Ao68 t245.length co68] rfl att10_0_7 ?_; (with_reducible refine (spec_l19Meet.calls k4 _ _ (rd_L5 x3_4 (rd t248 x11_4)) _ _ t245 t254 false _ ?side1 ?side2 ?side3 ?side4 A57.out).mono ?_); (case side1 => repeat (first | exact att10_0_8 | (with_reducible refine Kd.C_alloc ?_ _) | (with_reducible refine Kd.C_drewN ?_ _) | (with_reducible refine Kd.C_drew ?_))); (case side2 => exact HC253_0.out); (case side3 => repeat (first | exact (Kd.R_reads' HO_9.out).2.2 | (with_reducible refine Kd.C_alloc ?_ _) | (with_reducible refine Kd.C_drewN ?_ _) | (with_reducible refine Kd.C_drew ?_))); (case side4 => exact (Kd.R_reads' HO_9.out).2.1); rintro e w69 ⟨v256, rfl, ho0, hb⟩; refine ⟨_, rfl, ?_⟩; have n0_ := Aside0.mk (Kd.S_elder' att10_0_4 (Kd.R_base ho0) hb); have n1_ := Aside0.mk (Kd.R_below att10_0_3 hb); have n2_ := Aside0.mk (Kd.R_below att10_0_1 hb); have n3_ := Aside0.mk (Kd.R_elder' att10_0_5 (Kd.R_base ho0) hb); have n4_ := Aside0.mk (Kd.R_below att10_0_6 hb); have n5_ := Aside0.mk (Kd.R_elder' att10_0_11 (Kd.R_base ho0) hb); have n6_ := Aside0.mk (Kd.R_lower (Kd.R_new' (Kd.R_new' ho0 (Kd.R_lt att10_0_5)) (Kd.R_lt att10_0_11)) (below_size att10_0_0)); have n7_ := Aside0.mk (Kd.C_below att10_0_8 hb); have n8_ := Aside0.mk (pw_cell_below hb HX253_0.out); have n9_ := Aside0.mk (below_step att10_0_0 hb); clear HO_3; clear HO_4; clear HO_7; clear HO_9; clear HO_10; clear HL253_0; clear HR253_0; clear HX253_0; clear HB; have HO_3 := n0_; have HO_4 := n1_; have HO_7 := n2_; have HO_9 := n3_; have HO_10 := n4_; have HL253_0 := n5_; have HO257 := n6_; have HR253_0 := n7_; have HX253_0 := n8_; have HB := n9_; clear n0_ n1_ n2_ n3_ n4_ n5_ n6_ n7_ n8_ n9_; (try clear hb); (try clear hb2); (try clear hk); (try clear hi); (try clear ho0)))
                             (try simp only [← hl3_4, ← hl4_4])
                             (try rw [show (⟨go59, (rd x7_3 0).toNat, none⟩ : Addr) = (⟨go59, 0, none⟩ : Addr).add (rd x7_3 0).toNat from by simp only [add_plain]])
                             go_roundg k4
                             case measure => have := HK1.out; have := HK2.out; have := HK3.out; have := HK4.out; omega
                             case rel => exact ⟨(x3_4), (x4_4), (x7_4), (wrap64 (x11_4 + 1)), att10_0_15, H', ⟨att10_0_16⟩, ⟨by (try simp only [hl4_3]); (try simp only [hl3_4]); (try simp only [hl4_4]); (with_reducible repeat (first | apply Kd.S_alloc | apply Kd.S_drewN | apply Kd.S_drew)); exact Kd.S_mono HO_3.out (fun _ hk => hk.1)⟩, ⟨att10_0_9⟩, ⟨by (try simp only [hl4_3]); (try simp only [hl3_4]); (try simp only [hl4_4]); (with_reducible repeat (first | apply Kd.R_alloc | apply Kd.R_drewN | apply Kd.R_drew)); exact HO_7.out⟩, ⟨att10_0_10⟩, ⟨by (try simp only [hl4_3]); (try simp only [hl3_4]); (try simp only [hl4_4]); (with_reducible repeat (first | apply Kd.R_alloc | apply Kd.R_drewN | apply Kd.R_drew)); exact HO_10.out⟩, ⟨att10_0_0⟩⟩
                           ·rw [if_neg c56] at H
                            exact absurd H (by simp)
                          ·replace c55 := Bool.eq_false_iff.mpr c55
                           subst c55
                           rw [if_neg (show ¬ (false = true) by decide)] at H
                           obtain ⟨y262, hy262⟩ : ∃ y_ : List Bool, y_ = (x4_4.set ((rd t248 x11_4) : Int).toNat true) := ⟨_, rfl⟩
                           replace H : ((some (([] : List (S83)) : List (S83))).bind fun y263 => (if y263.length + t245.length < 8796093022208 then (if (rd t248 x11_4) < (x3_4.length : Int) then (if x7_4.length < 17592186044416 then (spec_KnownAt.l3 k4 l0 (x3_4.set ((rd t248 x11_4) : Int).toNat (y263 ++ t245)) y262 (x7_4 ++ [rd t248 x11_4]) t245 t248 (wrap64 (x11_4 + 1))) else (none)) else (none)) else (none))) = some r := by first | (rw [hy262]; with_reducible exact H) | (have H2_ := (Option.bind_some _ _).symm.trans H; rw [hy262]; with_reducible exact H2_) | (have H2_ := (Option.bind_some _ _).symm.trans H; with_reducible exact H2_) | with_reducible exact H | (rw [hy262]; exact H) | exact H
                           have Ny262 := Aside0.mk hy262
                           clear hy262
                           obtain ⟨y263, hy263⟩ : ∃ y_ : List (S83), y_ = (([] : List (S83))) := ⟨_, rfl⟩
                           replace H : (if y263.length + t245.length < 8796093022208 then (if (rd t248 x11_4) < (x3_4.length : Int) then (if x7_4.length < 17592186044416 then (spec_KnownAt.l3 k4 l0 (x3_4.set ((rd t248 x11_4) : Int).toNat (y263 ++ t245)) y262 (x7_4 ++ [rd t248 x11_4]) t245 t248 (wrap64 (x11_4 + 1))) else (none)) else (none)) else (none)) = some r := by first | (rw [hy263]; with_reducible exact H) | (have H2_ := (Option.bind_some _ _).symm.trans H; rw [hy263]; with_reducible exact H2_) | (have H2_ := (Option.bind_some _ _).symm.trans H; with_reducible exact H2_) | with_reducible exact H | (rw [hy263]; exact H) | exact H
                           have Ny263 := Aside0.mk hy263
                           clear hy263
                           by_cases c71 : y263.length + t245.length < 8796093022208
                           ·rw [if_pos c71] at H
                            have LMc71 := Aside0.mk c71
                            clear c71
                            obtain ⟨y266, hy266⟩ : ∃ y_ : List (S83), y_ = (y263 ++ t245) := ⟨_, rfl⟩
                            replace H : (if (rd t248 x11_4) < (x3_4.length : Int) then (if x7_4.length < 17592186044416 then (spec_KnownAt.l3 k4 l0 (x3_4.set ((rd t248 x11_4) : Int).toNat y266) y262 (x7_4 ++ [rd t248 x11_4]) t245 t248 (wrap64 (x11_4 + 1))) else (none)) else (none)) = some r := by first | (rw [hy266]; with_reducible exact H) | (have H2_ := (Option.bind_some _ _).symm.trans H; rw [hy266]; with_reducible exact H2_) | (have H2_ := (Option.bind_some _ _).symm.trans H; with_reducible exact H2_) | with_reducible exact H | (rw [hy266]; exact H) | exact H
                            have Ny266 := Aside0.mk hy266
                            clear hy266
                            by_cases c72 : (rd t248 x11_4) < (x3_4.length : Int)
                            ·rw [if_pos c72] at H
                             have c72b0 : decide ((rd t248 x11_4) < (x3_4.length : Int)) = true := decide_eq_true c72
                             clear c72
                             obtain ⟨y269, hy269⟩ : ∃ y_ : List (List (S83)), y_ = (x3_4.set ((rd t248 x11_4) : Int).toNat y266) := ⟨_, rfl⟩
                             replace H : (if x7_4.length < 17592186044416 then (spec_KnownAt.l3 k4 l0 y269 y262 (x7_4 ++ [rd t248 x11_4]) t245 t248 (wrap64 (x11_4 + 1))) else (none)) = some r := by first | (rw [hy269]; with_reducible exact H) | (have H2_ := (Option.bind_some _ _).symm.trans H; rw [hy269]; with_reducible exact H2_) | (have H2_ := (Option.bind_some _ _).symm.trans H; with_reducible exact H2_) | with_reducible exact H | (rw [hy269]; exact H) | exact H
                             have Ny269 := Aside0.mk hy269
                             clear hy269
                             by_cases c74 : x7_4.length < 17592186044416
                             ·rw [if_pos c74] at H
                              have LMc74 := Aside0.mk c74
                              clear c74
                              obtain ⟨y270, hy270⟩ : ∃ y_ : List Int, y_ = (x7_4 ++ [rd t248 x11_4]) := ⟨_, rfl⟩
                              replace H : (spec_KnownAt.l3 k4 l0 y269 y262 y270 t245 t248 (wrap64 (x11_4 + 1))) = some r := by first | (rw [hy270]; with_reducible exact H) | (have H2_ := (Option.bind_some _ _).symm.trans H; rw [hy270]; with_reducible exact H2_) | (have H2_ := (Option.bind_some _ _).symm.trans H; with_reducible exact H2_) | with_reducible exact H | (rw [hy270]; exact H) | exact H
                              have Ny270 := Aside0.mk hy270
                              clear hy270
                              have H' := Aside0.mk H
                              clear H
                              obtain ⟨Ao75, co75, eo75⟩ := Kd.R_slice HO_10.out
                              subst eo75
                              have p251 : 0 ≤ (x11_4 : Int) := of_decide_eq_true att10_0_2
                              have q251 : x11_4 < (t248.length : Int) := of_decide_eq_true att10_0_2
                              obtain ⟨ad251, e251, hx251_0⟩ := Kd.at_int (Kd.R_reads' HO_10.out).2.2 x11_4 p251 q251
                              cases e251
                              replace p251 := eq_true p251
                              replace q251 := eq_true q251
                              have p252 : 0 ≤ ((rd t248 x11_4) : Int) := of_decide_eq_true att10_0_2
                              have q252 : (rd t248 x11_4) < (x4_4.length : Int) := of_decide_eq_true att10_0_2
                              obtain ⟨ad252, e252, hx252_0⟩ := Kd.at_bool (Kd.R_reads' HO_4.out).2.2 (rd t248 x11_4) p252 q252
                              (try rw [← Nbq54.out] at hx252_0)
                              obtain rfl : (⟨go27, 0, none⟩ : Addr) = ad252 := (by injection e252)
                              (first | simp only [add_plain] at hx252_0 | simp only [add_at] at hx252_0 | simp only [Addr.add, Nat.zero_add] at hx252_0 | skip)
                              replace p252 := eq_true p252
                              replace q252 := eq_true q252
                              have p70 : 0 ≤ ((rd t248 x11_4) : Int) := of_decide_eq_true att10_0_2
                              have q70 : ((rd t248 x11_4) : Int) < ((x4_4.length : Int) : Int) := of_decide_eq_true att10_0_2
                              obtain ⟨hx70_0, hf70_0⟩ := Kd.R_celln false HO_4.out ((rd t248 x11_4) : Int) p70 q70
                              replace p70 := eq_true p70
                              replace q70 := eq_true q70
                              have HP76 := Kd.R_putg HO_4.out ((rd t248 x11_4) : Int) true
                              go_wp2_with (first | ((with_reducible refine gate_store (t := 4) (p := 85) rfl ?_); refine store_event (t := 4) (p := 85) (v := ?vo_w77) (w1 := (wr.setCell ⟨go27, ((rd t248 x11_4) : Int).toNat, none⟩ (.bool true))) ?hg ?ho ?hn ?hr ?_; (case ho => rfl); (case hg => rfl); (case hn => rfl); (case hr => first | (go_simp; done) | (go_simp; rfl)); intro w77 hw; have hg : wr.grownBy w77 (some go27) := (by rw [hw]; exact HP76.2); have hp_ : Kd.R Kd.bool 4 w77 w.heap.size (fun _ => True) (.slice (some ⟨go27, 0, none⟩) x4_4.length co27) y262 := (by rw [hw, Ny262.out]; exact HP76.1); clear HP76; have n0_ := Aside0.mk (Kd.S_over' (v := (.slice (some ⟨go27, 0, none⟩) x4_4.length co27)) att10_0_4 (Kd.R_typed HO_4.out) (by decide) hg); have n1_ := Aside0.mk (hp_); have n2_ := Aside0.mk (Kd.R_over' (v := (.slice (some ⟨go27, 0, none⟩) x4_4.length co27)) att10_0_1 (Kd.R_typed HO_4.out) (by decide) hg); have n3_ := Aside0.mk (Kd.R_over' (v := (.slice (some ⟨go27, 0, none⟩) x4_4.length co27)) att10_0_5 (Kd.R_typed HO_4.out) (by decide) hg); have n4_ := Aside0.mk (Kd.R_over' (v := (.slice (some ⟨go27, 0, none⟩) x4_4.length co27)) att10_0_6 (Kd.R_typed HO_4.out) (by decide) hg); have n5_ := Aside0.mk ((by rw [hw]; exact below_set (HB.out) GB27.out : Below w.heap.size w w77)); clear HO_3; clear HO_4; clear HO_7; clear HO_9; clear HO_10; clear HB; have HO_3 := n0_; have HO_4 := n1_; have HO_7 := n2_; have HO_9 := n3_; have HO_10 := n4_; have HB := n5_; clear n0_ n1_ n2_ n3_ n4_ n5_; clear hg hw hp_) | ((with_reducible refine gate_dst (N := 88) rfl ?_); refine Kd.R_lit k83 _ 83 ?hg (N := 88) ?hd (xs := ([] : List (S83))) (inner := []) (ok := fun _ => True) (okp := fun _ => True) ?hr ?hp (fun _ hk => hk) trivial (Below.refl _ _) (Nat.le_refl _) (by simp) ?_; (case hd => rfl); (case hg => rfl); (case hr => first | (go_simp; done) | (go_simp; rfl)); (case hp => exact (Reps.none _ _)); intro v264 w78 ho79 hb hg_ hnew_; clear hg_ hnew_; (first | rw [← Ny263.out] at ho79 | (simp only [Int.reduceToNat] at ho79; rw [← Ny263.out] at ho79)); have n0_ := Aside0.mk (Kd.S_elder' att10_0_4 (Kd.R_base ho79) hb); have n1_ := Aside0.mk (Kd.R_below att10_0_3 hb); have n2_ := Aside0.mk (Kd.R_below att10_0_1 hb); have n3_ := Aside0.mk (Kd.R_elder' att10_0_5 (Kd.R_base ho79) hb); have n4_ := Aside0.mk (Kd.R_below att10_0_6 hb); have n5_ := Aside0.mk (Kd.R_lower (Kd.R_new' ho79 (Kd.R_lt att10_0_5)) (below_size att10_0_0)); have n6_ := Aside0.mk (below_step att10_0_0 hb); clear HO_3; clear HO_4; clear HO_7; clear HO_9; clear HO_10; clear HB; have HO_3 := n0_; have HO_4 := n1_; have HO_7 := n2_; have HO_9 := n3_; have HO_10 := n4_; have HO265 := n5_; have HB := n6_; clear n0_ n1_ n2_ n3_ n4_ n5_ n6_; clear hb ho79; obtain ⟨Ao81, co81, eo81⟩ := Kd.R_slice HO_9.out; subst eo81) | ((with_reducible refine gate_builtin (b := .append) (xs := #[.tmp 88, .tmp 89]) rfl ?_); at_builtin; refine Kd.R_append_rows k83 (w0 := w) w.heap.size rfl (.tmp 88) (.tmp 89) 81 83 (.agg #[(.bool false), (.int .i64 0)]) 16 rfl Try.underlying81 info83 rfl (by decide) (by omega) v264 y263 t245 _ _ _ (fun k_ => some k_ ≠ (.slice Ao81 t245.length co81 : Value).ownBlock) (fun _ => False) rfl rfl ?aO ?aR (fun _ _ h => h) (fun _ h => h.elim) ?aF ?aB ?aS ?aL ?_; (case aR => repeat (first | exact (Kd.R_reads' HO_9.out).2.2 | (with_reducible refine Kd.C_alloc ?_ _) | (with_reducible refine Kd.C_drewN ?_ _) | (with_reducible refine Kd.C_drew ?_))); (case aB => exact att10_0_0); (case aF => exact (fun k_ hk => Kd.fresh' (Kd.R_lt att10_0_5) k_ hk)); (case aO => exact (by (with_reducible repeat (first | apply Kd.R_alloc | apply Kd.R_drewN | apply Kd.R_drew)); exact Kd.R_mono HO265.out (fun _ hk => hk.2))); (case aS => exact (below_size att10_0_0)); (case aL => have := LMc71.out; omega); intro v267 w80 ho hb hg hat; rw [← Ny266.out] at ho; have n0_ := Aside0.mk (Kd.S_after (ok := (fun k_ => some k_ ≠ (.slice Ao81 t245.length co81 : Value).ownBlock)) att10_0_4 hg hat); have n1_ := Aside0.mk (Kd.R_over' att10_0_3 (Kd.R_typed att10_0_19) (by decide) hg); have n2_ := Aside0.mk (Kd.R_over' att10_0_1 (Kd.R_typed att10_0_19) (by decide) hg); have n3_ := Aside0.mk (Kd.R_after (ok := (fun _ => True)) att10_0_5 hg hat); have n4_ := Aside0.mk (Kd.R_over' att10_0_6 (Kd.R_typed att10_0_19) (by decide) hg); have n5_ := Aside0.mk (hb); have n6_ := Aside0.mk (ho); clear HO_3; clear HO_4; clear HO_7; clear HO_9; clear HO_10; clear HB; clear HO265; have HO_3 := n0_; have HO_4 := n1_; have HO_7 := n2_; have HO_9 := n3_; have HO_10 := n4_; have HB := n5_; have HO268 := n6_; clear n0_ n1_ n2_ n3_ n4_ n5_ n6_; clear ho hb hg hat; obtain ⟨Aq267, cq267, eq267⟩ := Kd.R_slice HO268.out; subst eq267; have p73 : 0 ≤ ((rd t248 x11_4) : Int) := of_decide_eq_true att10_0_2; have q73 : ((rd t248 x11_4) : Int) < ((x3_4.length : Int) : Int) := of_decide_eq_true att10_0_2; obtain ⟨go73, co73, eo73, gb73, gl73, cl73, HG73⟩ := Kd.S_form HO_3.out (by omega); (first | cases eo73 | (injection eo73 with ea_ en_ ec_; (first | subst ea_ | (injection ea_ with ea_; subst ea_)); subst ec_; clear en_)); have GB73 := Aside0.mk gb73; have GG73 := Aside0.mk HG73; clear gb73 gl73 HG73; (first | simp only [add_plain] at hx253_0 | skip); obtain ⟨_, ce73, hcl73, hM73, hcc73, hfr73, _, _⟩ := Kd.S_elem HO_3.out [] ((rd t248 x11_4) : Int) p73 q73; obtain ⟨ve73_0, rfl, ge73_0⟩ := hM73; have hx73_0 := hcc73 0 _ rfl; have hf73_0 := hfr73 0; (try simp only [show ((Kd.slice 83 k83)).sz = 1 from rfl, Nat.mul_one, Nat.add_zero] at hx73_0); (try simp only [show ((Kd.slice 83 k83)).sz = 1 from rfl, Nat.mul_one, Nat.add_zero] at hf73_0); clear hcl73 hcc73 hfr73 ; replace p73 := eq_true p73; replace q73 := eq_true q73; have HX82 := Aside0.mk (show Kd.S (Kd.slice 83 k83) 81 w80 w.heap.size (fun k_ => ((fun k_ => some k_ ≠ (.slice Ao81 t245.length co81 : Value).ownBlock)) k_ ∧ ¬ ((fun k_ => some k_ = ((.slice Aq267 y266.length cq267) : Value).ownBlock)) k_) (.slice (some ⟨go73, 0, none⟩) x3_4.length co47) x3_4 from att10_0_22); obtain ⟨oki82, ce82, hcl82, hM82, hcc82, hfr82, hoki82, hH82⟩ := Kd.S_elem HX82.out [] ((rd t248 x11_4) : Int) (of_decide_eq_true att10_0_2) att10_1_0; obtain ⟨ve82_0, rfl, ge82_0⟩ := hM82; have HP82 := Kd.S_seg hH82 (of_decide_eq_true att10_0_2) att10_1_0 (seg := [(.slice Aq267 y266.length cq267)]) (j := 0) (show 1 ≤ 1 from by decide) (x' := y266) (Kd.M_row (Kd.R_mono (Kd.R_tight rfl (Kd.R_mono (ok' := fun k_ => ((fun k_ => some k_ ≠ (.slice Ao81 t245.length co81 : Value).ownBlock)) k_ ∧ k_ ≠ go73) (Kd.R_apart' (HO268.out) (Kd.S_typed HO_3.out) (by decide)) (fun k_ hk => ⟨hk.1, fun e_ => (hk.2) (by rw [e_]; rfl)⟩))) (fun _ h_ => Or.inr (h_)))) (fun _ hk => hk) (fun k_ hk_ => ((Kd.R_mono (ok' := fun k_ => ((fun k_ => some k_ ≠ (.slice Ao81 t245.length co81 : Value).ownBlock)) k_ ∧ k_ ≠ go73) (Kd.R_apart' (HO268.out) (Kd.S_typed HO_3.out) (by decide)) (fun k_ hk => ⟨hk.1, fun e_ => (hk.2) (by rw [e_]; rfl)⟩))).1 k_ hk_.symm); have hx82_0 := hcc82 0 _ rfl; (try simp only [show ((Kd.slice 83 k83)).sz = 1 from rfl, Nat.mul_one, Nat.add_zero] at hx82_0); have hf82_0 := hfr82 0; (try simp only [show ((Kd.slice 83 k83)).sz = 1 from rfl, Nat.mul_one, Nat.add_zero] at hf82_0); clear hcl82 hcc82 hfr82 hoki82 hH82; (try simp only [show ((Kd.slice 83 k83)).sz = 1 from rfl, Nat.mul_one, Nat.add_zero] at HP82)) | ((with_reducible refine gate_store (t := 81) (p := 91) rfl ?_); refine store_event (t := 81) (p := 91) (v := ?vo_w83) (w1 := (w80.setCell ⟨go73, ((rd t248 x11_4) : Int).toNat, none⟩ ((.slice Aq267 y266.length cq267)))) ?hg ?ho ?hn ?hr ?_; (case ho => rfl); (case hg => rfl); (case hn => rfl); (case hr => first | (go_simp; done) | (go_simp; rfl)); intro w83 hw; have hg : w80.grownBy w83 (some go73) := (by rw [hw]; exact HP82.2); have hp_ : Kd.S (Kd.slice 83 k83) 81 w83 w.heap.size (fun k_ => some k_ ≠ (.slice Ao81 t245.length co81 : Value).ownBlock) (.slice (some ⟨go73, 0, none⟩) x3_4.length co47) y269 := (by rw [hw, Ny269.out]; exact HP82.1); clear HP82; have n0_ := Aside0.mk (hp_); have n1_ := Aside0.mk (Kd.R_over' (v := (.slice (some ⟨go73, 0, none⟩) x3_4.length co47)) att10_0_3 (Kd.S_typed HO_3.out) (by decide) hg); have n2_ := Aside0.mk (Kd.R_over' (v := (.slice (some ⟨go73, 0, none⟩) x3_4.length co47)) att10_0_1 (Kd.S_typed HO_3.out) (by decide) hg); have n3_ := Aside0.mk (Kd.R_over' (v := (.slice (some ⟨go73, 0, none⟩) x3_4.length co47)) att10_0_5 (Kd.S_typed HO_3.out) (by decide) hg); have n4_ := Aside0.mk (Kd.R_over' (v := (.slice (some ⟨go73, 0, none⟩) x3_4.length co47)) att10_0_6 (Kd.S_typed HO_3.out) (by decide) hg); have n5_ := Aside0.mk ((by rw [hw]; exact below_set (HB.out) GB73.out : Below w.heap.size w w83)); clear HO_3; clear HO_4; clear HO_7; clear HO_9; clear HO_10; clear HB; clear HO268; have HO_3 := n0_; have HO_4 := n1_; have HO_7 := n2_; have HO_9 := n3_; have HO_10 := n4_; have HB := n5_; clear n0_ n1_ n2_ n3_ n4_ n5_; clear hg hw hp_) | ((with_reducible refine gate_builtin (b := .append) (xs := #[.tmp 92, .tmp 94]) rfl ?_); at_builtin; refine Kd.R_append (Kd.int .i64) (w0 := w) w.heap.size rfl (.tmp 92) (.tmp 94) 34 3 (.int .i64 0) 8 rfl Try.underlying34 info3 rfl (by decide) (by omega) u7 x7_4 (rd t248 x11_4) [.int .i64 (rd t248 x11_4)] (fun k_ => some k_ ≠ (.slice (some ad251) t248.length co75 : Value).ownBlock) (fun _ => False) rfl rfl ?aP (fun _ hk => hk.elim) ?aF ?aO ?aB ?aS ?aL ?_; (case aP => exact rfl); (case aB => exact att10_0_0); (case aF => exact (fun k_ hk => Kd.fresh' (Kd.R_lt att10_0_6) k_ hk)); (case aO => exact att10_0_1); (case aS => exact (below_size att10_0_0)); (case aL => have := LMc74.out; omega); intro v271 w84 ho hb hg hat; rw [← Ny270.out] at ho; have n0_ := Aside0.mk (Kd.S_over' att10_0_4 (Kd.R_typed att10_0_1) (by decide) hg); have n1_ := Aside0.mk (Kd.R_over' att10_0_3 (Kd.R_typed att10_0_1) (by decide) hg); have n2_ := Aside0.mk (Kd.R_over' att10_0_5 (Kd.R_typed att10_0_1) (by decide) hg); have n3_ := Aside0.mk (Kd.R_after (ok := (fun _ => True)) att10_0_23 hg hat); have n4_ := Aside0.mk (hb); have n5_ := Aside0.mk (ho); clear HO_3; clear HO_4; clear HO_9; clear HO_10; clear HB; clear HO_7; have HO_3 := n0_; have HO_4 := n1_; have HO_9 := n2_; have HO_10 := n3_; have HB := n4_; have HO272 := n5_; clear n0_ n1_ n2_ n3_ n4_ n5_; clear ho hb hg hat))
                              (try simp only [← hl3_4, ← hl4_4])
                              (try rw [show (⟨go73, (rd x7_3 0).toNat, none⟩ : Addr) = (⟨go73, 0, none⟩ : Addr).add (rd x7_3 0).toNat from by simp only [add_plain]])
                              go_roundg k4
                              case measure => have := HK1.out; have := HK2.out; have := HK3.out; have := HK4.out; omega
                              case rel => exact ⟨(y269), (y262), (y270), (wrap64 (x11_4 + 1)), att10_0_15, H', ⟨att10_0_16⟩, ⟨att10_0_21⟩, ⟨att10_0_9⟩, ⟨by (try simp only [hl4_3]); (try simp only [hl3_4]); (try simp only [hl4_4]); (with_reducible repeat (first | apply Kd.R_alloc | apply Kd.R_drewN | apply Kd.R_drew)); exact HO272.out⟩, ⟨att10_0_10⟩, ⟨att10_0_18⟩, ⟨att10_0_0⟩⟩
                             ·rw [if_neg c74] at H
                              exact absurd H (by simp)
                            ·rw [if_neg c72] at H
                             exact absurd H (by simp)
                           ·rw [if_neg c71] at H
                            exact absurd H (by simp)
                         ·rw [if_neg c53] at H
                          exact absurd H (by simp)
                        ·rw [if_neg c52] at H
                         exact absurd H (by simp)
                       ·rw [if_neg c51] at H
                        exact absurd H (by simp)
                      ·rw [if_neg c50] at H
                       have c50b0 : decide (x11_4 < (t248.length : Int)) = false := decide_eq_false c50
                       clear c50
                       have H' := Aside0.mk H
                       clear H
                       obtain ⟨Ao85, co85, eo85⟩ := Kd.R_slice HO_10.out
                       subst eo85
                       go_wp2
                       (try simp only [← hl4_3, ← hl3_4, ← hl4_4])
                       (try rw [show (⟨go73, (rd x7_3 0).toNat, none⟩ : Addr) = (⟨go73, 0, none⟩ : Addr).add (rd x7_3 0).toNat from by simp only [add_plain]])
                       go_roundg k4
                       case measure => have := HK1.out; have := HK2.out; have := HK3.out; have := HK4.out; omega
                       case rel => exact ⟨(x3_4), (x4_4), (x7_4), H', ⟨att10_0_16⟩, ⟨by (try simp only [hl4_3]); (try simp only [hl3_4]); (try simp only [hl4_4]); (with_reducible repeat (first | apply Kd.S_alloc | apply Kd.S_drewN | apply Kd.S_drew)); exact Kd.S_mono HO_3.out (fun _ hk => trivial)⟩, ⟨att10_0_9⟩, ⟨by (try simp only [hl4_3]); (try simp only [hl3_4]); (try simp only [hl4_4]); (with_reducible repeat (first | apply Kd.R_alloc | apply Kd.R_drewN | apply Kd.R_drew)); exact Kd.R_mono HO_7.out (fun _ hk => trivial)⟩, ⟨att10_0_0⟩⟩
                   ·rw [if_neg c38] at H
                    exact absurd H (by simp)
                  ·rw [if_neg c37] at H
                   exact absurd H (by simp)
                 ·rw [if_neg c36] at H
                  exact absurd H (by simp)
                ·rw [if_neg c35] at H
                 exact absurd H (by simp)
               ·rw [if_neg c34] at H
                exact absurd H (by simp)
              ·rw [if_neg c33] at H
               exact absurd H (by simp)
             ·rw [if_neg c32] at H
              have c32b0 : decide (0 < (x7_3.length : Int)) = false := decide_eq_false c32
              have c32b1 : decide (0 < x7_3.length) = false := decide_eq_false (by omega)
              clear c32
              obtain rfl := Option.some.inj H
              obtain ⟨Ao86, co86, eo86⟩ := Kd.R_slice HO_7.out
              subst eo86
              go_wp2
              go_ret
              exact ⟨_, by first | rfl | (simp [errW_none, errW_some] <;> rfl) | (simp [*, errW_none, errW_some] <;> rfl), by (with_reducible repeat (first | apply Kd.S_alloc | apply Kd.S_drewN | apply Kd.S_drew)); exact HO_3.out, att10_0_0⟩
          ·rw [if_neg c26] at H
           exact absurd H (by simp)
   ·rw [if_neg c5] at H
    exact absurd H (by simp)
  ·rw [if_neg c4] at H
   exact absurd H (by simp)
 ·replace c3 := Bool.eq_false_iff.mpr c3
  subst c3
  rw [if_neg (show ¬ (false = true) by decide)] at H
  obtain rfl := Option.some.inj H
  go_enter Try.func45, Try.ntmps45
  go_wp2_with (first | ((with_reducible refine gate_dst (N := 15) rfl ?_); refine Kd.S_lit (Kd.slice 83 k83) _ 81 ?hg (N := 15) ?hd (xs := ([] : List (List (S83)))) (inner := []) (ok := fun _ => True) (okp := fun _ => True) ?hr ?hp (fun _ hk => hk) trivial (Below.refl _ _) (Nat.le_refl _) (by simp) ?_; (case hd => rfl); (case hg => rfl); (case hr => first | (go_simp; done) | (go_simp; rfl)); (case hp => exact (Reps.none _ _)); intro v212 w87 ho88 hb hg_ hnew_; clear hg_ hnew_; (first | rw [← Ny211.out] at ho88 | (simp only [Int.reduceToNat] at ho88; rw [← Ny211.out] at ho88)); have n0_ := Aside0.mk (Kd.S_lower ho88 (below_size att10_0_0)); have n1_ := Aside0.mk (below_step att10_0_0 hb); clear HB; have HO213 := n0_; have HB := n1_; clear n0_ n1_; clear hb ho88) | ((with_reducible refine gate_callee (f := 63) rfl ?_); refine goesL_ (some 17) rfl rfl Try.func63 (by kernel_rfl) rfl #[.slice A0 l0.length c0, .int .i64 3] rfl att10_0_7 ?_; (with_reducible refine (spec_BodyOk.calls k _ _ l0 3 false _ ?side1 ?side2 A2.out).mono ?_); (case side1 => repeat (first | exact (Kd.C_below HR0.out HB.out) | (with_reducible refine Kd.C_alloc ?_ _) | (with_reducible refine Kd.C_drewN ?_ _) | (with_reducible refine Kd.C_drew ?_))); (case side2 => exact HC0.out); rintro e w89 ⟨rfl, hb⟩; refine ⟨_, rfl, ?_⟩; have n0_ := Aside0.mk (Kd.S_below att10_0_14 hb); have n1_ := Aside0.mk (below_step att10_0_0 hb); clear HO213; clear HB; have HO213 := n0_; have HB := n1_; clear n0_ n1_; (try clear hb); (try clear hb2); (try clear hk); (try clear hi)))
  go_ret
  exact ⟨_, by first | rfl | (simp [errW_none, errW_some] <;> rfl) | (simp [*, errW_none, errW_some] <;> rfl), by (with_reducible repeat (first | apply Kd.S_alloc | apply Kd.S_drewN | apply Kd.S_drew)); exact HO213.out, att10_0_0⟩

end Go.Proofs.Ytocimkpafakiaaa.XFnExactFoldBody
