/- Each Go function that the law reaches as a Lean function, and that Go comes to just its answer; written by this session's xprint.py over the kit's printer. -/
import Derived.Shelf.Sort.Plain
import Derived.Shelf.Slices.In.SortNone
import Derived.Lib.RowBridge
import Derived.Shelf.Slices.CompactI
import Derived.Lib.RowBridge
import Derived.Test.YtocimkpafakiaaaXFnExactPackProgx0
import Derived.Test.YtocimkpafakiaaaXFnExactPackProgx9
import Derived.Test.YtocimkpafakiaaaXFnExactPackProgx10
namespace Go.Proofs.Ytocimkpafakiaaa.XFnExactPackProg
open Go.RowKit Go.Proofs.YtocimkpafakiaaaW.PrintWords Go.Proofs.YtocimkpafakiaaaW.PrintLast Go.Proofs.YtocimkpafakiaaaW.PrintMore
attribute [local go_sem] max2_int min2_int max_two min_two max_three min_three max_four min_four   -- for this text's walks alone
set_option linter.unusedVariables false
set_option linter.unusedSimpArgs false

theorem att12_0_0 {p : Prop} (h : p := by repeat (first | (with_reducible first | exact HB.out | apply below_alloc | apply pw_below_drewN | apply below_drew1) | exact HB.out)) : p := h
theorem att12_0_1 {p : Prop} (h : p := by (with_reducible repeat (first | refine blk_drewN ?_ _ | refine blk_drew ?_ | refine blk_alloc ?_ _)); refine blk_put (cs := #[.int .i64 ((rd_T63 l0 x19_2).f0), .int .i64 ((rd_T63 l0 x19_2).f1), .int .i64 ((rd_T63 l0 x19_2).f2), .int .i64 ((rd_T63 l0 x19_2).f3), .int .i64 0]) ?_ 4 _ rfl; (with_reducible repeat (first | refine blk_drewN ?_ _ | refine blk_drew ?_ | refine blk_alloc ?_ _)); refine blk_put (cs := #[.int .i64 ((rd_T63 l0 x19_2).f0), .int .i64 ((rd_T63 l0 x19_2).f1), .int .i64 ((rd_T63 l0 x19_2).f2), .int .i64 0, .int .i64 0]) ?_ 3 _ rfl; (with_reducible repeat (first | refine blk_drewN ?_ _ | refine blk_drew ?_ | refine blk_alloc ?_ _)); refine blk_put (cs := #[.int .i64 ((rd_T63 l0 x19_2).f0), .int .i64 ((rd_T63 l0 x19_2).f1), .int .i64 0, .int .i64 0, .int .i64 0]) ?_ 2 _ rfl; (with_reducible repeat (first | refine blk_drewN ?_ _ | refine blk_drew ?_ | refine blk_alloc ?_ _)); refine blk_put (cs := #[.int .i64 ((rd_T63 l0 x19_2).f0), .int .i64 0, .int .i64 0, .int .i64 0, .int .i64 0]) ?_ 1 _ rfl; (with_reducible repeat (first | refine blk_drewN ?_ _ | refine blk_drew ?_ | refine blk_alloc ?_ _)); refine blk_put (cs := #[.int .i64 0, .int .i64 0, .int .i64 0, .int .i64 0, .int .i64 0]) ?_ 0 _ rfl; (with_reducible repeat (first | refine blk_drewN ?_ _ | refine blk_drew ?_ | refine blk_alloc ?_ _)); exact BK332.out) : p := h
theorem att12_0_2 {p : Prop} (h : p := by (try simp only [List.map_toArray, List.map_cons, List.map_nil]); first | done | rfl | (simp only [List.length_drop, List.length_take]; rfl)) : p := h
theorem att12_0_3 {p : Prop} (h : p := by first | (with_reducible assumption) | assumption) : p := h
theorem att12_0_4 {p : Prop} (h : p := by repeat (first | (with_reducible first | exact HB.out | apply below_alloc | apply pw_below_drewN | apply below_drew1 | refine below_set ?_ GE332.out) | exact HB.out)) : p := h
theorem att12_0_5 {p : Prop} (h : p := by first | rfl | (simp; done) | (simp [*]; done)) : p := h
/-! ### impl_BodyOk: function 34 -/
mutual
def impl_BodyOk.j0 : Nat → List (S63) → Int → Bool → Option (Bool)
 | 0, _, _, _ => none
 | k + 1, x0, x1, x16 => if x16 = true then (some false) else (impl_BodyOk.l0 k x0 x1 x0 (x0.length : Int) 0)
def impl_BodyOk.l0 : Nat → List (S63) → Int → List (S63) → Int → Int → Option (Bool)
 | 0, _, _, _, _, _ => none
 | k + 1, x0, x1, x17, x18, x19 => if x19 < x18 then (if 0 ≤ x19 then (if x19 < (x17.length : Int) then ((impl_InsOk.f k ((rd_T63 x17 x19).f0) ((rd_T63 x17 x19).f1) ((rd_T63 x17 x19).f2) ((rd_T63 x17 x19).f3) ((rd_T63 x17 x19).f4) (x0.length : Int) x1).bind fun t333 => (if t333 = true then (impl_BodyOk.l0 k x0 x1 x17 x18 (wrap64 (x19 + 1))) else (some false))) else (none)) else (none)) else (if 0 ≤ (wrap64 ((x0.length : Int) - 1)) then (if (wrap64 ((x0.length : Int) - 1)) < (x0.length : Int) then (if ((rd_T63 x0 (wrap64 ((x0.length : Int) - 1))).f0) = 13 then (some true) else (some (((rd_T63 x0 (wrap64 ((x0.length : Int) - 1))).f0) == 11))) else (none)) else (none))
end
def impl_BodyOk.f (k : Nat) (l0 : List (S63)) (a1 : Int) : Option (Bool) := (impl_within.f a1 0 3).bind fun t329 => (if t329 = true then ((impl_within.f (l0.length : Int) 1 24).bind fun t330 => (impl_BodyOk.j0 k l0 a1 (!t330))) else (impl_BodyOk.j0 k l0 a1 true))
theorem impl_BodyOk.mono_l : ∀ k, (∀ y0 y1 y2, LeO (impl_BodyOk.j0 k y0 y1 y2) (impl_BodyOk.j0 (k + 1) y0 y1 y2)) ∧ (∀ y0 y1 y2 y3 y4, LeO (impl_BodyOk.l0 k y0 y1 y2 y3 y4) (impl_BodyOk.l0 (k + 1) y0 y1 y2 y3 y4))
 | 0 => ⟨fun _ _ _ r h => by simp [impl_BodyOk.j0] at h, fun _ _ _ _ _ r h => by simp [impl_BodyOk.l0] at h⟩
 | k + 1 => by
  obtain ⟨ih0, ih1⟩ := impl_BodyOk.mono_l k
  refine ⟨?_, ?_⟩
  ·intro y0 y1 y2
   unfold impl_BodyOk.j0
   repeat' first
   | (with_reducible exact ih0 _ _ _)
   | (with_reducible exact ih1 _ _ _ _ _)
   | (with_reducible exact impl_InsOk.mono _ _ _ _ _ _ _ _)
   | (with_reducible exact LeO.refl _)
   | (with_reducible exact LeO.none _)
   | (with_reducible refine LeO.ite ?_ ?_)
   | (with_reducible refine LeO.bind ?_ (fun _ => ?_))
   | exact ih0 _ _ _
   | exact ih1 _ _ _ _ _
   | exact impl_InsOk.mono _ _ _ _ _ _ _ _
   | exact LeO.none _
   | refine LeO.ite ?_ ?_
   | refine LeO.bind ?_ (fun _ => ?_)
  ·intro y0 y1 y2 y3 y4
   unfold impl_BodyOk.l0
   repeat' first
   | (with_reducible exact ih0 _ _ _)
   | (with_reducible exact ih1 _ _ _ _ _)
   | (with_reducible exact impl_InsOk.mono _ _ _ _ _ _ _ _)
   | (with_reducible exact LeO.refl _)
   | (with_reducible exact LeO.none _)
   | (with_reducible refine LeO.ite ?_ ?_)
   | (with_reducible refine LeO.bind ?_ (fun _ => ?_))
   | exact ih0 _ _ _
   | exact ih1 _ _ _ _ _
   | exact impl_InsOk.mono _ _ _ _ _ _ _ _
   | exact LeO.none _
   | refine LeO.ite ?_ ?_
   | refine LeO.bind ?_ (fun _ => ?_)
theorem impl_BodyOk.mono : ∀ a0 a1 k, LeO (impl_BodyOk.f k a0 a1) (impl_BodyOk.f (k + 1) a0 a1) := by
 intro a0 a1 k
 obtain ⟨ih0, ih1⟩ := impl_BodyOk.mono_l k
 unfold impl_BodyOk.f
 repeat' first
   | (with_reducible exact ih0 _ _ _)
   | (with_reducible exact ih1 _ _ _ _ _)
   | (with_reducible exact impl_InsOk.mono _ _ _ _ _ _ _ _)
   | (with_reducible exact LeO.refl _)
   | (with_reducible exact LeO.none _)
   | (with_reducible refine LeO.ite ?_ ?_)
   | (with_reducible refine LeO.bind ?_ (fun _ => ?_))
   | exact ih0 _ _ _
   | exact ih1 _ _ _ _ _
   | exact impl_InsOk.mono _ _ _ _ _ _ _ _
   | exact LeO.none _
   | refine LeO.ite ?_ ?_
   | refine LeO.bind ?_ (fun _ => ?_)
set_option maxHeartbeats 80000000 in
set_option maxRecDepth 100000 in
theorem impl_BodyOk.calls (k : Nat) (A0 : Option Addr) (c0 : Nat) (l0 : List (S63)) (a1 : Int) (r : Bool) (w : World) (hr0 : Kd.C k63 w A0 l0.length l0) (hc0 : l0.length ≤ c0) (h : impl_BodyOk.f k l0 a1 = some r) :
  Calls Try.prog 34 #[.slice A0 l0.length c0, .int .i64 a1] w fun e w' => e = .returned (.bool r) ∧ Below w.heap.size w w' := by
 have hu63 := Try.underlying63
 have HR0 := Aside0.mk hr0
 have HC0 := Aside0.mk hc0
 clear hr0 hc0
 have HB := Aside0.mk (Below.refl w.heap.size w)
 have H : ((impl_within.f a1 0 3).bind fun t329 => (if t329 = true then ((impl_within.f (l0.length : Int) 1 24).bind fun t330 => (impl_BodyOk.j0 k l0 a1 (!t330))) else (impl_BodyOk.j0 k l0 a1 true))) = some r := h
 clear h
 have HC3 := Aside0.mk H
 clear H
 go_enter Try.func34, Try.ntmps34
 go_upto_region 1 with (fail)
 go_cut [16] (fun v16 wc => ∃ (kq : Nat) (x16_2 : Bool), v16 = .bool x16_2 ∧ Aside0 (impl_BodyOk.j0 kq l0 a1 x16_2 = some r) ∧ Aside0 (kq ≤ k) ∧ Aside0 (Below w.heap.size w wc))
 case first =>
  have H := HC3.out
  clear HC3
  replace H := Option.bind_eq_some_iff.mp H
  obtain ⟨t329, A40, H⟩ := H
  (try dsimp only at H)
  have A4 := Aside0.mk A40
  clear A40
  by_cases c5 : t329 = true
  ·subst c5
   rw [if_pos rfl] at H
   replace H := Option.bind_eq_some_iff.mp H
   obtain ⟨t330, A60, H⟩ := H
   (try dsimp only at H)
   have A6 := Aside0.mk A60
   clear A60
   have H' := Aside0.mk H
   clear H
   go_wp2_with (first | ((with_reducible refine gate_callee (f := 79) rfl ?_); refine goesL_ (some 9) rfl rfl Try.func79 (by kernel_rfl) rfl #[.int .i64 a1, .int .i64 0, .int .i64 3] rfl att12_0_2 ?_; (with_reducible refine (impl_within.calls a1 0 3 true _ A4.out).mono ?_); rintro e w' ⟨rfl, ⟨nd, rfl⟩⟩; refine ⟨_, rfl, ?_⟩) | (go_at_call 79; (with_reducible refine (impl_within.calls (l0.length : Int) 1 24 t330 _ A6.out).mono ?_); rintro e w' ⟨rfl, ⟨nd, rfl⟩⟩))
   go_meet
   case rel => exact ⟨_, (!t330), att12_0_5, H', ⟨by first | omega | exact Nat.le_refl _⟩, ⟨att12_0_0⟩⟩
  ·replace c5 := Bool.eq_false_iff.mpr c5
   subst c5
   rw [if_neg (show ¬ (false = true) by decide)] at H
   have H' := Aside0.mk H
   clear H
   go_wp2_with (first | ((with_reducible refine gate_callee (f := 79) rfl ?_); refine goesL_ (some 9) rfl rfl Try.func79 (by kernel_rfl) rfl #[.int .i64 a1, .int .i64 0, .int .i64 3] rfl att12_0_2 ?_; (with_reducible refine (impl_within.calls a1 0 3 false _ A4.out).mono ?_); rintro e w' ⟨rfl, ⟨nd, rfl⟩⟩; refine ⟨_, rfl, ?_⟩))
   go_meet
   case rel => exact ⟨_, (true), att12_0_5, H', ⟨by first | omega | exact Nat.le_refl _⟩, ⟨att12_0_0⟩⟩
 case rest =>
  clear HC3
  try clear p2
  try clear c3
  try clear c5
  obtain ⟨kq, x16_2, rfl, HA, HJ2, HB⟩ := hcut
  cases kq with
  | zero => exact absurd HA.out (by simp [impl_BodyOk.j0])
  | succ kj2 =>
   have H := HA.out
   clear HA
   simp only [impl_BodyOk.j0] at H
   by_cases c7 : x16_2 = true
   ·subst c7
    rw [if_pos rfl] at H
    obtain rfl := Option.some.inj H
    go_wp2
    go_ret
    exact ⟨by first | rfl | (simp [errW_none, errW_some] <;> rfl) | (simp [*, errW_none, errW_some] <;> rfl), att12_0_0⟩
   ·replace c7 := Bool.eq_false_iff.mpr c7
    subst c7
    rw [if_neg (show ¬ (false = true) by decide)] at H
    have H' := Aside0.mk H
    clear H
    go_wp2
    go_loopg [19] kj2 (fun kq v19 w' => ∃ (x19_2 : Int), v19 = .int .i64 x19_2 ∧ Aside0 (impl_BodyOk.l0 kq l0 a1 l0 (l0.length : Int) x19_2 = some r) ∧ Aside0 (kq ≤ kj2) ∧ Aside0 (Below w.heap.size w w'))
    case atStart => exact ⟨(0), att12_0_5, H', ⟨Nat.le_refl _⟩, ⟨att12_0_0⟩⟩
    case round =>
     clear H'
     try clear p2
     try clear c3
     try clear c5
     try clear c7
     try clear p2
     obtain ⟨x19_2, rfl, HA, HK2, HB⟩ := hrel
     cases gk with
     | zero => exact absurd HA.out (by simp [impl_BodyOk.l0])
     | succ k2 =>
      have H := HA.out
      clear HA
      simp only [impl_BodyOk.l0] at H
      by_cases c8 : x19_2 < (l0.length : Int)
      ·rw [if_pos c8] at H
       have c8b0 : decide (x19_2 < (l0.length : Int)) = true := decide_eq_true c8
       clear c8
       by_cases c9 : 0 ≤ x19_2
       ·rw [if_pos c9] at H
        have c9b0 : decide (0 ≤ x19_2) = true := decide_eq_true c9
        clear c9
        by_cases c10 : x19_2 < (l0.length : Int)
        ·rw [if_pos c10] at H
         have c10b0 : decide (x19_2 < (l0.length : Int)) = true := decide_eq_true c10
         clear c10
         replace H := Option.bind_eq_some_iff.mp H
         obtain ⟨t333, A110, H⟩ := H
         (try dsimp only at H)
         have A11 := Aside0.mk A110
         clear A110
         by_cases c12 : t333 = true
         ·subst c12
          rw [if_pos rfl] at H
          have H' := Aside0.mk H
          clear H
          have p331 : 0 ≤ (x19_2 : Int) := of_decide_eq_true att12_0_3
          have q331 : x19_2 < (l0.length : Int) := of_decide_eq_true att12_0_3
          obtain ⟨ad331, e331, hx331_0, hx331_1, hx331_2, hx331_3, hx331_4⟩ := at_T63 HR0.out x19_2 p331 q331
          cases e331
          replace hx331_0 := (HB.out.cell (World.block_lt_of_cell? w _ hx331_0)).trans hx331_0
          replace hx331_1 := (HB.out.cell (World.block_lt_of_cell? w _ hx331_1)).trans hx331_1
          replace hx331_2 := (HB.out.cell (World.block_lt_of_cell? w _ hx331_2)).trans hx331_2
          replace hx331_3 := (HB.out.cell (World.block_lt_of_cell? w _ hx331_3)).trans hx331_3
          replace hx331_4 := (HB.out.cell (World.block_lt_of_cell? w _ hx331_4)).trans hx331_4
          replace p331 := eq_true p331
          replace q331 := eq_true q331
          go_wp2_with (first | ((with_reducible refine gate_dst (N := 6) rfl ?_); (try (refine gate_guard (by rfl) ?_; dsimp only)); refine box_event ?hg (N := 6) ?hd (cs := #[.int .i64 0, .int .i64 0, .int .i64 0, .int .i64 0, .int .i64 0]) (t := 63) ?hr ?_; (case hd => rfl); (case hg => rfl); (case hr => first | (go_simp; done) | (go_simp; rfl)); intro gb332 hg w13 hbox hb; have n0_ := Aside0.mk (below_step att12_0_0 hb); have n1_ := Aside0.mk (hbox); have n2_ := Aside0.mk ((by rw [hg]; exact (below_size att12_0_0) : w.heap.size ≤ gb332)); have n3_ := Aside0.mk ((by rw [hg]; exact (below_size att12_0_0) : w.heap.size ≤ gb332)); clear HB; have HB := n0_; have BK332 := n1_; have GW332 := n2_; have GE332 := n3_; clear n0_ n1_ n2_ n3_; clear hb hbox hg; have hcz14_0 : w13.cell? ⟨gb332, 0, none⟩ = some (.int .i64 0) := (blk_cell BK332.out 0).trans rfl; have hcz14_1 : w13.cell? ⟨gb332, 1, none⟩ = some (.int .i64 0) := (blk_cell BK332.out 1).trans rfl; have hcz14_2 : w13.cell? ⟨gb332, 2, none⟩ = some (.int .i64 0) := (blk_cell BK332.out 2).trans rfl; have hcz14_3 : w13.cell? ⟨gb332, 3, none⟩ = some (.int .i64 0) := (blk_cell BK332.out 3).trans rfl; have hcz14_4 : w13.cell? ⟨gb332, 4, none⟩ = some (.int .i64 0) := (blk_cell BK332.out 4).trans rfl; have hfz14_0 := blk_frozen BK332.out 0; have hfz14_1 := blk_frozen BK332.out 1; have hfz14_2 := blk_frozen BK332.out 2; have hfz14_3 := blk_frozen BK332.out 3; have hfz14_4 := blk_frozen BK332.out 4) | ((with_reducible refine gate_callee (f := 80) rfl ?_); refine goesL_ (some 27) rfl rfl Try.func80 (by kernel_rfl) rfl #[.agg #[.int .i64 ((rd_T63 l0 x19_2).f0), .int .i64 ((rd_T63 l0 x19_2).f1), .int .i64 ((rd_T63 l0 x19_2).f2), .int .i64 ((rd_T63 l0 x19_2).f3), .int .i64 ((rd_T63 l0 x19_2).f4)], .int .i64 (l0.length : Int), .int .i64 a1] rfl att12_0_2 ?_; (with_reducible refine (impl_InsOk.calls k2 ((rd_T63 l0 x19_2).f0) ((rd_T63 l0 x19_2).f1) ((rd_T63 l0 x19_2).f2) ((rd_T63 l0 x19_2).f3) ((rd_T63 l0 x19_2).f4) (l0.length : Int) a1 true _ A11.out).mono ?_); rintro e w15 ⟨rfl, hb⟩; refine ⟨_, rfl, ?_⟩; have n0_ := Aside0.mk (blk_below (g := gb332) (o := .cells #[.int .i64 ((rd_T63 l0 x19_2).f0), .int .i64 ((rd_T63 l0 x19_2).f1), .int .i64 ((rd_T63 l0 x19_2).f2), .int .i64 ((rd_T63 l0 x19_2).f3), .int .i64 ((rd_T63 l0 x19_2).f4)] 63 (0, 0)) att12_0_1 hb); have n1_ := Aside0.mk (below_step att12_0_4 hb); clear BK332; clear HB; have BK332 := n0_; have HB := n1_; clear n0_ n1_; (try clear hb); (try clear hb2); (try clear hk); (try clear hi)))
          go_roundg k2
          case measure => have := HJ2.out; have := HK2.out; omega
          case rel => exact ⟨(wrap64 (x19_2 + 1)), att12_0_5, H', ⟨by have := HJ2.out; have := HK2.out; omega⟩, ⟨att12_0_4⟩⟩
         ·replace c12 := Bool.eq_false_iff.mpr c12
          subst c12
          rw [if_neg (show ¬ (false = true) by decide)] at H
          obtain rfl := Option.some.inj H
          have p331 : 0 ≤ (x19_2 : Int) := of_decide_eq_true att12_0_3
          have q331 : x19_2 < (l0.length : Int) := of_decide_eq_true att12_0_3
          obtain ⟨ad331, e331, hx331_0, hx331_1, hx331_2, hx331_3, hx331_4⟩ := at_T63 HR0.out x19_2 p331 q331
          cases e331
          replace hx331_0 := (HB.out.cell (World.block_lt_of_cell? w _ hx331_0)).trans hx331_0
          replace hx331_1 := (HB.out.cell (World.block_lt_of_cell? w _ hx331_1)).trans hx331_1
          replace hx331_2 := (HB.out.cell (World.block_lt_of_cell? w _ hx331_2)).trans hx331_2
          replace hx331_3 := (HB.out.cell (World.block_lt_of_cell? w _ hx331_3)).trans hx331_3
          replace hx331_4 := (HB.out.cell (World.block_lt_of_cell? w _ hx331_4)).trans hx331_4
          replace p331 := eq_true p331
          replace q331 := eq_true q331
          go_wp2_with (first | ((with_reducible refine gate_dst (N := 6) rfl ?_); (try (refine gate_guard (by rfl) ?_; dsimp only)); refine box_event ?hg (N := 6) ?hd (cs := #[.int .i64 0, .int .i64 0, .int .i64 0, .int .i64 0, .int .i64 0]) (t := 63) ?hr ?_; (case hd => rfl); (case hg => rfl); (case hr => first | (go_simp; done) | (go_simp; rfl)); intro gb332 hg w16 hbox hb; have n0_ := Aside0.mk (below_step att12_0_0 hb); have n1_ := Aside0.mk (hbox); have n2_ := Aside0.mk ((by rw [hg]; exact (below_size att12_0_0) : w.heap.size ≤ gb332)); have n3_ := Aside0.mk ((by rw [hg]; exact (below_size att12_0_0) : w.heap.size ≤ gb332)); clear HB; have HB := n0_; have BK332 := n1_; have GW332 := n2_; have GE332 := n3_; clear n0_ n1_ n2_ n3_; clear hb hbox hg; have hcz17_0 : w16.cell? ⟨gb332, 0, none⟩ = some (.int .i64 0) := (blk_cell BK332.out 0).trans rfl; have hcz17_1 : w16.cell? ⟨gb332, 1, none⟩ = some (.int .i64 0) := (blk_cell BK332.out 1).trans rfl; have hcz17_2 : w16.cell? ⟨gb332, 2, none⟩ = some (.int .i64 0) := (blk_cell BK332.out 2).trans rfl; have hcz17_3 : w16.cell? ⟨gb332, 3, none⟩ = some (.int .i64 0) := (blk_cell BK332.out 3).trans rfl; have hcz17_4 : w16.cell? ⟨gb332, 4, none⟩ = some (.int .i64 0) := (blk_cell BK332.out 4).trans rfl; have hfz17_0 := blk_frozen BK332.out 0; have hfz17_1 := blk_frozen BK332.out 1; have hfz17_2 := blk_frozen BK332.out 2; have hfz17_3 := blk_frozen BK332.out 3; have hfz17_4 := blk_frozen BK332.out 4) | ((with_reducible refine gate_callee (f := 80) rfl ?_); refine goesL_ (some 27) rfl rfl Try.func80 (by kernel_rfl) rfl #[.agg #[.int .i64 ((rd_T63 l0 x19_2).f0), .int .i64 ((rd_T63 l0 x19_2).f1), .int .i64 ((rd_T63 l0 x19_2).f2), .int .i64 ((rd_T63 l0 x19_2).f3), .int .i64 ((rd_T63 l0 x19_2).f4)], .int .i64 (l0.length : Int), .int .i64 a1] rfl att12_0_2 ?_; (with_reducible refine (impl_InsOk.calls k2 ((rd_T63 l0 x19_2).f0) ((rd_T63 l0 x19_2).f1) ((rd_T63 l0 x19_2).f2) ((rd_T63 l0 x19_2).f3) ((rd_T63 l0 x19_2).f4) (l0.length : Int) a1 false _ A11.out).mono ?_); rintro e w18 ⟨rfl, hb⟩; refine ⟨_, rfl, ?_⟩; have n0_ := Aside0.mk (blk_below (g := gb332) (o := .cells #[.int .i64 ((rd_T63 l0 x19_2).f0), .int .i64 ((rd_T63 l0 x19_2).f1), .int .i64 ((rd_T63 l0 x19_2).f2), .int .i64 ((rd_T63 l0 x19_2).f3), .int .i64 ((rd_T63 l0 x19_2).f4)] 63 (0, 0)) att12_0_1 hb); have n1_ := Aside0.mk (below_step att12_0_4 hb); clear BK332; clear HB; have BK332 := n0_; have HB := n1_; clear n0_ n1_; (try clear hb); (try clear hb2); (try clear hk); (try clear hi)))
          go_ret
          exact ⟨by first | rfl | (simp [errW_none, errW_some] <;> rfl) | (simp [*, errW_none, errW_some] <;> rfl), att12_0_4⟩
        ·rw [if_neg c10] at H
         exact absurd H (by simp)
       ·rw [if_neg c9] at H
        exact absurd H (by simp)
      ·rw [if_neg c8] at H
       have c8b0 : decide (x19_2 < (l0.length : Int)) = false := decide_eq_false c8
       clear c8
       obtain ⟨ji19, hji19⟩ : ∃ j_ : Int, (wrap64 ((l0.length : Int) - 1)) = j_ := ⟨_, rfl⟩
       replace H : (if 0 ≤ (ji19) then (if (ji19) < (l0.length : Int) then (if ((rd_T63 l0 (ji19)).f0) = 13 then (some true) else (some (((rd_T63 l0 (ji19)).f0) == 11))) else (none)) else (none)) = some r := by first | (rw [hji19] at H; exact H) | (simp only [hji19] at H ⊢; exact H)
       have hji19w : (IntKind.i64.wrap ((l0.length : Int) - 1)) = ji19 := (i64_w _).trans hji19
       by_cases c20 : 0 ≤ (ji19)
       ·rw [if_pos c20] at H
        have c20b0 : decide (0 ≤ (ji19)) = true := decide_eq_true c20
        clear c20
        by_cases c21 : (ji19) < (l0.length : Int)
        ·rw [if_pos c21] at H
         have c21b0 : decide ((ji19) < (l0.length : Int)) = true := decide_eq_true c21
         clear c21
         by_cases c22 : ((rd_T63 l0 (ji19)).f0) = 13
         ·rw [if_pos c22] at H
          have c22b0 : (((rd_T63 l0 (ji19)).f0) == 13) = true := beq_iff_eq.mpr c22
          have c22b1 : (((rd_T63 l0 (ji19)).f0) != 13) = false := bne_eq_false_iff_eq.mpr c22
          clear c22
          obtain rfl := Option.some.inj H
          have p334 : 0 ≤ ((ji19) : Int) := of_decide_eq_true att12_0_3
          have q334 : (ji19) < (l0.length : Int) := of_decide_eq_true att12_0_3
          obtain ⟨ad334, e334, hx334_0, hx334_1, hx334_2, hx334_3, hx334_4⟩ := at_T63 HR0.out (ji19) p334 q334
          cases e334
          replace hx334_0 := (HB.out.cell (World.block_lt_of_cell? w _ hx334_0)).trans hx334_0
          replace hx334_1 := (HB.out.cell (World.block_lt_of_cell? w _ hx334_1)).trans hx334_1
          replace hx334_2 := (HB.out.cell (World.block_lt_of_cell? w _ hx334_2)).trans hx334_2
          replace hx334_3 := (HB.out.cell (World.block_lt_of_cell? w _ hx334_3)).trans hx334_3
          replace hx334_4 := (HB.out.cell (World.block_lt_of_cell? w _ hx334_4)).trans hx334_4
          replace p334 := eq_true p334
          replace q334 := eq_true q334
          go_wp2
          go_ret
          exact ⟨by first | rfl | (simp [errW_none, errW_some] <;> rfl) | (simp only [← hji19]; first | rfl | (simp [errW_none, errW_some] <;> rfl)) | (simp [*, errW_none, errW_some] <;> rfl), att12_0_0⟩
         ·rw [if_neg c22] at H
          have c22b0 : (((rd_T63 l0 (ji19)).f0) == 13) = false := beq_eq_false_iff_ne.mpr c22
          have c22b1 : (((rd_T63 l0 (ji19)).f0) != 13) = true := bne_iff_ne.mpr c22
          obtain rfl := Option.some.inj H
          have p334 : 0 ≤ ((ji19) : Int) := of_decide_eq_true att12_0_3
          have q334 : (ji19) < (l0.length : Int) := of_decide_eq_true att12_0_3
          obtain ⟨ad334, e334, hx334_0, hx334_1, hx334_2, hx334_3, hx334_4⟩ := at_T63 HR0.out (ji19) p334 q334
          cases e334
          replace hx334_0 := (HB.out.cell (World.block_lt_of_cell? w _ hx334_0)).trans hx334_0
          replace hx334_1 := (HB.out.cell (World.block_lt_of_cell? w _ hx334_1)).trans hx334_1
          replace hx334_2 := (HB.out.cell (World.block_lt_of_cell? w _ hx334_2)).trans hx334_2
          replace hx334_3 := (HB.out.cell (World.block_lt_of_cell? w _ hx334_3)).trans hx334_3
          replace hx334_4 := (HB.out.cell (World.block_lt_of_cell? w _ hx334_4)).trans hx334_4
          replace p334 := eq_true p334
          replace q334 := eq_true q334
          go_wp2
          go_ret
          exact ⟨by first | rfl | (simp [errW_none, errW_some] <;> rfl) | (simp only [← hji19]; first | rfl | (simp [errW_none, errW_some] <;> rfl)) | (simp [*, errW_none, errW_some] <;> rfl), att12_0_0⟩
        ·rw [if_neg c21] at H
         exact absurd H (by simp)
       ·rw [if_neg c20] at H
        exact absurd H (by simp)

/-! ### impl_copyBody: function 66 -/
def impl_copyBody.f (l0 : List (S63)) : Option ((List (S63))) := (some (([] : List (S63)) : List (S63))).bind fun y335 => (if y335.length + l0.length < 3518437208883 then (some (y335 ++ l0)) else (none))
set_option maxHeartbeats 80000000 in
set_option maxRecDepth 100000 in
theorem impl_copyBody.calls (A0 : Option Addr) (c0 : Nat) (l0 : List (S63)) (r : List (S63)) (w : World) (hr0 : Kd.C k63 w A0 l0.length l0) (hc0 : l0.length ≤ c0) (h : impl_copyBody.f l0 = some r) :
  Calls Try.prog 66 #[.slice A0 l0.length c0] w fun e w' => ∃ v0_ : Value, e = .returned (v0_) ∧ Kd.R k63 63 w' w.heap.size (fun _ => True) v0_ r ∧ Below w.heap.size w w' := by
 have HR0 := Aside0.mk hr0
 have HC0 := Aside0.mk hc0
 clear hr0 hc0
 have HB := Aside0.mk (Below.refl w.heap.size w)
 have H : ((some (([] : List (S63)) : List (S63))).bind fun y335 => (if y335.length + l0.length < 3518437208883 then (some (y335 ++ l0)) else (none))) = some r := h
 clear h
 obtain ⟨y335, hy335⟩ : ∃ y_ : List (S63), y_ = (([] : List (S63))) := ⟨_, rfl⟩
 replace H : (if y335.length + l0.length < 3518437208883 then (some (y335 ++ l0)) else (none)) = some r := by first | (rw [hy335]; with_reducible exact H) | (have H2_ := (Option.bind_some _ _).symm.trans H; rw [hy335]; with_reducible exact H2_) | (have H2_ := (Option.bind_some _ _).symm.trans H; with_reducible exact H2_) | with_reducible exact H | (rw [hy335]; exact H) | exact H
 have Ny335 := Aside0.mk hy335
 clear hy335
 by_cases c2 : y335.length + l0.length < 3518437208883
 ·rw [if_pos c2] at H
  have LMc2 := Aside0.mk c2
  clear c2
  obtain ⟨y338, hy338⟩ : ∃ y_ : List (S63), y_ = (y335 ++ l0) := ⟨_, rfl⟩
  replace H : (some y338) = some r := by first | (rw [hy338]; with_reducible exact H) | (have H2_ := (Option.bind_some _ _).symm.trans H; rw [hy338]; with_reducible exact H2_) | (have H2_ := (Option.bind_some _ _).symm.trans H; with_reducible exact H2_) | with_reducible exact H | (rw [hy338]; exact H) | exact H
  have Ny338 := Aside0.mk hy338
  clear hy338
  obtain rfl := Option.some.inj H
  go_enter Try.func66, Try.ntmps66
  go_wp2_with (first | ((with_reducible refine gate_dst (N := 3) rfl ?_); refine Kd.R_lit k63 _ 63 ?hg (N := 3) ?hd (xs := ([] : List (S63))) (inner := []) (ok := fun _ => True) (okp := fun _ => True) ?hr ?hp (fun _ hk => hk) trivial (Below.refl _ _) (Nat.le_refl _) (by simp) ?_; (case hd => rfl); (case hg => rfl); (case hr => first | (go_simp; done) | (go_simp; rfl)); (case hp => exact (Reps.none _ _)); intro v336 w3 ho4 hb hg_ hnew_; clear hg_ hnew_; (first | rw [← Ny335.out] at ho4 | (simp only [Int.reduceToNat] at ho4; rw [← Ny335.out] at ho4)); have n0_ := Aside0.mk (Kd.R_lower ho4 (below_size att12_0_0)); have n1_ := Aside0.mk (below_step att12_0_0 hb); clear HB; have HO337 := n0_; have HB := n1_; clear n0_ n1_; clear hb ho4) | ((with_reducible refine gate_builtin (b := .append) (xs := #[.tmp 3, .tmp 4]) rfl ?_); at_builtin; refine Kd.R_append_rows k63 (w0 := w) w.heap.size rfl (.tmp 3) (.tmp 4) 24 63 (.agg #[(.int .i64 0), (.int .i64 0), (.int .i64 0), (.int .i64 0), (.int .i64 0)]) 40 rfl Try.underlying24 info63 rfl (by decide) (by omega) v336 y335 l0 _ _ _ (fun _ => True) (fun _ => False) rfl rfl ?aO ?aR (fun _ _ h => h) (fun _ h => h.elim) ?aF ?aB ?aS ?aL ?_; (case aR => repeat (first | exact (Kd.C_below HR0.out HB.out) | (with_reducible refine Kd.C_alloc ?_ _) | (with_reducible refine Kd.C_drewN ?_ _) | (with_reducible refine Kd.C_drew ?_))); (case aB => exact att12_0_0); (case aF => exact (fun _ _ => trivial)); (case aO => exact (by (with_reducible repeat (first | apply Kd.R_alloc | apply Kd.R_drewN | apply Kd.R_drew)); exact HO337.out)); (case aS => exact (below_size att12_0_0)); (case aL => have := LMc2.out; omega); intro v339 w5 ho hb hg hat; rw [← Ny338.out] at ho; have n0_ := Aside0.mk (hb); have n1_ := Aside0.mk (ho); clear HB; clear HO337; have HB := n0_; have HO340 := n1_; clear n0_ n1_; clear ho hb hg hat))
  go_ret
  exact ⟨_, by first | rfl | (simp [errW_none, errW_some] <;> rfl) | (simp [*, errW_none, errW_some] <;> rfl), by (with_reducible repeat (first | apply Kd.R_alloc | apply Kd.R_drewN | apply Kd.R_drew)); exact HO340.out, att12_0_0⟩
 ·rw [if_neg c2] at H
  exact absurd H (by simp)

/-! ### impl_placeIn: function 71 -/
def impl_placeIn.f (k : Nat) (l0 : List (S63)) (a1 : Int) : Option (Bool) := (impl_BodyOk.f k l0 3).bind fun t341 => (if t341 = true then ((impl_within.f a1 0 (wrap64 ((l0.length : Int) - 1))).bind fun t342 => (some t342)) else (some false))
theorem impl_placeIn.mono : ∀ a0 a1 k, LeO (impl_placeIn.f k a0 a1) (impl_placeIn.f (k + 1) a0 a1) := by
 intro a0 a1 k
 unfold impl_placeIn.f
 repeat' first
   | (with_reducible exact impl_BodyOk.mono _ _ _)
   | (with_reducible exact LeO.refl _)
   | (with_reducible exact LeO.none _)
   | (with_reducible refine LeO.ite ?_ ?_)
   | (with_reducible refine LeO.bind ?_ (fun _ => ?_))
   | exact impl_BodyOk.mono _ _ _
   | exact LeO.none _
   | refine LeO.ite ?_ ?_
   | refine LeO.bind ?_ (fun _ => ?_)
set_option maxHeartbeats 80000000 in
set_option maxRecDepth 100000 in
theorem impl_placeIn.calls (k : Nat) (A0 : Option Addr) (c0 : Nat) (l0 : List (S63)) (a1 : Int) (r : Bool) (w : World) (hr0 : Kd.C k63 w A0 l0.length l0) (hc0 : l0.length ≤ c0) (h : impl_placeIn.f k l0 a1 = some r) :
  Calls Try.prog 71 #[.slice A0 l0.length c0, .int .i64 a1] w fun e w' => e = .returned (.bool r) ∧ Below w.heap.size w w' := by
 have HR0 := Aside0.mk hr0
 have HC0 := Aside0.mk hc0
 clear hr0 hc0
 have HB := Aside0.mk (Below.refl w.heap.size w)
 have H : ((impl_BodyOk.f k l0 3).bind fun t341 => (if t341 = true then ((impl_within.f a1 0 (wrap64 ((l0.length : Int) - 1))).bind fun t342 => (some t342)) else (some false))) = some r := h
 clear h
 replace H := Option.bind_eq_some_iff.mp H
 obtain ⟨t341, A30, H⟩ := H
 (try dsimp only at H)
 have A3 := Aside0.mk A30
 clear A30
 by_cases c4 : t341 = true
 ·subst c4
  rw [if_pos rfl] at H
  replace H := Option.bind_eq_some_iff.mp H
  obtain ⟨t342, A50, H⟩ := H
  (try dsimp only at H)
  have A5 := Aside0.mk A50
  clear A50
  obtain rfl := Option.some.inj H
  go_enter Try.func71, Try.ntmps71
  go_wp2_with (first | ((with_reducible refine gate_callee (f := 34) rfl ?_); refine goesL_ (some 6) rfl rfl Try.func34 (by kernel_rfl) rfl #[.slice A0 l0.length c0, .int .i64 3] rfl att12_0_2 ?_; (with_reducible refine (impl_BodyOk.calls k _ _ l0 3 true _ ?side1 ?side2 A3.out).mono ?_); (case side1 => repeat (first | exact HR0.out | (with_reducible refine Kd.C_alloc ?_ _) | (with_reducible refine Kd.C_drewN ?_ _) | (with_reducible refine Kd.C_drew ?_))); (case side2 => exact HC0.out); rintro e w6 ⟨rfl, hb⟩; refine ⟨_, rfl, ?_⟩; have n0_ := Aside0.mk (below_step att12_0_0 hb); clear HB; have HB := n0_; clear n0_; (try clear hb); (try clear hb2); (try clear hk); (try clear hi)) | (go_at_call 79; (with_reducible refine (impl_within.calls a1 0 (wrap64 ((l0.length : Int) - 1)) t342 _ A5.out).mono ?_); rintro e w' ⟨rfl, ⟨nd, rfl⟩⟩))
  go_ret
  exact ⟨by first | rfl | (simp [errW_none, errW_some] <;> rfl) | (simp [*, errW_none, errW_some] <;> rfl), att12_0_0⟩
 ·replace c4 := Bool.eq_false_iff.mpr c4
  subst c4
  rw [if_neg (show ¬ (false = true) by decide)] at H
  obtain rfl := Option.some.inj H
  go_enter Try.func71, Try.ntmps71
  go_wp2_with (first | ((with_reducible refine gate_callee (f := 34) rfl ?_); refine goesL_ (some 6) rfl rfl Try.func34 (by kernel_rfl) rfl #[.slice A0 l0.length c0, .int .i64 3] rfl att12_0_2 ?_; (with_reducible refine (impl_BodyOk.calls k _ _ l0 3 false _ ?side1 ?side2 A3.out).mono ?_); (case side1 => repeat (first | exact HR0.out | (with_reducible refine Kd.C_alloc ?_ _) | (with_reducible refine Kd.C_drewN ?_ _) | (with_reducible refine Kd.C_drew ?_))); (case side2 => exact HC0.out); rintro e w7 ⟨rfl, hb⟩; refine ⟨_, rfl, ?_⟩; have n0_ := Aside0.mk (below_step att12_0_0 hb); clear HB; have HB := n0_; clear n0_; (try clear hb); (try clear hb2); (try clear hk); (try clear hi)))
  go_ret
  exact ⟨by first | rfl | (simp [errW_none, errW_some] <;> rfl) | (simp [*, errW_none, errW_some] <;> rfl), att12_0_0⟩

/-! ### impl_Skip: function 67 -/
def impl_Skip.l0 : Nat → List (S63) → Int → Int → Int → Option (Int)
 | 0, _, _, _, _ => none
 | k + 1, x0, x1, x10, x11 => if x11 < x10 then (if 0 ≤ x1 then (if x1 < (x0.length : Int) then (if ((rd_T63 x0 x1).f0) = 11 then (impl_Skip.l0 k x0 ((rd_T63 x0 x1).f4) x10 (wrap64 (x11 + 1))) else (impl_Skip.l0 k x0 x1 x10 (wrap64 (x11 + 1)))) else (none)) else (none)) else (some x1)
def impl_Skip.f (k : Nat) (l0 : List (S63)) (a1 : Int) : Option (Int) := (impl_placeIn.f k l0 a1).bind fun t343 => (if t343 = true then (impl_Skip.l0 k l0 a1 (l0.length : Int) 0) else (some (-1)))
theorem impl_Skip.mono_l : ∀ k, (∀ y0 y1 y2 y3, LeO (impl_Skip.l0 k y0 y1 y2 y3) (impl_Skip.l0 (k + 1) y0 y1 y2 y3))
 | 0 => fun _ _ _ _ r h => by simp [impl_Skip.l0] at h
 | k + 1 => by
  have ih0 := impl_Skip.mono_l k
  ·intro y0 y1 y2 y3
   unfold impl_Skip.l0
   repeat' first
   | (with_reducible exact ih0 _ _ _ _)
   | (with_reducible exact impl_placeIn.mono _ _ _)
   | (with_reducible exact LeO.refl _)
   | (with_reducible exact LeO.none _)
   | (with_reducible refine LeO.ite ?_ ?_)
   | (with_reducible refine LeO.bind ?_ (fun _ => ?_))
   | exact ih0 _ _ _ _
   | exact impl_placeIn.mono _ _ _
   | exact LeO.none _
   | refine LeO.ite ?_ ?_
   | refine LeO.bind ?_ (fun _ => ?_)
theorem impl_Skip.mono : ∀ a0 a1 k, LeO (impl_Skip.f k a0 a1) (impl_Skip.f (k + 1) a0 a1) := by
 intro a0 a1 k
 have ih0 := impl_Skip.mono_l k
 unfold impl_Skip.f
 repeat' first
   | (with_reducible exact ih0 _ _ _ _)
   | (with_reducible exact impl_placeIn.mono _ _ _)
   | (with_reducible exact LeO.refl _)
   | (with_reducible exact LeO.none _)
   | (with_reducible refine LeO.ite ?_ ?_)
   | (with_reducible refine LeO.bind ?_ (fun _ => ?_))
   | exact ih0 _ _ _ _
   | exact impl_placeIn.mono _ _ _
   | exact LeO.none _
   | refine LeO.ite ?_ ?_
   | refine LeO.bind ?_ (fun _ => ?_)
set_option maxHeartbeats 80000000 in
set_option maxRecDepth 100000 in
theorem impl_Skip.calls (k : Nat) (A0 : Option Addr) (c0 : Nat) (l0 : List (S63)) (a1 : Int) (r : Int) (w : World) (hr0 : Kd.C k63 w A0 l0.length l0) (hc0 : l0.length ≤ c0) (h : impl_Skip.f k l0 a1 = some r) :
  Calls Try.prog 67 #[.slice A0 l0.length c0, .int .i64 a1] w fun e w' => e = .returned (.int .i64 r) ∧ Below w.heap.size w w' := by
 have HR0 := Aside0.mk hr0
 have HC0 := Aside0.mk hc0
 clear hr0 hc0
 have HB := Aside0.mk (Below.refl w.heap.size w)
 have H : ((impl_placeIn.f k l0 a1).bind fun t343 => (if t343 = true then (impl_Skip.l0 k l0 a1 (l0.length : Int) 0) else (some (-1)))) = some r := h
 clear h
 replace H := Option.bind_eq_some_iff.mp H
 obtain ⟨t343, A30, H⟩ := H
 (try dsimp only at H)
 have A3 := Aside0.mk A30
 clear A30
 by_cases c4 : t343 = true
 ·subst c4
  rw [if_pos rfl] at H
  have H' := Aside0.mk H
  clear H
  go_enter Try.func67, Try.ntmps67
  go_wp2_with (first | ((with_reducible refine gate_callee (f := 71) rfl ?_); refine goesL_ (some 7) rfl rfl Try.func71 (by kernel_rfl) rfl #[.slice A0 l0.length c0, .int .i64 a1] rfl att12_0_2 ?_; (with_reducible refine (impl_placeIn.calls k _ _ l0 a1 true _ ?side1 ?side2 A3.out).mono ?_); (case side1 => repeat (first | exact HR0.out | (with_reducible refine Kd.C_alloc ?_ _) | (with_reducible refine Kd.C_drewN ?_ _) | (with_reducible refine Kd.C_drew ?_))); (case side2 => exact HC0.out); rintro e w5 ⟨rfl, hb⟩; refine ⟨_, rfl, ?_⟩; have n0_ := Aside0.mk (below_step att12_0_0 hb); clear HB; have HB := n0_; clear n0_; (try clear hb); (try clear hb2); (try clear hk); (try clear hi)))
  go_loopg [1, 11] k (fun kq v1 v11 w' => ∃ (x1_1 : Int) (x11_1 : Int), v1 = .int .i64 x1_1 ∧ v11 = .int .i64 x11_1 ∧ Aside0 (impl_Skip.l0 kq l0 x1_1 (l0.length : Int) x11_1 = some r) ∧ Aside0 (kq ≤ k) ∧ Aside0 (Below w.heap.size w w'))
  case atStart => exact ⟨(a1), (0), att12_0_5, att12_0_5, H', ⟨Nat.le_refl _⟩, ⟨att12_0_0⟩⟩
  case round =>
   clear H'
   try clear p2
   try clear c4
   obtain ⟨x1_1, x11_1, rfl, rfl, HA, HK1, HB⟩ := hrel
   cases gk with
   | zero => exact absurd HA.out (by simp [impl_Skip.l0])
   | succ k1 =>
    have H := HA.out
    clear HA
    simp only [impl_Skip.l0] at H
    by_cases c6 : x11_1 < (l0.length : Int)
    ·rw [if_pos c6] at H
     have c6b0 : decide (x11_1 < (l0.length : Int)) = true := decide_eq_true c6
     clear c6
     by_cases c7 : 0 ≤ x1_1
     ·rw [if_pos c7] at H
      have c7b0 : decide (0 ≤ x1_1) = true := decide_eq_true c7
      clear c7
      by_cases c8 : x1_1 < (l0.length : Int)
      ·rw [if_pos c8] at H
       have c8b0 : decide (x1_1 < (l0.length : Int)) = true := decide_eq_true c8
       clear c8
       by_cases c9 : ((rd_T63 l0 x1_1).f0) = 11
       ·rw [if_pos c9] at H
        have c9b0 : (((rd_T63 l0 x1_1).f0) == 11) = true := beq_iff_eq.mpr c9
        have c9b1 : (((rd_T63 l0 x1_1).f0) != 11) = false := bne_eq_false_iff_eq.mpr c9
        clear c9
        have H' := Aside0.mk H
        clear H
        have p344 : 0 ≤ (x1_1 : Int) := of_decide_eq_true att12_0_3
        have q344 : x1_1 < (l0.length : Int) := of_decide_eq_true att12_0_3
        obtain ⟨ad344, e344, hx344_0, hx344_1, hx344_2, hx344_3, hx344_4⟩ := at_T63 HR0.out x1_1 p344 q344
        cases e344
        replace hx344_0 := (HB.out.cell (World.block_lt_of_cell? w _ hx344_0)).trans hx344_0
        replace hx344_1 := (HB.out.cell (World.block_lt_of_cell? w _ hx344_1)).trans hx344_1
        replace hx344_2 := (HB.out.cell (World.block_lt_of_cell? w _ hx344_2)).trans hx344_2
        replace hx344_3 := (HB.out.cell (World.block_lt_of_cell? w _ hx344_3)).trans hx344_3
        replace hx344_4 := (HB.out.cell (World.block_lt_of_cell? w _ hx344_4)).trans hx344_4
        replace p344 := eq_true p344
        replace q344 := eq_true q344
        have p345 : 0 ≤ (x1_1 : Int) := of_decide_eq_true att12_0_3
        have q345 : x1_1 < (l0.length : Int) := of_decide_eq_true att12_0_3
        obtain ⟨ad345, e345, hx345_0, hx345_1, hx345_2, hx345_3, hx345_4⟩ := at_T63 HR0.out x1_1 p345 q345
        obtain rfl : ad344 = ad345 := (by injection e345)
        replace hx345_0 := (HB.out.cell (World.block_lt_of_cell? w _ hx345_0)).trans hx345_0
        replace hx345_1 := (HB.out.cell (World.block_lt_of_cell? w _ hx345_1)).trans hx345_1
        replace hx345_2 := (HB.out.cell (World.block_lt_of_cell? w _ hx345_2)).trans hx345_2
        replace hx345_3 := (HB.out.cell (World.block_lt_of_cell? w _ hx345_3)).trans hx345_3
        replace hx345_4 := (HB.out.cell (World.block_lt_of_cell? w _ hx345_4)).trans hx345_4
        replace p345 := eq_true p345
        replace q345 := eq_true q345
        go_wp2
        go_roundg k1
        case measure => have := HK1.out; omega
        case rel => exact ⟨((rd_T63 l0 x1_1).f4), (wrap64 (x11_1 + 1)), att12_0_5, att12_0_5, H', ⟨by have := HK1.out; omega⟩, ⟨att12_0_0⟩⟩
       ·rw [if_neg c9] at H
        have c9b0 : (((rd_T63 l0 x1_1).f0) == 11) = false := beq_eq_false_iff_ne.mpr c9
        have c9b1 : (((rd_T63 l0 x1_1).f0) != 11) = true := bne_iff_ne.mpr c9
        have H' := Aside0.mk H
        clear H
        have p344 : 0 ≤ (x1_1 : Int) := of_decide_eq_true att12_0_3
        have q344 : x1_1 < (l0.length : Int) := of_decide_eq_true att12_0_3
        obtain ⟨ad344, e344, hx344_0, hx344_1, hx344_2, hx344_3, hx344_4⟩ := at_T63 HR0.out x1_1 p344 q344
        cases e344
        replace hx344_0 := (HB.out.cell (World.block_lt_of_cell? w _ hx344_0)).trans hx344_0
        replace hx344_1 := (HB.out.cell (World.block_lt_of_cell? w _ hx344_1)).trans hx344_1
        replace hx344_2 := (HB.out.cell (World.block_lt_of_cell? w _ hx344_2)).trans hx344_2
        replace hx344_3 := (HB.out.cell (World.block_lt_of_cell? w _ hx344_3)).trans hx344_3
        replace hx344_4 := (HB.out.cell (World.block_lt_of_cell? w _ hx344_4)).trans hx344_4
        replace p344 := eq_true p344
        replace q344 := eq_true q344
        go_wp2
        go_roundg k1
        case measure => have := HK1.out; omega
        case rel => exact ⟨(x1_1), (wrap64 (x11_1 + 1)), att12_0_5, att12_0_5, H', ⟨by have := HK1.out; omega⟩, ⟨att12_0_0⟩⟩
      ·rw [if_neg c8] at H
       exact absurd H (by simp)
     ·rw [if_neg c7] at H
      exact absurd H (by simp)
    ·rw [if_neg c6] at H
     have c6b0 : decide (x11_1 < (l0.length : Int)) = false := decide_eq_false c6
     clear c6
     obtain rfl := Option.some.inj H
     go_wp2
     go_ret
     exact ⟨by first | rfl | (simp [errW_none, errW_some] <;> rfl) | (simp [*, errW_none, errW_some] <;> rfl), att12_0_0⟩
 ·replace c4 := Bool.eq_false_iff.mpr c4
  subst c4
  rw [if_neg (show ¬ (false = true) by decide)] at H
  obtain rfl := Option.some.inj H
  go_enter Try.func67, Try.ntmps67
  go_wp2_with (first | ((with_reducible refine gate_callee (f := 71) rfl ?_); refine goesL_ (some 7) rfl rfl Try.func71 (by kernel_rfl) rfl #[.slice A0 l0.length c0, .int .i64 a1] rfl att12_0_2 ?_; (with_reducible refine (impl_placeIn.calls k _ _ l0 a1 false _ ?side1 ?side2 A3.out).mono ?_); (case side1 => repeat (first | exact HR0.out | (with_reducible refine Kd.C_alloc ?_ _) | (with_reducible refine Kd.C_drewN ?_ _) | (with_reducible refine Kd.C_drew ?_))); (case side2 => exact HC0.out); rintro e w10 ⟨rfl, hb⟩; refine ⟨_, rfl, ?_⟩; have n0_ := Aside0.mk (below_step att12_0_0 hb); clear HB; have HB := n0_; clear n0_; (try clear hb); (try clear hb2); (try clear hk); (try clear hi)))
  go_ret
  exact ⟨by first | rfl | (simp [errW_none, errW_some] <;> rfl) | (simp [*, errW_none, errW_some] <;> rfl), att12_0_0⟩

/-! ### slices_Sort_int_int: function 86 -/
def soRen : Go.Shelf.Ren := ⟨fun n => if n = 125 then 121 else if n = 128 then 139 else if n = 129 then 140 else if n = 189 then 86 else if n = 215 then 151 else if n = 216 then 136 else if n = 257 then 120 else if n = 294 then 130 else if n = 295 then 131 else if n = 296 then 132 else if n = 297 then 133 else if n = 298 then 134 else if n = 299 then 135 else if n = 300 then 137 else if n = 301 then 138 else if n = 328 then 146 else if n = 329 then 147 else if n = 330 then 148 else if n = 331 then 149 else if n = 332 then 150 else if n = 343 then 152 else n, fun n => if n = 0 then 0 else if n = 3 then 3 else if n = 4 then 4 else if n = 5 then 5 else if n = 9 then 9 else if n = 28 then 34 else if n = 46 then 104 else if n = 51 then 120 else if n = 53 then 122 else if n = 131 then 117 else if n = 182 then 111 else if n = 183 then 112 else if n = 218 then 127 else if n = 222 then 131 else if n = 228 then 133 else if n = 229 then 134 else n, fun n => n⟩
theorem soL : Go.Proofs.Lays.n189 Try.prog soRen where
 mixed := by kernel_rfl
 f125 := by kernel_rfl
 f128 := by kernel_rfl
 f129 := by kernel_rfl
 f189 := by kernel_rfl
 f215 := by kernel_rfl
 f216 := by kernel_rfl
 f257 := by kernel_rfl
 f294 := by kernel_rfl
 f295 := by kernel_rfl
 f296 := by kernel_rfl
 f297 := by kernel_rfl
 f298 := by kernel_rfl
 f299 := by kernel_rfl
 f300 := by kernel_rfl
 f301 := by kernel_rfl
 f328 := by kernel_rfl
 f329 := by kernel_rfl
 f330 := by kernel_rfl
 f331 := by kernel_rfl
 f332 := by kernel_rfl
 f343 := by kernel_rfl
 t0 := by kernel_rfl
 a0 := fun _ => by kernel_rfl
 z0 := fun _ => by kernel_rfl
 v0 := fun _ => by kernel_rfl
 t3 := by kernel_rfl
 a3 := fun _ => by kernel_rfl
 z3 := fun _ => by kernel_rfl
 v3 := fun _ => by kernel_rfl
 t4 := by kernel_rfl
 a4 := fun _ => by kernel_rfl
 z4 := fun _ => by kernel_rfl
 v4 := fun _ => by kernel_rfl
 t5 := by kernel_rfl
 a5 := fun _ => by kernel_rfl
 z5 := fun _ => by kernel_rfl
 v5 := fun _ => by kernel_rfl
 t9 := by kernel_rfl
 a9 := fun _ => by kernel_rfl
 z9 := fun _ => by kernel_rfl
 v9 := fun _ => by kernel_rfl
 t28 := by kernel_rfl
 a28 := fun _ => by kernel_rfl
 z28 := fun _ => by kernel_rfl
 v28 := fun _ => by kernel_rfl
 t46 := by kernel_rfl
 a46 := fun _ => by kernel_rfl
 z46 := fun _ => by kernel_rfl
 v46 := fun _ => by kernel_rfl
 t51 := by kernel_rfl
 a51 := fun _ => by kernel_rfl
 z51 := fun _ => by kernel_rfl
 v51 := fun _ => by kernel_rfl
 t53 := by kernel_rfl
 a53 := fun _ => by kernel_rfl
 z53 := fun _ => by kernel_rfl
 v53 := fun _ => by kernel_rfl
 t131 := by kernel_rfl
 a131 := fun _ => by kernel_rfl
 z131 := fun _ => by kernel_rfl
 v131 := fun _ => by kernel_rfl
 t182 := by kernel_rfl
 a182 := fun _ => by kernel_rfl
 z182 := fun _ => by kernel_rfl
 v182 := fun _ => by kernel_rfl
 t183 := by kernel_rfl
 a183 := fun _ => by kernel_rfl
 z183 := fun _ => by kernel_rfl
 v183 := fun _ => by kernel_rfl
 t218 := by kernel_rfl
 a218 := fun _ => by kernel_rfl
 z218 := fun _ => by kernel_rfl
 v218 := fun _ => by kernel_rfl
 t222 := by kernel_rfl
 a222 := fun _ => by kernel_rfl
 z222 := fun _ => by kernel_rfl
 v222 := fun _ => by kernel_rfl
 t228 := by kernel_rfl
 a228 := fun _ => by kernel_rfl
 z228 := fun _ => by kernel_rfl
 v228 := fun _ => by kernel_rfl
 t229 := by kernel_rfl
 a229 := fun _ => by kernel_rfl
 z229 := fun _ => by kernel_rfl
 v229 := fun _ => by kernel_rfl
/-- Numbers written one behind the other into an own row. -/
theorem so_cells (P0_ : Nat → Prop) (g c b : Nat) (w0 : World) (hb : w0.heap.size ≤ g) (hP : P0_ g) : ∀ (ys : List Int) (o : Nat) (xs : List Int) (w w1 : World), o + ys.length ≤ xs.length → Kd.R (Kd.int .i64) 3 w1 b P0_ (.slice (some ⟨g, 0, none⟩) xs.length c) xs → Below w0.heap.size w0 w1 → Kept w w1 (fun k_ => P0_ k_) →
  Kd.R (Kd.int .i64) 3 (w1.setCells g o (ys.map (Value.int .i64))) b P0_ (.slice (some ⟨g, 0, none⟩) xs.length c) (xs.take o ++ ys ++ xs.drop (o + ys.length)) ∧ Below w0.heap.size w0 (w1.setCells g o (ys.map (Value.int .i64))) ∧ Kept w (w1.setCells g o (ys.map (Value.int .i64))) (fun k_ => P0_ k_) := by
 intro ys
 induction ys with
 | nil =>
  intro o xs w w1 h hR hB hK
  simpa [World.setCells] using ⟨hR, hB, hK⟩
 | cons y ys ih =>
  intro o xs w w1 h hR hB hK
  have h1 := (Kd.R_putg (i := (o : Int)) (x := y) hR).1
  rw [Int.toNat_natCast] at h1
  have hl : (xs.set o y).length = xs.length := List.length_set
  have h2 := ih (o + 1) (xs.set o y) w _ (by rw [hl]; simp at h; omega) (by rw [hl]; exact h1) (below_set hB hb) (Kept.setCell hK (.inl hP) _)
  rw [hl] at h2
  have e : (xs.set o y).take (o + 1) ++ ys ++ (xs.set o y).drop (o + 1 + ys.length) = xs.take o ++ (y :: ys) ++ xs.drop (o + (y :: ys).length) := by
   simp only [List.length_cons] at h
   rw [List.drop_set, if_pos (by omega), show o + (y :: ys).length = o + 1 + ys.length by simp; omega]
   congr 1
   rw [List.take_add_one, List.take_set, List.set_eq_of_length_le (by simp; omega), List.getElem?_set_self (by omega)]
   simp
  rw [e] at h2
  exact h2
theorem so_holds {P0_ : Nat → Prop} {l0 : List Int} {w : World} {b g c : Nat} (ho0 : Kd.R (Kd.int .i64) 3 w b P0_ (.slice (some ⟨g, 0, none⟩) l0.length c) l0) : Go.Sort.Holds (Value.int .i64) w g 0 l0.toArray := by
 intro j hj
 have hj' : j < l0.length := by simpa using hj
 obtain ⟨cs, hcs, hM, hcc, hff⟩ := Kd.R_elem ho0 (0 : Int) (j : Int) (Int.natCast_nonneg _) (by omega)
 obtain rfl : cs = [.int .i64 (l0.getD (j : Int).toNat 0)] := hM
 have a1 := hcc 0 _ rfl
 have a2 := hff 0
 rw [Int.toNat_natCast, show (Kd.int .i64).sz = 1 from rfl, Nat.mul_one, Nat.add_zero] at a1 a2
 rw [Nat.zero_add]
 refine ⟨a1.trans ?_, a2⟩
 simp [List.getD_eq_getElem?_getD, List.getElem?_eq_getElem hj', getElem!_pos, hj]
def sorted (l : List Int) : List Int := l.mergeSort fun x y => decide (x ≤ y)
theorem so_grow (w : World) (os : Array Obj) : Below w.heap.size w (Go.Sort.grow w os) ∧ ∀ S : Nat → Prop, Kept w (Go.Sort.grow w os) S := by
 have h1 : w.heap.size ≤ (Go.Sort.grow w os).heap.size := by rw [Go.Sort.size_grow]; omega
 have h2 : ∀ k, k < w.heap.size → (Go.Sort.grow w os).heap[k]? = w.heap[k]? := fun k hk => Go.Sort.heap_grow_old w os hk
 exact ⟨⟨rfl, rfl, rfl, h1, h2⟩, fun S => ⟨h1, fun k hk _ => h2 k hk⟩⟩
def slices_Sort_int_int.f (l0 : List Int) : Option (List Int) := if l0.length ≤ 1000000 then some (sorted l0) else none
theorem slices_Sort_int_int.calls (P0_ : Nat → Prop) (u9000_ : Value) (l0 : List Int) (r : List Int) (w0 w : World) (hB : Below w0.heap.size w0 w) (ho0 : Kd.R (Kd.int .i64) 3 w w0.heap.size P0_ u9000_ l0) (h : slices_Sort_int_int.f l0 = some r) :
  Calls Try.prog 86 #[u9000_] w fun e w' => e = .returned (.tuple #[]) ∧ Kd.R (Kd.int .i64) 3 w' w0.heap.size (fun k_ => (P0_ k_ ∨ w.heap.size ≤ k_)) u9000_ r ∧ Below w0.heap.size w0 w' ∧ Kept w w' (fun k_ => P0_ k_) := by
 unfold slices_Sort_int_int.f at h
 by_cases hn : l0.length ≤ 1000000
 ·rw [if_pos hn] at h
  obtain rfl := Option.some.inj h
  rcases Nat.eq_zero_or_pos l0.length with h0 | hp
  ·obtain rfl : l0 = [] := List.eq_nil_of_length_eq_zero h0
   obtain ⟨A, c, e⟩ := Kd.R_slice ho0
   subst e
   refine (Any.slices_Sort_int_none soL A c w).mono ?_
   rintro e w' ⟨rfl, rfl⟩
   exact ⟨rfl, by rw [show sorted ([] : List Int) = [] by simp [sorted]]; exact Kd.R_mono ho0 (fun k hk => .inl hk), hB, Kept.refl _ _⟩
  ·obtain ⟨g, c, e, hg, hlt, cl, hcl⟩ := Kd.R_form ho0 hp
   subst e
   have hP : P0_ g := ho0.1 _ rfl
   have hH := so_holds ho0
   refine (Any.slices_Sort_int soL g 0 c l0 w hH hlt (by omega)).mono ?_
   rintro e w' ⟨rfl, q, os, rfl⟩
   have hle : (sorted l0).length = l0.length := List.length_mergeSort l0
   have hrow := Lib.putRow_eq_setCells (Value.int .i64) w g 0 l0.toArray (sorted l0) q hH (by simp [hle])
   unfold sorted at hrow
   rw [hrow]
   obtain ⟨a1, a2, a3⟩ := so_cells P0_ g c w0.heap.size w0 hg hP (sorted l0) 0 l0 w (w.drewN q) (by rw [hle]; omega) (Kd.R_drewN ho0 q) (pw_below_drewN hB q) (Kept.drewN (Kept.refl _ _) q)
   unfold sorted at a1 a2 a3
   obtain ⟨b1, b2⟩ := so_grow ((w.drewN q).setCells g 0 (List.map (Value.int .i64) (l0.mergeSort fun x y => decide (x ≤ y)))) os
   refine ⟨rfl, ?_, below_step a2 b1, a3.below b1⟩
   have e1 : l0.take 0 ++ (l0.mergeSort fun x y => decide (x ≤ y)) ++ l0.drop (0 + (l0.mergeSort fun x y => decide (x ≤ y)).length) = sorted l0 := by
    have : (l0.mergeSort fun x y => decide (x ≤ y)).length = l0.length := List.length_mergeSort l0
    rw [this]
    simp [sorted]
   rw [e1] at a1
   exact Kd.R_mono (Kd.R_below a1 b1) (fun k hk => .inl hk)
 ·rw [if_neg hn] at h
  cases h


/-! ### slices_Compact_int_int: function 87 -/
def cpRen : Go.Shelf.Ren := ⟨fun n => if n = 20 then 87 else n, fun n => if n = 3 then 3 else if n = 4 then 4 else if n = 22 then 34 else n, fun n => n⟩
theorem cpL : Go.Proofs.Lays2.n20 Try.prog cpRen where
 mixed := by kernel_rfl
 f20 := by kernel_rfl
 t0 := by kernel_rfl
 a0 := fun _ => by kernel_rfl
 z0 := fun _ => by kernel_rfl
 v0 := fun _ => by kernel_rfl
 t3 := by kernel_rfl
 a3 := fun _ => by kernel_rfl
 z3 := fun _ => by kernel_rfl
 v3 := fun _ => by kernel_rfl
 t4 := by kernel_rfl
 a4 := fun _ => by kernel_rfl
 z4 := fun _ => by kernel_rfl
 v4 := fun _ => by kernel_rfl
 t22 := by kernel_rfl
 a22 := fun _ => by kernel_rfl
 z22 := fun _ => by kernel_rfl
 v22 := fun _ => by kernel_rfl
 i3 := by kernel_rfl
def slices_Compact_int_int.f (l0 : List Int) : Option (List Int) := if l0.length ≤ 1000000 then some (Lib.compact l0) else none
theorem slices_Compact_int_int.calls (P0_ : Nat → Prop) (u9000_ : Value) (l0 : List Int) (r : List Int) (w0 w : World) (hB : Below w0.heap.size w0 w) (ho0 : Kd.R (Kd.int .i64) 3 w w0.heap.size P0_ u9000_ l0) (h : slices_Compact_int_int.f l0 = some r) :
  Calls Try.prog 87 #[u9000_] w fun e w' => ∃ v0_ : Value, e = .returned v0_ ∧ Kd.R (Kd.int .i64) 3 w' w0.heap.size (fun k_ => (P0_ k_ ∨ w.heap.size ≤ k_)) v0_ r ∧ Below w0.heap.size w0 w' ∧ Kept w w' (fun k_ => P0_ k_) := by
 unfold slices_Compact_int_int.f at h
 by_cases hn : l0.length ≤ 1000000
 ·rw [if_pos hn] at h
  obtain rfl := Option.some.inj h
  rcases Nat.eq_zero_or_pos l0.length with h0 | hp
  ·obtain rfl : l0 = [] := List.eq_nil_of_length_eq_zero h0
   obtain ⟨A, c, e⟩ := Kd.R_slice ho0
   subst e
   refine (Any.slices_Compact_int_empty cpL A c w).mono ?_
   rintro e w' ⟨rfl, rfl⟩
   exact ⟨_, rfl, Kd.R_mono ho0 (fun k hk => .inl hk), hB, Kept.refl _ _⟩
  ·obtain ⟨g, c, e, hg, hlt, cl, hcl⟩ := Kd.R_form ho0 hp
   subst e
   have hP : P0_ g := ho0.1 _ rfl
   have hc := (Kd.R_reads' ho0).2.1
   have hH := so_holds ho0
   refine (Any.slices_Compact_int cpL g 0 c l0 w hH (by omega) hc).mono ?_
   rintro e w' ⟨rfl, q, rfl⟩
   have hle := Lib.compact_length_le l0
   rw [Lib.putRow_eq_setCells (Value.int .i64) w g 0 l0.toArray _ q hH (by simp; omega)]
   obtain ⟨a1, a2, a3⟩ := so_cells P0_ g c w0.heap.size w0 hg hP (Lib.compact l0 ++ List.replicate (l0.length - (Lib.compact l0).length) 0) 0 l0 w (w.drewN q) (by simp; omega) (Kd.R_drewN ho0 q) (pw_below_drewN hB q) (Kept.drewN (Kept.refl _ _) q)
   refine ⟨_, rfl, ?_, a2, a3⟩
   have a4 := Kd.R_take (m := (Lib.compact l0).length) a1 (by simp)
   simp only [List.take_zero, List.nil_append, List.append_assoc, List.take_left'] at a4
   exact Kd.R_mono a4 (fun k hk => .inl hk)
 ·rw [if_neg hn] at h
  cases h

end Go.Proofs.Ytocimkpafakiaaa.XFnExactPackProg
