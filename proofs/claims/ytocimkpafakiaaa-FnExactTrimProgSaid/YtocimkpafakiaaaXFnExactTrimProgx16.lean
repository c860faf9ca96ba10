/- Each Go function that the law reaches as a Lean function, and that Go comes to just its answer; written by this session's xprint.py over the kit's printer. -/
import Derived.Shelf.Sort.Plain
import Derived.Shelf.Slices.In.SortNone
import Derived.Lib.RowBridge
import Derived.Shelf.Slices.CompactI
import Derived.Lib.RowBridge
import Derived.Test.YtocimkpafakiaaaXFnExactTrimProgx0
import Derived.Test.YtocimkpafakiaaaXFnExactTrimProgx14
import Derived.Test.YtocimkpafakiaaaXFnExactTrimProgx15
namespace Go.Proofs.Ytocimkpafakiaaa.XFnExactTrimProg
open Go.RowKit Go.Proofs.YtocimkpafakiaaaW.PrintWords Go.Proofs.YtocimkpafakiaaaW.PrintLast Go.Proofs.YtocimkpafakiaaaW.PrintMore
attribute [local go_sem] max2_int min2_int max_two min_two max_three min_three max_four min_four   -- for this text's walks alone
set_option linter.unusedVariables false
set_option linter.unusedSimpArgs false

theorem att17_0_1 {p : Prop} (h : p := by (with_reducible repeat (first | refine blk_drewN ?_ _ | refine blk_drew ?_ | refine blk_alloc ?_ _)); refine blk_put (cs := #[.int .i64 ((rd_T63 l0 x19_2).f0), .int .i64 ((rd_T63 l0 x19_2).f1), .int .i64 ((rd_T63 l0 x19_2).f2), .int .i64 ((rd_T63 l0 x19_2).f3), .int .i64 0]) ?_ 4 _ rfl; (with_reducible repeat (first | refine blk_drewN ?_ _ | refine blk_drew ?_ | refine blk_alloc ?_ _)); refine blk_put (cs := #[.int .i64 ((rd_T63 l0 x19_2).f0), .int .i64 ((rd_T63 l0 x19_2).f1), .int .i64 ((rd_T63 l0 x19_2).f2), .int .i64 0, .int .i64 0]) ?_ 3 _ rfl; (with_reducible repeat (first | refine blk_drewN ?_ _ | refine blk_drew ?_ | refine blk_alloc ?_ _)); refine blk_put (cs := #[.int .i64 ((rd_T63 l0 x19_2).f0), .int .i64 ((rd_T63 l0 x19_2).f1), .int .i64 0, .int .i64 0, .int .i64 0]) ?_ 2 _ rfl; (with_reducible repeat (first | refine blk_drewN ?_ _ | refine blk_drew ?_ | refine blk_alloc ?_ _)); refine blk_put (cs := #[.int .i64 ((rd_T63 l0 x19_2).f0), .int .i64 0, .int .i64 0, .int .i64 0, .int .i64 0]) ?_ 1 _ rfl; (with_reducible repeat (first | refine blk_drewN ?_ _ | refine blk_drew ?_ | refine blk_alloc ?_ _)); refine blk_put (cs := #[.int .i64 0, .int .i64 0, .int .i64 0, .int .i64 0, .int .i64 0]) ?_ 0 _ rfl; (with_reducible repeat (first | refine blk_drewN ?_ _ | refine blk_drew ?_ | refine blk_alloc ?_ _)); exact BK447.out) : p := h
theorem att17_0_2 {p : Prop} (h : p := by repeat (first | (with_reducible first | exact HB.out | apply below_alloc | apply pw_below_drewN | apply below_drew1 | refine below_set ?_ GE447.out) | exact HB.out)) : p := h
theorem att17_0_6 {p : Prop} (h : p := by repeat (first | exact Below.refl _ _ | apply below_alloc)) : p := h
/-! ### impl_BodyOk: function 34 -/
mutual
def impl_BodyOk.j0 : Nat → List (S63) → Int → Bool → Option (Bool)
 | 0, _, _, _ => none
 | k + 1, x0, x1, x16 => if x16 = true then (some false) else (impl_BodyOk.l0 k x0 x1 x0 (x0.length : Int) 0)
def impl_BodyOk.l0 : Nat → List (S63) → Int → List (S63) → Int → Int → Option (Bool)
 | 0, _, _, _, _, _ => none
 | k + 1, x0, x1, x17, x18, x19 => if x19 < x18 then (if 0 ≤ x19 then (if x19 < (x17.length : Int) then ((impl_InsOk.f k ((rd_T63 x17 x19).f0) ((rd_T63 x17 x19).f1) ((rd_T63 x17 x19).f2) ((rd_T63 x17 x19).f3) ((rd_T63 x17 x19).f4) (x0.length : Int) x1).bind fun t448 => (if t448 = true then (impl_BodyOk.l0 k x0 x1 x17 x18 (wrap64 (x19 + 1))) else (some false))) else (none)) else (none)) else (if 0 ≤ (wrap64 ((x0.length : Int) - 1)) then (if (wrap64 ((x0.length : Int) - 1)) < (x0.length : Int) then (if ((rd_T63 x0 (wrap64 ((x0.length : Int) - 1))).f0) = 13 then (some true) else (some (((rd_T63 x0 (wrap64 ((x0.length : Int) - 1))).f0) == 11))) else (none)) else (none))
end
def impl_BodyOk.f (k : Nat) (l0 : List (S63)) (a1 : Int) : Option (Bool) := (impl_within.f a1 0 3).bind fun t444 => (if t444 = true then ((impl_within.f (l0.length : Int) 1 24).bind fun t445 => (impl_BodyOk.j0 k l0 a1 (!t445))) else (impl_BodyOk.j0 k l0 a1 true))
theorem impl_BodyOk.mono_l : ∀ k, (∀ y0 y1 y2, LeO (impl_BodyOk.j0 k y0 y1 y2) (impl_BodyOk.j0 (k + 1) y0 y1 y2)) ∧ (∀ y0 y1 y2 y3 y4, LeO (impl_BodyOk.l0 k y0 y1 y2 y3 y4) (impl_BodyOk.l0 (k + 1) y0 y1 y2 y3 y4))
 | 0 => ⟨fun _ _ _ r h => by simp [impl_BodyOk.j0] at h, fun _ _ _ _ _ r h => by simp [impl_BodyOk.l0] at h⟩
 | k + 1 => by
  obtain ⟨ih0, ih1⟩ := impl_BodyOk.mono_l k
  refine ⟨?_, ?_⟩
  all_goals intros
  all_goals first | unfold impl_BodyOk.j0 | unfold impl_BodyOk.l0
  all_goals repeat' (with_reducible first | exact ih0 .. | exact ih1 .. | exact impl_InsOk.mono .. | exact LeO.refl _ | exact LeO.none _ | refine LeO.ite ?_ ?_ | refine LeO.bind ?_ (fun _ => ?_))
theorem impl_BodyOk.mono : ∀ a0 a1 k, LeO (impl_BodyOk.f k a0 a1) (impl_BodyOk.f (k + 1) a0 a1) := by
 intro a0 a1 k
 obtain ⟨ih0, ih1⟩ := impl_BodyOk.mono_l k
 unfold impl_BodyOk.f
 repeat' (with_reducible first | exact ih0 .. | exact ih1 .. | exact impl_InsOk.mono .. | exact LeO.refl _ | exact LeO.none _ | refine LeO.ite ?_ ?_ | refine LeO.bind ?_ (fun _ => ?_))
set_option maxHeartbeats 80000000 in
set_option maxRecDepth 100000 in
theorem impl_BodyOk.calls (k : Nat) (A0 : Option Addr) (c0 : Nat) (l0 : List (S63)) (a1 : Int) (r : Bool) (w : World) (hr0 : Kd.C k63 w A0 l0.length l0) (hc0 : l0.length ≤ c0) (h : impl_BodyOk.f k l0 a1 = some r) :
  Calls Try.prog 34 #[.slice A0 l0.length c0, .int .i64 a1] w fun e w' => e = .returned (.bool r) ∧ Below w.heap.size w w' := by
 have hu63 := Try.underlying63
 have HR0 := Aside0.mk hr0
 have HC0 := Aside0.mk hc0
 clear hr0 hc0
 have HB := Aside0.mk (Below.refl w.heap.size w)
 have H : ((impl_within.f a1 0 3).bind fun t444 => (if t444 = true then ((impl_within.f (l0.length : Int) 1 24).bind fun t445 => (impl_BodyOk.j0 k l0 a1 (!t445))) else (impl_BodyOk.j0 k l0 a1 true))) = some r := h
 clear h
 have HC3 := Aside0.mk H
 clear H
 go_enter Try.func34, Try.ntmps34
 go_upto_region 1 with (fail)
 go_cut [16] (fun v16 wc => ∃ (kq : Nat) (x16_2 : Bool), v16 = .bool x16_2 ∧ Aside0 (impl_BodyOk.j0 kq l0 a1 x16_2 = some r) ∧ Aside0 (kq ≤ k) ∧ Aside0 (Below w.heap.size w wc))
 case first =>
  have H := HC3.out
  clear HC3
  replace H := Option.bind_eq_some_iff.mp H
  obtain ⟨t444, A40, H⟩ := H
  (try dsimp only at H)
  have A4 := Aside0.mk A40
  clear A40
  by_cases c5 : t444 = true
  ·subst c5
   rw [if_pos rfl] at H
   replace H := Option.bind_eq_some_iff.mp H
   obtain ⟨t445, A60, H⟩ := H
   (try dsimp only at H)
   have A6 := Aside0.mk A60
   clear A60
   have H' := Aside0.mk H
   clear H
   go_wp2_with (first | ((with_reducible refine gate_callee (f := 79) rfl ?_); refine goesL_ (some 9) rfl rfl Try.func79 (by kernel_rfl) rfl #[.int .i64 a1, .int .i64 0, .int .i64 3] rfl atgM_ ?_; (with_reducible refine (impl_within.calls a1 0 3 true _ A4.out).mono ?_); rintro e w' ⟨rfl, ⟨nd, rfl⟩⟩; refine ⟨_, rfl, ?_⟩) | (go_at_call 79; (with_reducible refine (impl_within.calls (l0.length : Int) 1 24 t445 _ A6.out).mono ?_); rintro e w' ⟨rfl, ⟨nd, rfl⟩⟩))
   go_meet
   case rel => exact ⟨_, (!t445), atgR_, H', ⟨by first | omega | exact Nat.le_refl _⟩, ⟨atgB_⟩⟩
  ·replace c5 := Bool.eq_false_iff.mpr c5
   subst c5
   rw [if_neg (show ¬ (false = true) by decide)] at H
   have H' := Aside0.mk H
   clear H
   go_wp2_with (first | ((with_reducible refine gate_callee (f := 79) rfl ?_); refine goesL_ (some 9) rfl rfl Try.func79 (by kernel_rfl) rfl #[.int .i64 a1, .int .i64 0, .int .i64 3] rfl atgM_ ?_; (with_reducible refine (impl_within.calls a1 0 3 false _ A4.out).mono ?_); rintro e w' ⟨rfl, ⟨nd, rfl⟩⟩; refine ⟨_, rfl, ?_⟩))
   go_meet
   case rel => exact ⟨_, (true), atgR_, H', ⟨by first | omega | exact Nat.le_refl _⟩, ⟨atgB_⟩⟩
 case rest =>
  clear HC3
  try clear p2
  try clear c3
  try clear c5
  obtain ⟨kq, x16_2, rfl, HA, HJ2, HB⟩ := hcut
  cases kq with
  | zero => exact absurd HA.out (by simp [impl_BodyOk.j0])
  | succ kj2 =>
   have H := HA.out
   clear HA
   simp only [impl_BodyOk.j0] at H
   by_cases c7 : x16_2 = true
   ·subst c7
    rw [if_pos rfl] at H
    obtain rfl := Option.some.inj H
    go_wp2
    go_ret
    exact ⟨retT_, atgB_⟩
   ·replace c7 := Bool.eq_false_iff.mpr c7
    subst c7
    rw [if_neg (show ¬ (false = true) by decide)] at H
    have H' := Aside0.mk H
    clear H
    go_wp2
    go_loopg [19] kj2 (fun kq v19 w' => ∃ (x19_2 : Int), v19 = .int .i64 x19_2 ∧ Aside0 (impl_BodyOk.l0 kq l0 a1 l0 (l0.length : Int) x19_2 = some r) ∧ Aside0 (kq ≤ kj2) ∧ Aside0 (Below w.heap.size w w'))
    case atStart => exact ⟨(0), atgR_, H', ⟨Nat.le_refl _⟩, ⟨atgB_⟩⟩
    case round =>
     clear H'
     try clear p2
     try clear c3
     try clear c5
     try clear c7
     try clear p2
     obtain ⟨x19_2, rfl, HA, HK2, HB⟩ := hrel
     cases gk with
     | zero => exact absurd HA.out (by simp [impl_BodyOk.l0])
     | succ k2 =>
      have H := HA.out
      clear HA
      simp only [impl_BodyOk.l0] at H
      by_cases c8 : x19_2 < (l0.length : Int)
      ·rw [if_pos c8] at H
       have c8b0 := decide_eq_true c8
       clear c8
       by_cases c9 : 0 ≤ x19_2
       ·rw [if_pos c9] at H
        have c9b0 := decide_eq_true c9
        clear c9
        by_cases c10 : x19_2 < (l0.length : Int)
        ·rw [if_pos c10] at H
         have c10b0 := decide_eq_true c10
         clear c10
         replace H := Option.bind_eq_some_iff.mp H
         obtain ⟨t448, A110, H⟩ := H
         (try dsimp only at H)
         have A11 := Aside0.mk A110
         clear A110
         by_cases c12 : t448 = true
         ·subst c12
          rw [if_pos rfl] at H
          have H' := Aside0.mk H
          clear H
          have p446 : 0 ≤ (x19_2 : Int) := of_decide_eq_true atgA_
          have q446 : x19_2 < (l0.length : Int) := of_decide_eq_true atgA_
          obtain ⟨ad446, e446, hx446_0, hx446_1, hx446_2, hx446_3, hx446_4⟩ := at5B_ HB (at_T63 HR0.out x19_2 p446 q446)
          cases e446
          replace p446 := eq_true p446
          replace q446 := eq_true q446
          go_wp2_with (first | ((with_reducible refine gate_dst (N := 6) rfl ?_); (try (refine gate_guard (by rfl) ?_; dsimp only)); refine box_event ?hg (N := 6) ?hd (cs := #[.int .i64 0, .int .i64 0, .int .i64 0, .int .i64 0, .int .i64 0]) (t := 63) ?hr ?_; (case hd => rfl); (case hg => rfl); (case hr => first | (go_simp; done) | (go_simp; rfl)); intro gb447 hg w13 hbox hb; refine swap4_ (below_step atgB_ hb) (hbox) ((by rw [hg]; exact (below_size atgB_) : w.heap.size ≤ gb447)) ((by rw [hg]; exact (below_size atgB_) : w.heap.size ≤ gb447)) ?_; clear HB; intro HB BK447 GW447 GE447; clear hb hbox hg; obtain ⟨hcz14_0, hcz14_1, hcz14_2, hcz14_3, hcz14_4, hfz14_0, hfz14_1, hfz14_2, hfz14_3, hfz14_4⟩ := blkB5_ BK447) | ((with_reducible refine gate_callee (f := 80) rfl ?_); refine goesL_ (some 27) rfl rfl Try.func80 (by kernel_rfl) rfl #[.agg #[.int .i64 ((rd_T63 l0 x19_2).f0), .int .i64 ((rd_T63 l0 x19_2).f1), .int .i64 ((rd_T63 l0 x19_2).f2), .int .i64 ((rd_T63 l0 x19_2).f3), .int .i64 ((rd_T63 l0 x19_2).f4)], .int .i64 (l0.length : Int), .int .i64 a1] rfl atgM_ ?_; (with_reducible refine (impl_InsOk.calls k2 ((rd_T63 l0 x19_2).f0) ((rd_T63 l0 x19_2).f1) ((rd_T63 l0 x19_2).f2) ((rd_T63 l0 x19_2).f3) ((rd_T63 l0 x19_2).f4) (l0.length : Int) a1 true _ A11.out).mono ?_); rintro e w15 ⟨rfl, hb⟩; refine ⟨_, rfl, ?_⟩; refine swap2_ (blk_below (g := gb447) (o := .cells #[.int .i64 ((rd_T63 l0 x19_2).f0), .int .i64 ((rd_T63 l0 x19_2).f1), .int .i64 ((rd_T63 l0 x19_2).f2), .int .i64 ((rd_T63 l0 x19_2).f3), .int .i64 ((rd_T63 l0 x19_2).f4)] 63 (0, 0)) att17_0_1 hb) (below_step att17_0_2 hb) ?_; clear BK447 HB; intro BK447 HB; (try clear hb); (try clear hb2); (try clear hk); (try clear hi)))
          go_roundg k2
          case measure => have := HJ2.out; have := HK2.out; omega
          case rel => exact ⟨(wrap64 (x19_2 + 1)), atgR_, H', ⟨by have := HJ2.out; have := HK2.out; omega⟩, ⟨att17_0_2⟩⟩
         ·replace c12 := Bool.eq_false_iff.mpr c12
          subst c12
          rw [if_neg (show ¬ (false = true) by decide)] at H
          obtain rfl := Option.some.inj H
          have p446 : 0 ≤ (x19_2 : Int) := of_decide_eq_true atgA_
          have q446 : x19_2 < (l0.length : Int) := of_decide_eq_true atgA_
          obtain ⟨ad446, e446, hx446_0, hx446_1, hx446_2, hx446_3, hx446_4⟩ := at5B_ HB (at_T63 HR0.out x19_2 p446 q446)
          cases e446
          replace p446 := eq_true p446
          replace q446 := eq_true q446
          go_wp2_with (first | ((with_reducible refine gate_dst (N := 6) rfl ?_); (try (refine gate_guard (by rfl) ?_; dsimp only)); refine box_event ?hg (N := 6) ?hd (cs := #[.int .i64 0, .int .i64 0, .int .i64 0, .int .i64 0, .int .i64 0]) (t := 63) ?hr ?_; (case hd => rfl); (case hg => rfl); (case hr => first | (go_simp; done) | (go_simp; rfl)); intro gb447 hg w16 hbox hb; refine swap4_ (below_step atgB_ hb) (hbox) ((by rw [hg]; exact (below_size atgB_) : w.heap.size ≤ gb447)) ((by rw [hg]; exact (below_size atgB_) : w.heap.size ≤ gb447)) ?_; clear HB; intro HB BK447 GW447 GE447; clear hb hbox hg; obtain ⟨hcz17_0, hcz17_1, hcz17_2, hcz17_3, hcz17_4, hfz17_0, hfz17_1, hfz17_2, hfz17_3, hfz17_4⟩ := blkB5_ BK447) | ((with_reducible refine gate_callee (f := 80) rfl ?_); refine goesL_ (some 27) rfl rfl Try.func80 (by kernel_rfl) rfl #[.agg #[.int .i64 ((rd_T63 l0 x19_2).f0), .int .i64 ((rd_T63 l0 x19_2).f1), .int .i64 ((rd_T63 l0 x19_2).f2), .int .i64 ((rd_T63 l0 x19_2).f3), .int .i64 ((rd_T63 l0 x19_2).f4)], .int .i64 (l0.length : Int), .int .i64 a1] rfl atgM_ ?_; (with_reducible refine (impl_InsOk.calls k2 ((rd_T63 l0 x19_2).f0) ((rd_T63 l0 x19_2).f1) ((rd_T63 l0 x19_2).f2) ((rd_T63 l0 x19_2).f3) ((rd_T63 l0 x19_2).f4) (l0.length : Int) a1 false _ A11.out).mono ?_); rintro e w18 ⟨rfl, hb⟩; refine ⟨_, rfl, ?_⟩; refine swap2_ (blk_below (g := gb447) (o := .cells #[.int .i64 ((rd_T63 l0 x19_2).f0), .int .i64 ((rd_T63 l0 x19_2).f1), .int .i64 ((rd_T63 l0 x19_2).f2), .int .i64 ((rd_T63 l0 x19_2).f3), .int .i64 ((rd_T63 l0 x19_2).f4)] 63 (0, 0)) att17_0_1 hb) (below_step att17_0_2 hb) ?_; clear BK447 HB; intro BK447 HB; (try clear hb); (try clear hb2); (try clear hk); (try clear hi)))
          go_ret
          exact ⟨retT_, att17_0_2⟩
        ·rw [if_neg c10] at H
         exact absurd H (by simp)
       ·rw [if_neg c9] at H
        exact absurd H (by simp)
      ·rw [if_neg c8] at H
       have c8b0 := decide_eq_false c8
       clear c8
       obtain ⟨ji19, hji19⟩ : ∃ j_ : Int, (wrap64 ((l0.length : Int) - 1)) = j_ := ⟨_, rfl⟩
       replace H : (if 0 ≤ (ji19) then (if (ji19) < (l0.length : Int) then (if ((rd_T63 l0 (ji19)).f0) = 13 then (some true) else (some (((rd_T63 l0 (ji19)).f0) == 11))) else (none)) else (none)) = some r := by first | (rw [hji19] at H; exact H) | (simp only [hji19] at H ⊢; exact H)
       have hji19w : (IntKind.i64.wrap ((l0.length : Int) - 1)) = ji19 := (i64_w _).trans hji19
       by_cases c20 : 0 ≤ (ji19)
       ·rw [if_pos c20] at H
        have c20b0 := decide_eq_true c20
        clear c20
        by_cases c21 : (ji19) < (l0.length : Int)
        ·rw [if_pos c21] at H
         have c21b0 := decide_eq_true c21
         clear c21
         by_cases c22 : ((rd_T63 l0 (ji19)).f0) = 13
         ·rw [if_pos c22] at H
          have c22b0 := beq_iff_eq.mpr c22
          have c22b1 := bne_eq_false_iff_eq.mpr c22
          clear c22
          obtain rfl := Option.some.inj H
          have p449 : 0 ≤ ((ji19) : Int) := of_decide_eq_true atgA_
          have q449 : (ji19) < (l0.length : Int) := of_decide_eq_true atgA_
          obtain ⟨ad449, e449, hx449_0, hx449_1, hx449_2, hx449_3, hx449_4⟩ := at5B_ HB (at_T63 HR0.out (ji19) p449 q449)
          cases e449
          replace p449 := eq_true p449
          replace q449 := eq_true q449
          go_wp2
          go_ret
          exact ⟨by first | rfl | (simp [errW_none, errW_some] <;> rfl) | (simp only [← hji19]; first | rfl | (simp [errW_none, errW_some] <;> rfl)) | (simp [*, errW_none, errW_some] <;> rfl), atgB_⟩
         ·rw [if_neg c22] at H
          have c22b0 := beq_eq_false_iff_ne.mpr c22
          have c22b1 := bne_iff_ne.mpr c22
          obtain rfl := Option.some.inj H
          have p449 : 0 ≤ ((ji19) : Int) := of_decide_eq_true atgA_
          have q449 : (ji19) < (l0.length : Int) := of_decide_eq_true atgA_
          obtain ⟨ad449, e449, hx449_0, hx449_1, hx449_2, hx449_3, hx449_4⟩ := at5B_ HB (at_T63 HR0.out (ji19) p449 q449)
          cases e449
          replace p449 := eq_true p449
          replace q449 := eq_true q449
          go_wp2
          go_ret
          exact ⟨by first | rfl | (simp [errW_none, errW_some] <;> rfl) | (simp only [← hji19]; first | rfl | (simp [errW_none, errW_some] <;> rfl)) | (simp [*, errW_none, errW_some] <;> rfl), atgB_⟩
        ·rw [if_neg c21] at H
         exact absurd H (by simp)
       ·rw [if_neg c20] at H
        exact absurd H (by simp)

/-! ### slices_Sort_int_int: function 86 -/
def soRen : Go.Shelf.Ren := ⟨fun n => if n = 125 then 121 else if n = 128 then 139 else if n = 129 then 140 else if n = 189 then 86 else if n = 215 then 151 else if n = 216 then 136 else if n = 257 then 120 else if n = 294 then 130 else if n = 295 then 131 else if n = 296 then 132 else if n = 297 then 133 else if n = 298 then 134 else if n = 299 then 135 else if n = 300 then 137 else if n = 301 then 138 else if n = 328 then 146 else if n = 329 then 147 else if n = 330 then 148 else if n = 331 then 149 else if n = 332 then 150 else if n = 343 then 152 else n, fun n => if n = 0 then 0 else if n = 3 then 3 else if n = 4 then 4 else if n = 5 then 5 else if n = 9 then 9 else if n = 28 then 34 else if n = 46 then 104 else if n = 51 then 120 else if n = 53 then 122 else if n = 131 then 117 else if n = 182 then 111 else if n = 183 then 112 else if n = 218 then 127 else if n = 222 then 131 else if n = 228 then 133 else if n = 229 then 134 else n, fun n => n⟩
theorem soL : Go.Proofs.Lays.n189 Try.prog soRen where
 mixed := by kernel_rfl
 f125 := by kernel_rfl
 f128 := by kernel_rfl
 f129 := by kernel_rfl
 f189 := by kernel_rfl
 f215 := by kernel_rfl
 f216 := by kernel_rfl
 f257 := by kernel_rfl
 f294 := by kernel_rfl
 f295 := by kernel_rfl
 f296 := by kernel_rfl
 f297 := by kernel_rfl
 f298 := by kernel_rfl
 f299 := by kernel_rfl
 f300 := by kernel_rfl
 f301 := by kernel_rfl
 f328 := by kernel_rfl
 f329 := by kernel_rfl
 f330 := by kernel_rfl
 f331 := by kernel_rfl
 f332 := by kernel_rfl
 f343 := by kernel_rfl
 t0 := by kernel_rfl
 a0 := fun _ => by kernel_rfl
 z0 := fun _ => by kernel_rfl
 v0 := fun _ => by kernel_rfl
 t3 := by kernel_rfl
 a3 := fun _ => by kernel_rfl
 z3 := fun _ => by kernel_rfl
 v3 := fun _ => by kernel_rfl
 t4 := by kernel_rfl
 a4 := fun _ => by kernel_rfl
 z4 := fun _ => by kernel_rfl
 v4 := fun _ => by kernel_rfl
 t5 := by kernel_rfl
 a5 := fun _ => by kernel_rfl
 z5 := fun _ => by kernel_rfl
 v5 := fun _ => by kernel_rfl
 t9 := by kernel_rfl
 a9 := fun _ => by kernel_rfl
 z9 := fun _ => by kernel_rfl
 v9 := fun _ => by kernel_rfl
 t28 := by kernel_rfl
 a28 := fun _ => by kernel_rfl
 z28 := fun _ => by kernel_rfl
 v28 := fun _ => by kernel_rfl
 t46 := by kernel_rfl
 a46 := fun _ => by kernel_rfl
 z46 := fun _ => by kernel_rfl
 v46 := fun _ => by kernel_rfl
 t51 := by kernel_rfl
 a51 := fun _ => by kernel_rfl
 z51 := fun _ => by kernel_rfl
 v51 := fun _ => by kernel_rfl
 t53 := by kernel_rfl
 a53 := fun _ => by kernel_rfl
 z53 := fun _ => by kernel_rfl
 v53 := fun _ => by kernel_rfl
 t131 := by kernel_rfl
 a131 := fun _ => by kernel_rfl
 z131 := fun _ => by kernel_rfl
 v131 := fun _ => by kernel_rfl
 t182 := by kernel_rfl
 a182 := fun _ => by kernel_rfl
 z182 := fun _ => by kernel_rfl
 v182 := fun _ => by kernel_rfl
 t183 := by kernel_rfl
 a183 := fun _ => by kernel_rfl
 z183 := fun _ => by kernel_rfl
 v183 := fun _ => by kernel_rfl
 t218 := by kernel_rfl
 a218 := fun _ => by kernel_rfl
 z218 := fun _ => by kernel_rfl
 v218 := fun _ => by kernel_rfl
 t222 := by kernel_rfl
 a222 := fun _ => by kernel_rfl
 z222 := fun _ => by kernel_rfl
 v222 := fun _ => by kernel_rfl
 t228 := by kernel_rfl
 a228 := fun _ => by kernel_rfl
 z228 := fun _ => by kernel_rfl
 v228 := fun _ => by kernel_rfl
 t229 := by kernel_rfl
 a229 := fun _ => by kernel_rfl
 z229 := fun _ => by kernel_rfl
 v229 := fun _ => by kernel_rfl
/-- Numbers written one behind the other into an own row. -/
theorem so_cells (P0_ : Nat → Prop) (g c b : Nat) (w0 : World) (hb : w0.heap.size ≤ g) (hP : P0_ g) : ∀ (ys : List Int) (o : Nat) (xs : List Int) (w w1 : World), o + ys.length ≤ xs.length → Kd.R (Kd.int .i64) 3 w1 b P0_ (.slice (some ⟨g, 0, none⟩) xs.length c) xs → Below w0.heap.size w0 w1 → Kept w w1 (fun k_ => P0_ k_) →
  Kd.R (Kd.int .i64) 3 (w1.setCells g o (ys.map (Value.int .i64))) b P0_ (.slice (some ⟨g, 0, none⟩) xs.length c) (xs.take o ++ ys ++ xs.drop (o + ys.length)) ∧ Below w0.heap.size w0 (w1.setCells g o (ys.map (Value.int .i64))) ∧ Kept w (w1.setCells g o (ys.map (Value.int .i64))) (fun k_ => P0_ k_) := by
 intro ys
 induction ys with
 | nil =>
  intro o xs w w1 h hR hB hK
  simpa [World.setCells] using ⟨hR, hB, hK⟩
 | cons y ys ih =>
  intro o xs w w1 h hR hB hK
  have h1 := (Kd.R_putg (i := (o : Int)) (x := y) hR).1
  rw [Int.toNat_natCast] at h1
  have hl : (xs.set o y).length = xs.length := List.length_set
  have h2 := ih (o + 1) (xs.set o y) w _ (by rw [hl]; simp at h; omega) (by rw [hl]; exact h1) (below_set hB hb) (Kept.setCell hK (.inl hP) _)
  rw [hl] at h2
  have e : (xs.set o y).take (o + 1) ++ ys ++ (xs.set o y).drop (o + 1 + ys.length) = xs.take o ++ (y :: ys) ++ xs.drop (o + (y :: ys).length) := by
   simp only [List.length_cons] at h
   rw [List.drop_set, if_pos (by omega), show o + (y :: ys).length = o + 1 + ys.length by simp; omega]
   congr 1
   rw [List.take_add_one, List.take_set, List.set_eq_of_length_le (by simp; omega), List.getElem?_set_self (by omega)]
   simp
  rw [e] at h2
  exact h2
theorem so_holds {P0_ : Nat → Prop} {l0 : List Int} {w : World} {b g c : Nat} (ho0 : Kd.R (Kd.int .i64) 3 w b P0_ (.slice (some ⟨g, 0, none⟩) l0.length c) l0) : Go.Sort.Holds (Value.int .i64) w g 0 l0.toArray := by
 intro j hj
 have hj' : j < l0.length := by simpa using hj
 obtain ⟨cs, hcs, hM, hcc, hff⟩ := Kd.R_elem ho0 (0 : Int) (j : Int) (Int.natCast_nonneg _) (by omega)
 obtain rfl : cs = [.int .i64 (l0.getD (j : Int).toNat 0)] := hM
 have a1 := hcc 0 _ rfl
 have a2 := hff 0
 rw [Int.toNat_natCast, show (Kd.int .i64).sz = 1 from rfl, Nat.mul_one, Nat.add_zero] at a1 a2
 rw [Nat.zero_add]
 refine ⟨a1.trans ?_, a2⟩
 simp [List.getD_eq_getElem?_getD, List.getElem?_eq_getElem hj', getElem!_pos, hj]
def sorted (l : List Int) : List Int := l.mergeSort fun x y => decide (x ≤ y)
theorem so_grow (w : World) (os : Array Obj) : Below w.heap.size w (Go.Sort.grow w os) ∧ ∀ S : Nat → Prop, Kept w (Go.Sort.grow w os) S := by
 have h1 : w.heap.size ≤ (Go.Sort.grow w os).heap.size := by rw [Go.Sort.size_grow]; omega
 have h2 : ∀ k, k < w.heap.size → (Go.Sort.grow w os).heap[k]? = w.heap[k]? := fun k hk => Go.Sort.heap_grow_old w os hk
 exact ⟨⟨rfl, rfl, rfl, h1, h2⟩, fun S => ⟨h1, fun k hk _ => h2 k hk⟩⟩
def slices_Sort_int_int.f (l0 : List Int) : Option (List Int) := if l0.length ≤ 1000000 then some (sorted l0) else none
theorem slices_Sort_int_int.calls (P0_ : Nat → Prop) (u9000_ : Value) (l0 : List Int) (r : List Int) (w0 w : World) (hB : Below w0.heap.size w0 w) (ho0 : Kd.R (Kd.int .i64) 3 w w0.heap.size P0_ u9000_ l0) (h : slices_Sort_int_int.f l0 = some r) :
  Calls Try.prog 86 #[u9000_] w fun e w' => e = .returned (.tuple #[]) ∧ Kd.R (Kd.int .i64) 3 w' w0.heap.size (fun k_ => (P0_ k_ ∨ w.heap.size ≤ k_)) u9000_ r ∧ Below w0.heap.size w0 w' ∧ Kept w w' (fun k_ => P0_ k_) := by
 unfold slices_Sort_int_int.f at h
 by_cases hn : l0.length ≤ 1000000
 ·rw [if_pos hn] at h
  obtain rfl := Option.some.inj h
  rcases Nat.eq_zero_or_pos l0.length with h0 | hp
  ·obtain rfl : l0 = [] := List.eq_nil_of_length_eq_zero h0
   obtain ⟨A, c, e⟩ := Kd.R_slice ho0
   subst e
   refine (Any.slices_Sort_int_none soL A c w).mono ?_
   rintro e w' ⟨rfl, rfl⟩
   exact ⟨rfl, by rw [show sorted ([] : List Int) = [] by simp [sorted]]; exact Kd.R_mono ho0 (fun k hk => .inl hk), hB, Kept.refl _ _⟩
  ·obtain ⟨g, c, e, hg, hlt, cl, hcl⟩ := Kd.R_form ho0 hp
   subst e
   have hP : P0_ g := ho0.1 _ rfl
   have hH := so_holds ho0
   refine (Any.slices_Sort_int soL g 0 c l0 w hH hlt (by omega)).mono ?_
   rintro e w' ⟨rfl, q, os, rfl⟩
   have hle : (sorted l0).length = l0.length := List.length_mergeSort l0
   have hrow := Lib.putRow_eq_setCells (Value.int .i64) w g 0 l0.toArray (sorted l0) q hH (by simp [hle])
   unfold sorted at hrow
   rw [hrow]
   obtain ⟨a1, a2, a3⟩ := so_cells P0_ g c w0.heap.size w0 hg hP (sorted l0) 0 l0 w (w.drewN q) (by rw [hle]; omega) (Kd.R_drewN ho0 q) (pw_below_drewN hB q) (Kept.drewN (Kept.refl _ _) q)
   unfold sorted at a1 a2 a3
   obtain ⟨b1, b2⟩ := so_grow ((w.drewN q).setCells g 0 (List.map (Value.int .i64) (l0.mergeSort fun x y => decide (x ≤ y)))) os
   refine ⟨rfl, ?_, below_step a2 b1, a3.below b1⟩
   have e1 : l0.take 0 ++ (l0.mergeSort fun x y => decide (x ≤ y)) ++ l0.drop (0 + (l0.mergeSort fun x y => decide (x ≤ y)).length) = sorted l0 := by
    have : (l0.mergeSort fun x y => decide (x ≤ y)).length = l0.length := List.length_mergeSort l0
    rw [this]
    simp [sorted]
   rw [e1] at a1
   exact Kd.R_mono (Kd.R_below a1 b1) (fun k hk => .inl hk)
 ·rw [if_neg hn] at h
  cases h


/-! ### slices_Compact_int_int: function 87 -/
def cpRen : Go.Shelf.Ren := ⟨fun n => if n = 20 then 87 else n, fun n => if n = 3 then 3 else if n = 4 then 4 else if n = 22 then 34 else n, fun n => n⟩
theorem cpL : Go.Proofs.Lays2.n20 Try.prog cpRen where
 mixed := by kernel_rfl
 f20 := by kernel_rfl
 t0 := by kernel_rfl
 a0 := fun _ => by kernel_rfl
 z0 := fun _ => by kernel_rfl
 v0 := fun _ => by kernel_rfl
 t3 := by kernel_rfl
 a3 := fun _ => by kernel_rfl
 z3 := fun _ => by kernel_rfl
 v3 := fun _ => by kernel_rfl
 t4 := by kernel_rfl
 a4 := fun _ => by kernel_rfl
 z4 := fun _ => by kernel_rfl
 v4 := fun _ => by kernel_rfl
 t22 := by kernel_rfl
 a22 := fun _ => by kernel_rfl
 z22 := fun _ => by kernel_rfl
 v22 := fun _ => by kernel_rfl
 i3 := by kernel_rfl
def slices_Compact_int_int.f (l0 : List Int) : Option (List Int) := if l0.length ≤ 1000000 then some (Lib.compact l0) else none
theorem slices_Compact_int_int.calls (P0_ : Nat → Prop) (u9000_ : Value) (l0 : List Int) (r : List Int) (w0 w : World) (hB : Below w0.heap.size w0 w) (ho0 : Kd.R (Kd.int .i64) 3 w w0.heap.size P0_ u9000_ l0) (h : slices_Compact_int_int.f l0 = some r) :
  Calls Try.prog 87 #[u9000_] w fun e w' => ∃ v0_ : Value, e = .returned v0_ ∧ Kd.R (Kd.int .i64) 3 w' w0.heap.size (fun k_ => (P0_ k_ ∨ w.heap.size ≤ k_)) v0_ r ∧ Below w0.heap.size w0 w' ∧ Kept w w' (fun k_ => P0_ k_) := by
 unfold slices_Compact_int_int.f at h
 by_cases hn : l0.length ≤ 1000000
 ·rw [if_pos hn] at h
  obtain rfl := Option.some.inj h
  rcases Nat.eq_zero_or_pos l0.length with h0 | hp
  ·obtain rfl : l0 = [] := List.eq_nil_of_length_eq_zero h0
   obtain ⟨A, c, e⟩ := Kd.R_slice ho0
   subst e
   refine (Any.slices_Compact_int_empty cpL A c w).mono ?_
   rintro e w' ⟨rfl, rfl⟩
   exact ⟨_, rfl, Kd.R_mono ho0 (fun k hk => .inl hk), hB, Kept.refl _ _⟩
  ·obtain ⟨g, c, e, hg, hlt, cl, hcl⟩ := Kd.R_form ho0 hp
   subst e
   have hP : P0_ g := ho0.1 _ rfl
   have hc := (Kd.R_reads' ho0).2.1
   have hH := so_holds ho0
   refine (Any.slices_Compact_int cpL g 0 c l0 w hH (by omega) hc).mono ?_
   rintro e w' ⟨rfl, q, rfl⟩
   have hle := Lib.compact_length_le l0
   rw [Lib.putRow_eq_setCells (Value.int .i64) w g 0 l0.toArray _ q hH (by simp; omega)]
   obtain ⟨a1, a2, a3⟩ := so_cells P0_ g c w0.heap.size w0 hg hP (Lib.compact l0 ++ List.replicate (l0.length - (Lib.compact l0).length) 0) 0 l0 w (w.drewN q) (by simp; omega) (Kd.R_drewN ho0 q) (pw_below_drewN hB q) (Kept.drewN (Kept.refl _ _) q)
   refine ⟨_, rfl, ?_, a2, a3⟩
   have a4 := Kd.R_take (m := (Lib.compact l0).length) a1 (by simp)
   simp only [List.take_zero, List.nil_append, List.append_assoc, List.take_left'] at a4
   exact Kd.R_mono a4 (fun k hk => .inl hk)
 ·rw [if_neg hn] at h
  cases h

/-! ### impl_nextOf: function 78 -/
theorem Kd.Q_append_rows {P : Program} {ops : Array Oper} {rest : List Oper} {o : Oper} {a : Act} {Q : Exit → Act → World → Prop} {α : Type} (d : Kd α) {Rr : α → List Value → Prop} {w0 W : World} (base : Nat) (hgd : o.guard = none) (s x : Operand) (t e : TypeId) (z : Value) (bytes : Nat)
  (ho : o.op = .call { callee := .builtin .append, args := #[s, x], argTypes := #[t, t] })
  (ht : P.underlying t = some (.slice e)) (hinfo : (P.info? e).map (fun i => (i.zero, i.size, i.bytes)) = some (some z, d.sz, bytes)) (hz : z.cells.size = d.sz) (hs0 : 0 < d.sz) (hb0 : 0 < bytes)
  (v : Value) (xs ys : List α) (A : Option Addr) (m c : Nat) (ok okp : Nat → Prop) (hs : a.eval s = v) (hx : a.eval x = .slice A m c)
  (HO : d.Q e W base ok v xs) (HR : ReadsRow Rr d.sz W A m ys) (hKM : ∀ x cs, Rr x cs → d.M W base okp x cs) (hokp : ∀ k, okp k → ok k ∧ some k ≠ v.ownBlock) (hfresh : ∀ k, W.heap.size ≤ k → ok k)
  (HB : Below base w0 W) (hbase : base ≤ W.heap.size) (hl : (xs.length + m) * bytes ≤ 140737488355328)
  (h : ∀ v1 w1, d.Q e w1 base ok v1 (xs ++ ys) → Below base w0 w1 → W.grownBy w1 v.ownBlock → (v1.ownBlock = v.ownBlock ∨ ∃ b, v1.ownBlock = some b ∧ W.heap.size ≤ b) → wpList P ops Q rest (a.put o.dst v1) w1) :
  wpList P ops Q (o :: rest) a W := by
 obtain ⟨i0, hi, hzz⟩ := Option.map_eq_some_iff.1 hinfo
 simp only [Prod.mk.injEq] at hzz
 obtain ⟨hz0, hz1, hz2⟩ := hzz
 have hm : ys.length = m := HR.1
 have hlen : xs.length + m ≤ 140737488355328 := Nat.le_trans (Nat.le_mul_of_pos_right _ hb0) hl
 obtain ⟨hok, inner, hown, hr⟩ := HO
 have hrun : ∃ v1 w1, (Builtin.append_ #[t, t] o.type #[v, .slice A m c]).run P W = .ok v1 w1 ∧ d.Q e w1 base ok v1 (xs ++ ys) ∧ W.grownBy w1 v.ownBlock ∧ (v1.ownBlock = v.ownBlock ∨ ∃ b, v1.ownBlock = some b ∧ W.heap.size ≤ b) := by
  by_cases h0 : m = 0
  ·subst h0
   obtain rfl : ys = [] := List.eq_nil_of_length_eq_zero hm
   refine ⟨v, W, ?_, by rw [List.append_nil]; exact ⟨hok, inner, hown, hr⟩, World.grownBy.refl W _, .inl rfl⟩
   rcases hown.2 with ⟨hn, B, rfl, _⟩ | ⟨g, off, cap, cur, rfl, _, _, hnc, _⟩
   ·rcases A with _ | ad
    ·rcases B with _ | bd
     ·simp [Builtin.append_, run_underlying ht, sizeOf, typeInfo, hi, Builtin.lenOf, Builtin.firstCells]
     ·simp [Builtin.append_, run_underlying ht, sizeOf, typeInfo, hi, Builtin.lenOf, Builtin.firstCells, storeCells]
    ·rcases B with _ | bd
     ·simp [Builtin.append_, run_underlying ht, sizeOf, typeInfo, hi, Builtin.lenOf, Builtin.firstCells, loadCells, loadCellsFrom]
     ·simp [Builtin.append_, run_underlying ht, sizeOf, typeInfo, hi, Builtin.lenOf, Builtin.firstCells, loadCells, loadCellsFrom, storeCells]
   ·rcases A with _ | ad
    ·simp [Builtin.append_, run_underlying ht, sizeOf, typeInfo, hi, Builtin.lenOf, Builtin.firstCells, hnc, storeCells]
    ·simp [Builtin.append_, run_underlying ht, sizeOf, typeInfo, hi, Builtin.lenOf, Builtin.firstCells, hnc, storeCells, loadCells, loadCellsFrom]
  ·have hm0 : 0 < m := by omega
   obtain ⟨ad, rfl, _⟩ := HR.2.2 hm0
   obtain ⟨news, hnr, hnc⟩ := ReadsRow.inner_ HR
   have hnM : Reps (d.M W base okp) d.sz ys news := hnr.imp_ (fun p c hp => hKM p c hp)
   have hone : ∀ u ∈ news, u.oneCell' = true := by
    intro u hu
    obtain ⟨q, hq, rfl⟩ := List.mem_iff_getElem.1 hu
    have hql : q / d.sz < ys.length := by
     rw [Nat.div_lt_iff_lt_mul hs0]
     rw [← hnM.1]
     exact hq
    have hc := hnM.2 (q / d.sz) _ (List.getElem?_eq_getElem hql)
    refine d.K_one (d.K_of_M hc) _ ?_
    rw [List.mem_iff_getElem?]
    refine ⟨q % d.sz, ?_⟩
    rw [List.getElem?_take, if_pos (Nat.mod_lt _ hs0), List.getElem?_drop, Nat.mul_comm, Nat.div_add_mod, List.getElem?_eq_getElem hq]
   obtain ⟨v1, w1, hrun, h2, hg, hat'⟩ := q_append (P := P) W base t o.type e i0 z d.sz bytes ht hi hz0 hz1 hz2 hz hs0 v xs.length inner hown ad m c news (by rw [hnM.1, hm]) hnc hone hm0 (by simp only [maxLen]; omega) hl hbase
   have hne : ∀ k, some k ≠ v.ownBlock → k < W.heap.size → some k ≠ v1.ownBlock := by
    intro k hk hlt
    rcases hat' with hat | ⟨b, hb, hle⟩
    ·rw [hat]; exact hk
    ·rw [hb]
     intro he
     injection he with he
     omega
   have step : ∀ {q : α} {c : List Value} {o : Nat → Prop}, d.M W base o q c → (∀ k, o k → ok k ∧ some k ≠ v.ownBlock) → d.M w1 base (fun k => ok k ∧ some k ≠ v1.ownBlock) q c := by
    intro q c o hq ho
    have h1 := d.M_move (w1 := w1) (fun k hk => hg.block k hk.2.2.1 (ho k hk.1).2) (d.M_bound hq)
    exact d.M_mono (fun k hk => ⟨(ho k hk.1).1, hne k (ho k hk.1).2 hk.2.2.1⟩) h1
   refine ⟨v1, w1, hrun, ⟨fun k hk => ?_, inner ++ news, by rw [List.length_append, hm]; exact h2, Kd.reps_append (hr.imp_ (fun _ _ hq => step hq (fun _ hk => hk))) (hnM.imp_ (fun _ _ hq => step hq hokp))⟩, hg, hat'⟩
   rcases hat' with hat | ⟨b, hb, hle⟩
   ·exact hok k (hat ▸ hk)
   ·rw [hb] at hk
    injection hk with hk
    exact hfresh k (by omega)
 obtain ⟨v1, w1, hr1, h1, hg, hat⟩ := hrun
 refine wpList_plain hgd fun K hK => ?_
 unfold Oper.wp execOp
 simp only [ho, resolve, invoke, builtin, Sem.run_bind, Sem.run_pure, Result.andThen_ok, List.map_toArray, List.map_cons, List.map_nil, hs, hx, hr1]
 exact hK _ _ (h v1 w1 h1 (HB.grown hg hbase (fun k hk => (q_typed hown k hk).1)) hg hat)
theorem nx_heap_new (w : World) (o : Obj) (n : Nat) (h : n = w.heap.size) : (w.alloc o).heap[n]? = some o := by
 subst h
 exact Array.getElem?_push_size
theorem nx_size (w : World) (o : Obj) : (w.alloc o).heap.size = w.heap.size + 1 := Array.size_push ..
theorem nx_row1 (W : World) (base g : Nat) (ok : Nat → Prop) (hok : ok g) (hb : base ≤ g) (x : Int) (h : W.heap[g]? = some (.cells #[.int .i64 x] 3 (0, 0))) : Kd.R (Kd.int .i64) 3 W base ok (.slice (some ⟨g, 0, none⟩) 1 1) [x] := by
 refine ⟨fun k hk => ?_, [.int .i64 x], ⟨rfl, .inr ⟨g, 1, _, rfl, hb, h, Nat.le_refl _, by decide, rfl, rfl⟩⟩, rfl, fun j p hj => ?_⟩
 ·have : g = k := by simpa [Value.ownBlock] using hk
  subst this
  exact hok
 ·match j, hj with
  | 0, hj => obtain rfl := Option.some.inj hj; exact rfl
theorem nx_row2 (W : World) (base g : Nat) (ok : Nat → Prop) (hok : ok g) (hb : base ≤ g) (x y : Int) (h : W.heap[g]? = some (.cells #[.int .i64 x, .int .i64 y] 3 (0, 0))) : Kd.R (Kd.int .i64) 3 W base ok (.slice (some ⟨g, 0, none⟩) 2 2) [x, y] := by
 refine ⟨fun k hk => ?_, [.int .i64 x, .int .i64 y], ⟨rfl, .inr ⟨g, 2, _, rfl, hb, h, Nat.le_refl _, by decide, rfl, rfl⟩⟩, rfl, fun j p hj => ?_⟩
 ·have : g = k := by simpa [Value.ownBlock] using hk
  subst this
  exact hok
 ·match j, hj with
  | 0, hj => obtain rfl := Option.some.inj hj; exact rfl
  | 1, hj => obtain rfl := Option.some.inj hj; exact rfl
def nxC (x y : Int) : List Int := if x = y then [x] else [x, y]
def nx2 (x y : Int) : List Int := if y < x then nxC y x else nxC x y
theorem nx_sorted (x y : Int) : slices_Sort_int_int.f [x, y] = some (if y < x then [y, x] else [x, y]) := by
 unfold slices_Sort_int_int.f sorted
 rw [if_pos (by simp)]
 congr 1
 by_cases h : y < x
 ·simp [List.mergeSort, List.MergeSort.Internal.splitInTwo, List.merge, h, Int.not_le.mpr h]
 ·simp [List.mergeSort, List.MergeSort.Internal.splitInTwo, List.merge, h, Int.not_lt.mp h]
theorem nx_comp (x y : Int) : slices_Compact_int_int.f [x, y] = some (nxC x y) := by
 unfold slices_Compact_int_int.f nxC
 rw [if_pos (by simp)]
 congr 1
 have r : List.range 2 = [0, 1] := rfl
 by_cases h : x = y
 ·simp [Lib.compact, Lib.compactUpTo, Lib.keeps, h, r]
 ·have h' : ¬ y = x := fun e => h e.symm
  simp [Lib.compact, Lib.compactUpTo, Lib.keeps, h, h', r]
/-- The places behind a place: op, its number N, the next place m. -/
def nxt (op N m : Int) : List Int := if op = 13 then [] else if op = 11 then [N] else if op = 12 then nx2 m N else [m]
def impl_nextOf.f (l0 : List S63) (a1 : Int) : Option (List Int) := if 0 ≤ a1 ∧ a1 < (l0.length : Int) then some (nxt (rd_T63 l0 a1).f0 (rd_T63 l0 a1).f4 (wrap64 (a1 + 1))) else none
set_option maxHeartbeats 80000000 in
set_option maxRecDepth 100000 in
theorem nx_12 (A0 : Option Addr) (c0 : Nat) (l0 : List S63) (a1 N p q : Int) (w : World) (hr0 : Kd.C k63 w A0 l0.length l0) (h0 : 0 ≤ a1) (h1 : a1 < (l0.length : Int)) (ho : (rd_T63 l0 a1).f0 = 12) (hN : N = (rd_T63 l0 a1).f4) (hS : slices_Sort_int_int.f [wrap64 (a1 + 1), N] = some [p, q]) :
  Calls Try.prog 78 #[.slice A0 l0.length c0, .int .i64 a1] w fun e w' => ∃ v0_ : Value, e = .returned (v0_) ∧ Kd.R (Kd.int .i64) 3 w' w.heap.size (fun _ => True) v0_ (nxC p q) ∧ Below w.heap.size w w' := by
 obtain ⟨ad, e, q0, q1, q2, q3, q4⟩ := at_T63 hr0 a1 h0 h1
 subst e
 rw [ho] at q0
 rw [← hN] at q4
 have HS := Aside0.mk hS
 have hu63 := Try.underlying63
 replace h0 := eq_true h0
 replace h1 := eq_true h1
 clear hr0 ho hN hS
 go_enter Try.func78, Try.ntmps78
 go_wp2_with (first | (go_at_call 86; (with_reducible refine (slices_Sort_int_int.calls (fun k => w.heap.size ≤ k) (.slice (some ⟨w.heap.size + 1, 0, none⟩) 2 2) [wrap64 (a1 + 1), N] [p, q] w _ ?hB ?ho HS.out).mono ?_); (case hB => repeat (first | exact Below.refl _ _ | apply below_alloc)); (case ho => exact nx_row2 _ w.heap.size (w.heap.size + 1) _ (Nat.le_succ _) (Nat.le_succ _) _ _ (nx_heap_new _ _ _ (nx_size _ _).symm)); rintro e w1 ⟨rfl, hR, hB1, hK1⟩; have HR := Aside0.mk hR; have HB := Aside0.mk hB1; clear hR hB1 hK1) | (go_at_call 87; (with_reducible refine (slices_Compact_int_int.calls _ (.slice (some ⟨w.heap.size + 1, 0, none⟩) 2 2) [p, q] (nxC p q) w _ HB.out HR.out (nx_comp p q)).mono ?_); rintro e w2 ⟨v, rfl, hR, hB2, hK2⟩; have HR2 := Aside0.mk hR; have HB2 := Aside0.mk hB2; clear hR hB2 hK2))
 go_ret
 exact ⟨_, rfl, Kd.R_mono HR2.out (fun _ _ => trivial), HB2.out⟩
set_option maxHeartbeats 80000000 in
set_option maxRecDepth 100000 in
theorem nx_13 (A0 : Option Addr) (c0 : Nat) (l0 : List S63) (a1 : Int) (w : World) (hr0 : Kd.C k63 w A0 l0.length l0) (h0 : 0 ≤ a1) (h1 : a1 < (l0.length : Int)) (ho : (rd_T63 l0 a1).f0 = 13) :
  Calls Try.prog 78 #[.slice A0 l0.length c0, .int .i64 a1] w fun e w' => ∃ v0_ : Value, e = .returned (v0_) ∧ Kd.R (Kd.int .i64) 3 w' w.heap.size (fun _ => True) v0_ [] ∧ Below w.heap.size w w' := by
 obtain ⟨ad, e, q0, q1, q2, q3, q4⟩ := at_T63 hr0 a1 h0 h1
 subst e
 rw [ho] at q0
 have hu63 := Try.underlying63
 replace h0 := eq_true h0
 replace h1 := eq_true h1
 clear hr0 ho
 go_enter Try.func78, Try.ntmps78
 go_wp2
 go_ret
 exact ⟨_, rfl, Kd.R_nil _ _ _ _ _, att17_0_6⟩
set_option maxHeartbeats 80000000 in
set_option maxRecDepth 100000 in
theorem nx_11 (A0 : Option Addr) (c0 : Nat) (l0 : List S63) (a1 : Int) (w : World) (hr0 : Kd.C k63 w A0 l0.length l0) (h0 : 0 ≤ a1) (h1 : a1 < (l0.length : Int)) (ho : (rd_T63 l0 a1).f0 = 11) :
  Calls Try.prog 78 #[.slice A0 l0.length c0, .int .i64 a1] w fun e w' => ∃ v0_ : Value, e = .returned (v0_) ∧ Kd.R (Kd.int .i64) 3 w' w.heap.size (fun _ => True) v0_ [(rd_T63 l0 a1).f4] ∧ Below w.heap.size w w' := by
 obtain ⟨ad, e, q0, q1, q2, q3, q4⟩ := at_T63 hr0 a1 h0 h1
 subst e
 rw [ho] at q0
 have hu63 := Try.underlying63
 replace h0 := eq_true h0
 replace h1 := eq_true h1
 clear hr0 ho
 go_enter Try.func78, Try.ntmps78
 go_wp2
 go_ret
 exact ⟨_, rfl, nx_row1 _ w.heap.size (w.heap.size + 1) _ trivial (Nat.le_succ _) _ (nx_heap_new _ _ _ (nx_size _ _).symm), att17_0_6⟩
set_option maxHeartbeats 80000000 in
set_option maxRecDepth 100000 in
theorem nx_else (A0 : Option Addr) (c0 : Nat) (l0 : List S63) (a1 : Int) (w : World) (hr0 : Kd.C k63 w A0 l0.length l0) (h0 : 0 ≤ a1) (h1 : a1 < (l0.length : Int)) (o1 : ¬ (rd_T63 l0 a1).f0 = 11) (o2 : ¬ (rd_T63 l0 a1).f0 = 12) (o3 : ¬ (rd_T63 l0 a1).f0 = 13) :
  Calls Try.prog 78 #[.slice A0 l0.length c0, .int .i64 a1] w fun e w' => ∃ v0_ : Value, e = .returned (v0_) ∧ Kd.R (Kd.int .i64) 3 w' w.heap.size (fun _ => True) v0_ [wrap64 (a1 + 1)] ∧ Below w.heap.size w w' := by
 obtain ⟨ad, e, q0, q1, q2, q3, q4⟩ := at_T63 hr0 a1 h0 h1
 subst e
 replace o1 : ((rd_T63 l0 a1).f0 == 11) = false := beq_eq_false_iff_ne.mpr o1
 replace o2 : ((rd_T63 l0 a1).f0 == 12) = false := beq_eq_false_iff_ne.mpr o2
 replace o3 : ((rd_T63 l0 a1).f0 == 13) = false := beq_eq_false_iff_ne.mpr o3
 have hu63 := Try.underlying63
 replace h0 := eq_true h0
 replace h1 := eq_true h1
 clear hr0
 go_enter Try.func78, Try.ntmps78
 go_wp2
 go_ret
 exact ⟨_, rfl, nx_row1 _ w.heap.size (w.heap.size + 1) _ trivial (Nat.le_succ _) _ (nx_heap_new _ _ _ (nx_size _ _).symm), att17_0_6⟩
theorem impl_nextOf.calls (A0 : Option Addr) (c0 : Nat) (l0 : List (S63)) (a1 : Int) (r : List Int) (w : World) (hr0 : Kd.C k63 w A0 l0.length l0) (hc0 : l0.length ≤ c0) (h : impl_nextOf.f l0 a1 = some r) :
  Calls Try.prog 78 #[.slice A0 l0.length c0, .int .i64 a1] w fun e w' => ∃ v0_ : Value, e = .returned (v0_) ∧ Kd.R (Kd.int .i64) 3 w' w.heap.size (fun _ => True) v0_ r ∧ Below w.heap.size w w' := by
 unfold impl_nextOf.f at h
 by_cases hi : 0 ≤ a1 ∧ a1 < (l0.length : Int)
 ·rw [if_pos hi] at h
  obtain rfl := Option.some.inj h
  unfold nxt
  by_cases o3 : (rd_T63 l0 a1).f0 = 13
  ·rw [if_pos o3]
   exact nx_13 A0 c0 l0 a1 w hr0 hi.1 hi.2 o3
  rw [if_neg o3]
  by_cases o1 : (rd_T63 l0 a1).f0 = 11
  ·rw [if_pos o1]
   exact nx_11 A0 c0 l0 a1 w hr0 hi.1 hi.2 o1
  rw [if_neg o1]
  by_cases o2 : (rd_T63 l0 a1).f0 = 12
  ·rw [if_pos o2]
   unfold nx2
   have hs := nx_sorted (wrap64 (a1 + 1)) (rd_T63 l0 a1).f4
   by_cases hlt : (rd_T63 l0 a1).f4 < wrap64 (a1 + 1)
   ·rw [if_pos hlt] at hs ⊢
    exact nx_12 A0 c0 l0 a1 _ _ _ w hr0 hi.1 hi.2 o2 rfl hs
   ·rw [if_neg hlt] at hs ⊢
    exact nx_12 A0 c0 l0 a1 _ _ _ w hr0 hi.1 hi.2 o2 rfl hs
  ·rw [if_neg o2]
   exact nx_else A0 c0 l0 a1 w hr0 hi.1 hi.2 o1 o2 o3
 ·rw [if_neg hi] at h
  cases h

/-! ### impl_copyInts: function 82 -/
def impl_copyInts.f (l0 : List Int) : Option (List Int) := (some (([] : List Int) : List Int)).bind fun y450 => (if y450.length + l0.length < 17592186044416 then (some (y450 ++ l0)) else (none))
set_option maxHeartbeats 80000000 in
set_option maxRecDepth 100000 in
theorem impl_copyInts.calls (A0 : Option Addr) (c0 : Nat) (l0 : List Int) (r : List Int) (w : World) (hr0 : Kd.C (Kd.int .i64) w A0 l0.length l0) (hc0 : l0.length ≤ c0) (h : impl_copyInts.f l0 = some r) :
  Calls Try.prog 82 #[.slice A0 l0.length c0] w fun e w' => ∃ v0_ : Value, e = .returned (v0_) ∧ Kd.R (Kd.int .i64) 3 w' w.heap.size (fun _ => True) v0_ r ∧ Below w.heap.size w w' := by
 have HR0 := Aside0.mk hr0
 have HC0 := Aside0.mk hc0
 clear hr0 hc0
 have HB := Aside0.mk (Below.refl w.heap.size w)
 have H : ((some (([] : List Int) : List Int)).bind fun y450 => (if y450.length + l0.length < 17592186044416 then (some (y450 ++ l0)) else (none))) = some r := h
 clear h
 obtain ⟨y450, hy450⟩ : ∃ y_ : List Int, y_ = (([] : List Int)) := ⟨_, rfl⟩
 replace H := yy_ H hy450
 have Ny450 := Aside0.mk hy450
 clear hy450
 by_cases c2 : y450.length + l0.length < 17592186044416
 ·rw [if_pos c2] at H
  have LMc2 := Aside0.mk c2
  clear c2
  obtain ⟨y453, hy453⟩ : ∃ y_ : List Int, y_ = (y450 ++ l0) := ⟨_, rfl⟩
  replace H : (some y453) = some r := by rw [hy453]; exact H
  have Ny453 := Aside0.mk hy453
  clear hy453
  obtain rfl := Option.some.inj H
  go_enter Try.func82, Try.ntmps82
  go_wp2_with (first | ((with_reducible refine gate_dst (N := 3) rfl ?_); refine Kd.R_lit (Kd.int .i64) _ 3 ?hg (N := 3) ?hd (xs := ([] : List Int)) (inner := []) (ok := fun _ => True) (okp := fun _ => True) ?hr ?hp (fun _ hk => hk) trivial (Below.refl _ _) (Nat.le_refl _) (by simp) ?_; (case hd => rfl); (case hg => rfl); (case hr => first | (go_simp; done) | (go_simp; rfl)); (case hp => exact (Reps.none _ _)); intro v451 w3 ho4 hb hg_ hnew_; clear hg_ hnew_; (first | rw [← Ny450.out] at ho4 | (simp only [Int.reduceToNat] at ho4; rw [← Ny450.out] at ho4)); refine swap2_ (Kd.R_lower ho4 (below_size atgB_)) (below_step atgB_ hb) ?_; clear HB; intro HO452 HB; clear hb ho4) | ((with_reducible refine gate_builtin (b := .append) (xs := #[.tmp 3, .tmp 4]) rfl ?_); at_builtin; refine Kd.R_append_rows (Kd.int .i64) (w0 := w) w.heap.size rfl (.tmp 3) (.tmp 4) 34 3 (.int .i64 0) 8 rfl Try.underlying34 info3 rfl (by decide) (by omega) v451 y450 l0 _ _ _ (fun _ => True) (fun _ => False) rfl rfl ?aO ?aR (fun _ _ h => h) (fun _ h => h.elim) ?aF ?aB ?aS ?aL ?_; (case aR => repeat (first | exact (Kd.C_below HR0.out HB.out) | (with_reducible refine Kd.C_alloc ?_ _) | (with_reducible refine Kd.C_drewN ?_ _) | (with_reducible refine Kd.C_drew ?_))); (case aB => exact atgB_); (case aF => exact (fun _ _ => trivial)); (case aO => exact (by exact toR_ (HO452.out))); (case aS => exact (below_size atgB_)); (case aL => have := LMc2.out; omega); intro v454 w5 ho hb hg hat; rw [← Ny453.out] at ho; refine swap2_ (hb) (ho) ?_; clear HB HO452; intro HB HO455; clear ho hb hg hat))
  go_ret
  exact ⟨_, retT_, by exact toR_ (HO455.out), atgB_⟩
 ·rw [if_neg c2] at H
  exact absurd H (by simp)

end Go.Proofs.Ytocimkpafakiaaa.XFnExactTrimProg
