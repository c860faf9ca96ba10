/- Each Go function that the law reaches as a Lean function, and that Go comes to just its answer; written by this session's xprint.py over the kit's printer. -/
import Derived.Test.YtocimkpafakiaaaXFnExactTrimProgx0
import Derived.Test.YtocimkpafakiaaaXFnExactTrimProgx14
import Derived.Test.YtocimkpafakiaaaXFnExactTrimProgx16
import Derived.Test.YtocimkpafakiaaaXFnExactTrimProgx19
namespace Go.Proofs.Ytocimkpafakiaaa.XFnExactTrimProg
open Go.RowKit Go.Proofs.YtocimkpafakiaaaW.PrintWords Go.Proofs.YtocimkpafakiaaaW.PrintLast Go.Proofs.YtocimkpafakiaaaW.PrintMore
attribute [local go_sem] max2_int min2_int max_two min_two max_three min_three max_four min_four   -- for this text's walks alone
set_option linter.unusedVariables false
set_option linter.unusedSimpArgs false

theorem att21_0_0 {p : Prop} (h : p := by repeat (first | (with_reducible first | exact HB.out | apply below_alloc | apply pw_below_drewN | apply below_drew1 | refine below_set ?_ GE572.out | refine below_set ?_ GE573.out | refine below_set ?_ GE577.out) | exact HB.out)) : p := h
theorem att21_0_1 {p : Prop} (h : p := by repeat (first | (with_reducible first | exact HB.out | apply below_alloc | apply pw_below_drewN | apply below_drew1 | refine below_set ?_ GE587.out) | exact HB.out)) : p := h
theorem att21_0_2 {p : Prop} (h : p := by (with_reducible repeat (first | refine blk_drewN ?_ _ | refine blk_drew ?_ | refine blk_alloc ?_ _)); exact BK572.out) : p := h
theorem att21_0_3 {p : Prop} (h : p := by repeat (first | (with_reducible first | exact HB.out | apply below_alloc | apply pw_below_drewN | apply below_drew1 | refine below_set ?_ GE572.out | refine below_set ?_ GE573.out) | exact HB.out)) : p := h
theorem att21_0_6 {p : Prop} (h : p := by (with_reducible repeat (first | refine blk_drewN ?_ _ | refine blk_drew ?_ | refine blk_alloc ?_ _)); exact BK573.out) : p := h
theorem att21_0_8 {p : Prop} (h : p := by (with_reducible repeat (first | refine blk_drewN ?_ _ | refine blk_drew ?_ | refine blk_alloc ?_ _)); exact BK587.out) : p := h
theorem att21_0_9 {p : Prop} (h : p := by repeat (first | (with_reducible first | exact HB.out | apply below_alloc | apply pw_below_drewN | apply below_drew1 | refine below_set ?_ GE572.out) | exact HB.out)) : p := h
theorem att21_0_12 {p : Prop} (h : p := by (with_reducible repeat (first | refine blk_drewN ?_ _ | refine blk_drew ?_ | refine blk_alloc ?_ _)); exact BK577.out) : p := h
theorem att21_0_13 {p : Prop} (h : p := by exact toS_ (HO_578001.out)) : p := h
theorem att21_0_14 {p : Prop} (h : p := by exact toR_ (HO_578000.out)) : p := h
/-! ### impl_copyProg: function 125 -/
def impl_copyProg.l0 : Nat → List (List (S63)) → Int → Int → List Int → List (List (S63)) → Option (List Int × (List (List (S63))))
 | 0, _, _, _, _, _ => none
 | k + 1, x11, x12, x13, x578000, x578001 => if x13 < x12 then (if 0 ≤ x13 then (if x13 < (x11.length : Int) then ((impl_copyBody.f (rd_L4 x11 x13)).bind fun t579 => (if x578001.length < 5864062014805 then (impl_copyProg.l0 k x11 x12 (wrap64 (x13 + 1)) x578000 (x578001 ++ [t579])) else (none))) else (none)) else (none)) else (some (x578000, x578001))
def impl_copyProg.f (k : Nat) (l0_0 : List Int) (l0_1 : List (List (S63))) : Option (List Int × (List (List (S63)))) := (impl_copyInts.f l0_0).bind fun t574 => (impl_copyProg.l0 k l0_1 (l0_1.length : Int) 0 t574 ([] : List (List (S63))))
theorem impl_copyProg.mono_l : ∀ k, (∀ y0 y1 y2 y3 y4, LeO (impl_copyProg.l0 k y0 y1 y2 y3 y4) (impl_copyProg.l0 (k + 1) y0 y1 y2 y3 y4))
 | 0 => fun _ _ _ _ _ r h => by simp [impl_copyProg.l0] at h
 | k + 1 => by
  have ih0 := impl_copyProg.mono_l k
  ·intro y0 y1 y2 y3 y4
   unfold impl_copyProg.l0
   repeat' (with_reducible first | exact ih0 .. | exact LeO.refl _ | exact LeO.none _ | refine LeO.ite ?_ ?_ | refine LeO.bind ?_ (fun _ => ?_))
theorem impl_copyProg.mono : ∀ a0 a1 k, LeO (impl_copyProg.f k a0 a1) (impl_copyProg.f (k + 1) a0 a1) := by
 intro a0 a1 k
 have ih0 := impl_copyProg.mono_l k
 unfold impl_copyProg.f
 repeat' (with_reducible first | exact ih0 .. | exact LeO.refl _ | exact LeO.none _ | refine LeO.ite ?_ ?_ | refine LeO.bind ?_ (fun _ => ?_))
def impl_copyProg.T5 : Bool × List (List Nat × List Nat) := (true, [([], []), ([0], [0]), ([], []), ([2], [2]), ([3], [3]), ([1, 4, 3], [1, 4]), ([0, 1, 2, 3, 4, 5], []), ([6, 5, 5, 0, 1, 2, 3, 4, 5], [5, 6])])
def impl_copyProg.B5 : List Nat := [0, 1, 0, 4, 12, 31, 63, 127]
theorem impl_copyProg.tab5 : rtab .any (opsOf Try.f125 5) = impl_copyProg.T5 := by kernel_rfl
theorem impl_copyProg.bits5 : waitsOk impl_copyProg.T5.2 impl_copyProg.B5 = true := by kernel_rfl
set_option maxHeartbeats 80000000 in
set_option maxRecDepth 100000 in
theorem impl_copyProg.calls (k : Nat) (A0_0 : Option Addr) (c0_0 : Nat) (l0_0 : List Int) (A0_1 : Option Addr) (c0_1 : Nat) (l0_1 : List (List (S63))) (r1 : List Int) (r2 : List (List (S63))) (w : World) (hr0_0 : Kd.C (Kd.int .i64) w A0_0 l0_0.length l0_0) (hc0_0 : l0_0.length ≤ c0_0) (hr0_1 : Kd.C (Kd.slice 63 k63) w A0_1 l0_1.length l0_1) (hc0_1 : l0_1.length ≤ c0_1) (h : impl_copyProg.f k l0_0 l0_1 = some (r1, r2)) :
  Calls Try.prog 125 #[.agg #[.slice A0_0 l0_0.length c0_0, .slice A0_1 l0_1.length c0_1]] w fun e w' => ∃ v0_ v1_ : Value, e = .returned (.agg #[v0_, v1_]) ∧ Kd.R (Kd.int .i64) 3 w' w.heap.size (fun _ => True) v0_ r1 ∧ Kd.S (Kd.slice 63 k63) 24 w' w.heap.size (fun _ => True) v1_ r2 ∧ Below w.heap.size w w' := by
 have hu56 := Try.underlying56
 have HR0_0 := Aside0.mk hr0_0
 have HC0_0 := Aside0.mk hc0_0
 clear hr0_0 hc0_0
 have HR0_1 := Aside0.mk hr0_1
 have HC0_1 := Aside0.mk hc0_1
 clear hr0_1 hc0_1
 have HB := Aside0.mk (Below.refl w.heap.size w)
 have H : ((impl_copyInts.f l0_0).bind fun t574 => (impl_copyProg.l0 k l0_1 (l0_1.length : Int) 0 t574 ([] : List (List (S63))))) = some (r1, r2) := h
 clear h
 replace H := Option.bind_eq_some_iff.mp H
 obtain ⟨t574, A20, H⟩ := H
 (try dsimp only at H)
 have A2 := Aside0.mk A20
 clear A20
 have H' := Aside0.mk H
 clear H
 go_enter Try.func125, Try.ntmps125
 go_wp2_with (first | ((with_reducible refine gate_dst (N := 1) rfl ?_); refine box_event ?hg (N := 1) ?hd (cs := #[.slice A0_0 l0_0.length c0_0, .slice A0_1 l0_1.length c0_1]) (t := 56) ?hr ?_; (case hd => rfl); (case hg => rfl); (case hr => first | (go_simp; done) | (go_simp; rfl)); intro gb572 hg w3 hbox hb; refine swap4_ (below_step atgB_ hb) (hbox) ((by rw [hg]; exact (below_size atgB_) : w.heap.size ≤ gb572)) ((by rw [hg]; exact (below_size atgB_) : w.heap.size ≤ gb572)) ?_; clear HB; intro HB BK572 GW572 GE572; clear hb hbox hg) | ((with_reducible refine gate_dst (N := 2) rfl ?_); refine box_event ?hg (N := 2) ?hd (cs := #[.slice none 0 0, .slice none 0 0]) (t := 56) ?hr ?_; (case hd => rfl); (case hg => rfl); (case hr => first | (go_simp; done) | (go_simp; rfl)); intro gb573 hg w4 hbox hb; refine swap7_ (blk_below (g := gb572) (o := .cells #[.slice A0_0 l0_0.length c0_0, .slice A0_1 l0_1.length c0_1] 56 (0, 0)) att21_0_2 hb) (below_step att21_0_9 hb) (hbox) ((by rw [hg]; exact (below_size att21_0_9) : w.heap.size ≤ gb573)) ((by rw [hg]; exact (below_size att21_0_9) : w.heap.size ≤ gb573)) ((by rw [hg]; exact Nat.ne_of_lt (blk_lt (g := gb572) (o := .cells #[.slice A0_0 l0_0.length c0_0, .slice A0_1 l0_1.length c0_1] 56 (0, 0)) att21_0_2) : gb572 ≠ gb573)) ((by rw [hg]; exact Nat.ne_of_gt (blk_lt (g := gb572) (o := .cells #[.slice A0_0 l0_0.length c0_0, .slice A0_1 l0_1.length c0_1] 56 (0, 0)) att21_0_2) : gb573 ≠ gb572)) ?_; clear BK572 HB; intro BK572 HB BK573 GW573 GE573 NB572_573 NB573_572; clear hb hbox hg; have hnb5 := NB572_573.out; have hnc5 := NB573_572.out; obtain ⟨hcz6_0, hcz6_1, hfz6_0, hfz6_1⟩ := blkB2_ BK572) | ((with_reducible refine gate_callee (f := 82) rfl ?_); refine goesL_ (some 8) rfl rfl Try.func82 (by kernel_rfl) rfl #[.slice A0_0 l0_0.length c0_0] rfl atgM_ ?_; (with_reducible refine (impl_copyInts.calls _ _ l0_0 t574 _ ?side1 ?side2 A2.out).mono ?_); (case side1 => repeat (first | exact (Kd.C_below HR0_0.out HB.out) | (with_reducible refine Kd.C_alloc ?_ _) | (with_reducible refine Kd.C_drewN ?_ _) | (with_reducible refine Kd.C_drew ?_))); (case side2 => exact HC0_0.out); rintro e w7 ⟨v575, rfl, ho0, hb⟩; refine ⟨_, rfl, ?_⟩; refine swap4_ (Kd.R_lower ho0 (below_size att21_0_3)) (blk_below (g := gb572) (o := .cells #[.slice A0_0 l0_0.length c0_0, .slice A0_1 l0_1.length c0_1] 56 (0, 0)) att21_0_2 hb) (blk_below (g := gb573) (o := .cells #[.slice none 0 0, .slice none 0 0] 56 (0, 0)) att21_0_6 hb) (below_step att21_0_3 hb) ?_; clear BK572 BK573 HB; intro HO576 BK572 BK573 HB; (try clear hb); (try clear hb2); (try clear hk); (try clear hi); (try clear ho0); obtain ⟨Ao8, co8, eo8⟩ := Kd.R_slice HO576.out; subst eo8) | ((with_reducible refine gate_dst (N := 3) rfl ?_); refine box_event ?hg (N := 3) ?hd (cs := #[.slice none 0 0, .slice none 0 0]) (t := 56) ?hr ?_; (case hd => rfl); (case hg => rfl); (case hr => first | (go_simp; done) | (go_simp; rfl)); intro gb577 hg w9 hbox hb; have n0_ := Aside0.mk (Kd.R_below (by exact toR_ (HO576.out)) hb); have n1_ := Aside0.mk (blk_below (g := gb572) (o := .cells #[.slice A0_0 l0_0.length c0_0, .slice A0_1 l0_1.length c0_1] 56 (0, 0)) att21_0_2 hb); have n2_ := Aside0.mk (blk_below (g := gb573) (o := .cells #[.slice none 0 0, .slice none 0 0] 56 (0, 0)) att21_0_6 hb); have n3_ := Aside0.mk (below_step att21_0_3 hb); have n4_ := Aside0.mk (hbox); have n5_ := Aside0.mk ((by rw [hg]; exact (below_size att21_0_3) : w.heap.size ≤ gb577)); have n6_ := Aside0.mk ((by rw [hg]; exact (below_size att21_0_3) : w.heap.size ≤ gb577)); have n7_ := Aside0.mk ((by rw [hg]; exact Nat.ne_of_lt (blk_lt (g := gb572) (o := .cells #[.slice A0_0 l0_0.length c0_0, .slice A0_1 l0_1.length c0_1] 56 (0, 0)) att21_0_2) : gb572 ≠ gb577)); have n8_ := Aside0.mk ((by rw [hg]; exact Nat.ne_of_gt (blk_lt (g := gb572) (o := .cells #[.slice A0_0 l0_0.length c0_0, .slice A0_1 l0_1.length c0_1] 56 (0, 0)) att21_0_2) : gb577 ≠ gb572)); have n9_ := Aside0.mk ((by rw [hg]; exact Nat.ne_of_lt (blk_lt (g := gb573) (o := .cells #[.slice none 0 0, .slice none 0 0] 56 (0, 0)) att21_0_6) : gb573 ≠ gb577)); have n10_ := Aside0.mk ((by rw [hg]; exact Nat.ne_of_gt (blk_lt (g := gb573) (o := .cells #[.slice none 0 0, .slice none 0 0] 56 (0, 0)) att21_0_6) : gb577 ≠ gb573)); clear HO576; clear BK572; clear BK573; clear HB; have HO576 := n0_; have BK572 := n1_; have BK573 := n2_; have HB := n3_; have BK577 := n4_; have GW577 := n5_; have GE577 := n6_; have NB572_577 := n7_; have NB577_572 := n8_; have NB573_577 := n9_; have NB577_573 := n10_; clear n0_ n1_ n2_ n3_ n4_ n5_ n6_ n7_ n8_ n9_ n10_; clear hb hbox hg; have hnb10 := NB577_572.out; have hnc10 := NB572_577.out; have hnb11 := NB577_573.out; have hnc11 := NB573_577.out; obtain ⟨hcz12_0, hcz12_1, hfz12_0, hfz12_1⟩ := blkB2_ BK577; obtain ⟨hcz13_0, hcz13_1, hfz13_0, hfz13_1⟩ := blkB2_ BK572))
 go_loopg [13] k (fun kq v13 w' => ∃ (x13_1 : Int) (x578001_1 : List (List (S63))) (u578001 : Value), v13 = .int .i64 x13_1 ∧ Aside0 (impl_copyProg.l0 kq l0_1 (l0_1.length : Int) x13_1 t574 x578001_1 = some (r1, r2)) ∧ Aside0 (kq ≤ k) ∧ Aside0 (Kd.R (Kd.int .i64) 3 w' w.heap.size (fun _ => True) (.slice Ao8 t574.length co8) t574) ∧ Aside0 (Kd.S (Kd.slice 63 k63) 24 w' w.heap.size (fun _ => True) u578001 x578001_1) ∧ Aside0 (w'.heap[gb572]? = some (.cells #[(.slice A0_0 l0_0.length c0_0), (.slice A0_1 l0_1.length c0_1)] 56 (0, 0))) ∧ Aside0 (w'.heap[gb573]? = some (.cells #[(.slice none 0 0), (.slice none 0 0)] 56 (0, 0))) ∧ Aside0 (w'.heap[gb577]? = some (.cells #[(.slice Ao8 t574.length co8), u578001] 56 (0, 0))) ∧ Aside0 (Below w.heap.size w w'))
 case atStart => exact ⟨(0), (([] : List (List (S63)))), (.slice none 0 0), atgR_, H', ⟨Nat.le_refl _⟩, ⟨by exact toR_ (Kd.R_mono (farR2_ (Kd.R_types HO576.out BK577.out (by decide))) (fun _ hk => trivial))⟩, ⟨by first | exact Kd.S_nil _ _ _ _ _ | exact Kd.N_nil _ _ _ _ _ | exact Kd.V_nil _ _ _ _ _ | exact Kd.Q_nil _ _ _ _ _ | exact Kd.R_nil _ _ _ _ _⟩, ⟨by (with_reducible repeat (first | refine blk_drewN ?_ _ | refine blk_drew ?_ | refine blk_alloc ?_ _)); refine blk_far ?_ NB572_577.out _; (with_reducible repeat (first | refine blk_drewN ?_ _ | refine blk_drew ?_ | refine blk_alloc ?_ _)); refine blk_far ?_ NB572_577.out _; (with_reducible repeat (first | refine blk_drewN ?_ _ | refine blk_drew ?_ | refine blk_alloc ?_ _)); exact BK572.out⟩, ⟨by (with_reducible repeat (first | refine blk_drewN ?_ _ | refine blk_drew ?_ | refine blk_alloc ?_ _)); refine blk_far ?_ NB573_577.out _; (with_reducible repeat (first | refine blk_drewN ?_ _ | refine blk_drew ?_ | refine blk_alloc ?_ _)); refine blk_far ?_ NB573_577.out _; (with_reducible repeat (first | refine blk_drewN ?_ _ | refine blk_drew ?_ | refine blk_alloc ?_ _)); exact BK573.out⟩, ⟨by (with_reducible repeat (first | refine blk_drewN ?_ _ | refine blk_drew ?_ | refine blk_alloc ?_ _)); refine blk_put (cs := #[.slice Ao8 t574.length co8, .slice none 0 0]) ?_ 1 _ rfl; (with_reducible repeat (first | refine blk_drewN ?_ _ | refine blk_drew ?_ | refine blk_alloc ?_ _)); refine blk_put (cs := #[.slice none 0 0, .slice none 0 0]) ?_ 0 _ rfl; (with_reducible repeat (first | refine blk_drewN ?_ _ | refine blk_drew ?_ | refine blk_alloc ?_ _)); exact BK577.out⟩, ⟨att21_0_0⟩⟩
 case round =>
  clear H'
  try clear c1
  try clear p2
  try clear c5
  try clear c8
  try clear c10
  try clear c11
  try clear c12
  try clear hcz12_0 hcz12_1
  try clear hcz13_0 hcz13_1
  try clear hcz6_0 hcz6_1
  try clear hfz12_0 hfz12_1
  try clear hfz13_0 hfz13_1
  try clear hfz6_0 hfz6_1
  obtain ⟨x13_1, x578001_1, u578001, rfl, HA, HK1, HO_578000, HO_578001, BK572, BK573, BK577, HB⟩ := hrel
  cases gk with
  | zero => exact absurd HA.out (by simp [impl_copyProg.l0])
  | succ k1 =>
   have H := HA.out
   clear HA
   simp only [impl_copyProg.l0] at H
   by_cases c14 : x13_1 < (l0_1.length : Int)
   ·rw [if_pos c14] at H
    have c14b0 := decide_eq_true c14
    clear c14
    by_cases c15 : 0 ≤ x13_1
    ·rw [if_pos c15] at H
     have c15b0 := decide_eq_true c15
     clear c15
     by_cases c16 : x13_1 < (l0_1.length : Int)
     ·rw [if_pos c16] at H
      have c16b0 := decide_eq_true c16
      clear c16
      replace H := Option.bind_eq_some_iff.mp H
      obtain ⟨t579, A170, H⟩ := H
      (try dsimp only at H)
      have A17 := Aside0.mk A170
      clear A170
      by_cases c18 : x578001_1.length < 5864062014805
      ·rw [if_pos c18] at H
       have LMc18 := Aside0.mk c18
       clear c18
       obtain ⟨y582, hy582⟩ : ∃ y_ : List (List (S63)), y_ = (x578001_1 ++ [t579]) := ⟨_, rfl⟩
       replace H : (impl_copyProg.l0 k1 l0_1 (l0_1.length : Int) (wrap64 (x13_1 + 1)) t574 y582) = some (r1, r2) := by rw [hy582]; exact H
       have Ny582 := Aside0.mk hy582
       clear hy582
       have H' := Aside0.mk H
       clear H
       have p578 : 0 ≤ (x13_1 : Int) := of_decide_eq_true atgA_
       have q578 : x13_1 < (l0_1.length : Int) := of_decide_eq_true atgA_
       obtain ⟨ad578, A578_0, c578_0, e578, hx578_0, hl578_0, hi578_0⟩ := at_L4 HR0_1.out x13_1 p578 q578
       cases e578
       replace hx578_0 := blc_ HB hx578_0
       have HR578_0 := Aside0.mk hi578_0
       have HC578_0 := Aside0.mk hl578_0
       clear hi578_0 hl578_0
       replace p578 := eq_true p578
       replace q578 := eq_true q578
       try go_wp2
       have n0_ := Aside0.mk (Kd.R_drew HO_578000.out)
       have n1_ := Aside0.mk (Kd.S_drew HO_578001.out)
       have n2_ := Aside0.mk (blk_drew BK572.out)
       have n3_ := Aside0.mk (blk_drew BK573.out)
       have n4_ := Aside0.mk (blk_drew BK577.out)
       have n5_ := Aside0.mk (below_drew1 HB.out)
       clear HO_578000
       clear HO_578001
       clear BK572
       clear BK573
       clear BK577
       clear HB
       have HO_578000 := n0_
       have HO_578001 := n1_
       have BK572 := n2_
       have BK573 := n3_
       have BK577 := n4_
       have HB := n5_
       clear n0_ n1_ n2_ n3_ n4_ n5_
       refine start_ (n := 8) (S := fun w' => w'.cell? ⟨gb577, 0, none⟩ = some (.slice Ao8 t574.length co8) ∧ w'.cell? ⟨gb577, 1, none⟩ = some (u578001)) (ds := [7]) (tf_ 0 8) (by kernel_rfl) rfl rfl ⟨(blk_cell BK577.out 0).trans rfl, (blk_cell BK577.out 1).trans rfl⟩ (fun hHeld => ?_); refine with_tabW impl_copyProg.tab5 impl_copyProg.bits5 (fun HT_ HW_ => ?_)
       generalize wr.drew = w19 at HO_578000 HO_578001 BK572 BK573 BK577 HB hHeld ⊢
       refine pureQ_ (i := 0) (N := some 17) (tf_ 1 7) (h := ?_)
       refine pureQ_ (i := 2) (N := some 19) #[true, false, true, false, false, false, false, false] (h := ?_)
       refine takeQ_ (i := 1) (N := some 18) (tf_ 3 5) hHeld (hy := Or.inl ⟨by rfl, by rintro w' ⟨s0, s1⟩; go_simp; with_reducible rfl⟩) (h := ?_)
       refine one_ (i := 3) (N := some 20) (tf_ 4 4) rfl rfl (one_of HT_.out (by kernel_rfl)) (by decide) (fun K hK => ?_)
       refine goes_ Try.func66 (by kernel_rfl) rfl #[.slice A578_0 (rd_L4 l0_1 x13_1).length c578_0] (by rfl) rfl rfl atgM_ ?_
       with_reducible refine (impl_copyBody.calls _ _ (rd_L4 l0_1 x13_1) t579 _ ?side1 ?side2 A17.out).mono ?_
       (case side1 => repeat (first | exact (Kd.C_below HR578_0.out HB.out) | (with_reducible refine Kd.C_alloc ?_ _) | (with_reducible refine Kd.C_drewN ?_ _) | (with_reducible refine Kd.C_drew ?_)))
       (case side2 => exact HC578_0.out)
       rintro e w20 ⟨v580, rfl, ho0, hb⟩
       refine ⟨_, rfl, ?_⟩
       have n0_ := Aside0.mk (Kd.R_below att21_0_14 hb)
       have n1_ := Aside0.mk (Kd.S_elder' att21_0_13 (Kd.R_base ho0) hb)
       have n2_ := Aside0.mk (Kd.R_lower ho0 (below_size att21_0_0))
       have n3_ := Aside0.mk (blk_below (g := gb572) (o := .cells #[.slice A0_0 l0_0.length c0_0, .slice (some ad578) l0_1.length c0_1] 56 (0, 0)) att21_0_2 hb)
       have n4_ := Aside0.mk (blk_below (g := gb573) (o := .cells #[.slice none 0 0, .slice none 0 0] 56 (0, 0)) att21_0_6 hb)
       have n5_ := Aside0.mk (blk_below (g := gb577) (o := .cells #[.slice Ao8 t574.length co8, u578001] 56 (0, 0)) att21_0_12 hb)
       have n6_ := Aside0.mk (below_step att21_0_0 hb)
       clear HO_578000
       clear HO_578001
       clear BK572
       clear BK573
       clear BK577
       clear HB
       have HO_578000 := n0_
       have HO_578001 := n1_
       have HO581 := n2_
       have BK572 := n3_
       have BK573 := n4_
       have BK577 := n5_
       have HB := n6_
       clear n0_ n1_ n2_ n3_ n4_ n5_ n6_
       (try clear hb)
       (try clear hb2)
       (try clear hk)
       (try clear hi)
       (try clear ho0)
       obtain ⟨Ao22, co22, eo22⟩ := Kd.R_slice HO581.out
       (first | subst eo22 | (injection eo22 with f1_ f2_ f3_; have f4_ := f1_.symm; have f5_ := f3_.symm; clear f1_ f2_ f3_; subst f4_; subst f5_))
       refine hK.out _ _ ⟨(blk_cell BK577.out 0).trans rfl, (blk_cell BK577.out 1).trans rfl⟩ (fun hHeld => ?_)
       clear hK K
       refine normP_ (h := ?_)
       refine one_ (i := 4) (N := some 21) (tf_ 5 3) rfl rfl (one_of HT_.out (by kernel_rfl)) (by decide) (fun K hK => ?_)
       refine value_ (w1 := ?_) (v := ?_) (by rfl) rfl ?_ ?_
       rotate_left 2
       ·go_simp
        constructor
        ·rfl
        ·rfl
       refine hK.out _ _ ⟨(blk_cell (blk_alloc BK577.out _) 0).trans rfl, (blk_cell (blk_alloc BK577.out _) 1).trans rfl⟩ (fun hHeld => ?_)
       clear hK K
       refine normP_ (h := ?_)
       refine one_ (i := 5) (N := some 22) (tf_ 6 2) rfl rfl (one_of HT_.out (by kernel_rfl)) (by decide) (fun K hK => ?_)
       refine Kd.S_append_step (Kd.slice 63 k63) (w0 := w) w.heap.size (by rfl) (.tmp 18) (.tmp 21) 54 24 (.slice none 0 0) 24 rfl Try.underlying54 info24 rfl (by decide) (by omega) u578001 x578001_1 t579 [.slice Ao22 t579.length co22] (fun _ => True) (fun k_ => some k_ = (.slice Ao22 t579.length co22 : Value).ownBlock) rfl rfl ?aP (fun k_ hk_ => ((Kd.R_mono (ok' := fun k_ => ((fun _ => True)) k_ ∧ some k_ ≠ (u578001 : Value).ownBlock) (Kd.R_apart' (HO581.out) (Kd.S_typed HO_578001.out) (by decide)) (fun k_ hk => ⟨trivial, hk.2⟩))).1 k_ hk_.symm) ?aF ?aO ?aB ?aS ?aL ?_
       (case aP => exact Kd.M_row (Kd.R_mono (Kd.R_tight rfl (Kd.R_mono (ok' := fun k_ => ((fun _ => True)) k_ ∧ some k_ ≠ (u578001 : Value).ownBlock) (Kd.R_apart' (HO581.out) (Kd.S_typed HO_578001.out) (by decide)) (fun k_ hk => ⟨trivial, hk.2⟩))) (fun _ h_ => h_)))
       (case aB => exact att21_0_0)
       (case aF => exact (fun _ _ => trivial))
       (case aO => exact (by exact toS_ (Kd.S_mono HO_578001.out (fun k_ hk => ⟨trivial, fun e_ => hk.2 e_⟩))))
       (case aS => exact (below_size att21_0_0))
       (case aL => have := LMc18.out; omega)
       intro v583 w21 ho hb hg hat
       rw [← Ny582.out] at ho
       have n0_ := Aside0.mk (Kd.R_over' att21_0_14 (Kd.S_typed att21_0_13) (by decide) hg)
       have n1_ := Aside0.mk (blk_grown (g := gb572) (o := .cells #[.slice A0_0 l0_0.length c0_0, .slice (some ad578) l0_1.length c0_1] 56 (0, 0)) att21_0_2 hg (Kd.S_ne HO_578001.out BK572.out (by decide)))
       have n2_ := Aside0.mk (blk_grown (g := gb573) (o := .cells #[.slice none 0 0, .slice none 0 0] 56 (0, 0)) att21_0_6 hg (Kd.S_ne HO_578001.out BK573.out (by decide)))
       have n3_ := Aside0.mk (blk_grown (g := gb577) (o := .cells #[.slice Ao8 t574.length co8, u578001] 56 (0, 0)) att21_0_12 hg (Kd.S_ne HO_578001.out BK577.out (by decide)))
       have n4_ := Aside0.mk (hb)
       have n5_ := Aside0.mk (ho)
       clear HO_578000
       clear BK572
       clear BK573
       clear BK577
       clear HB
       clear HO_578001
       clear HO581
       have HO_578000 := n0_
       have BK572 := n1_
       have BK573 := n2_
       have BK577 := n3_
       have HB := n4_
       have HO584 := n5_
       clear n0_ n1_ n2_ n3_ n4_ n5_
       clear ho hb hg hat
       obtain ⟨Ao23, co23, eo23⟩ := Kd.S_slice HO584.out
       (first | subst eo23 | (injection eo23 with f1_ f2_ f3_; have f4_ := f1_.symm; have f5_ := f3_.symm; clear f1_ f2_ f3_; subst f4_; subst f5_))
       refine hK.out _ _ ⟨(blk_cell BK577.out 0).trans rfl, (blk_cell BK577.out 1).trans rfl⟩ (fun hHeld => ?_)
       clear hK K
       refine normP_ (h := ?_)
       refine pureQ_ (i := 6) (N := some 23) (tf_ 7 1) (h := ?_)
       refine last_ (i := 7) (N := none) (tf_ 8 0) rfl rfl (one_of HT_.out (by kernel_rfl)) (by decide) (fun K hK => ?_)
       have hs24 : w21.cell? ⟨gb577, 1, none⟩ = some (u578001) := (blk_cell BK577.out 1).trans rfl
       have hfs24 := blk_frozen BK577.out 1
       have hns24_0 := NB572_577.out
       have hns24_1 := NB573_577.out
       have hms24_0 := NB577_572.out
       have hms24_1 := NB577_573.out
       refine skip_ (w1 := ?_) (by rfl) rfl ?_ ?_
       rotate_left
       ·go_simp
        rfl
       refine hK.out _ _ ?_
       clear hK K
       refine done_ (done_of HT_.out (by kernel_rfl)) ?_
       try go_wp2
       go_roundg k1
       case measure => have := HK1.out; omega
       case rel => exact ⟨(wrap64 (x13_1 + 1)), (y582), (.slice Ao23 y582.length co23), atgR_, H', ⟨by have := HK1.out; omega⟩, ⟨by exact toR_ (Kd.R_mono (Kd.R_far (p := ⟨gb577, 1, none⟩) (Kd.R_types HO_578000.out BK577.out (by decide)) (fun _ hk => hk.2) (.slice Ao23 y582.length co23)) (fun _ hk => trivial))⟩, ⟨by exact toS_ (Kd.S_mono (Kd.S_far (p := ⟨gb577, 1, none⟩) (Kd.S_types HO584.out BK577.out (by decide)) (fun _ hk => hk.2) (.slice Ao23 y582.length co23)) (fun _ hk => trivial))⟩, ⟨by (with_reducible repeat (first | refine blk_drewN ?_ _ | refine blk_drew ?_ | refine blk_alloc ?_ _)); refine blk_far ?_ NB572_577.out _; (with_reducible repeat (first | refine blk_drewN ?_ _ | refine blk_drew ?_ | refine blk_alloc ?_ _)); exact BK572.out⟩, ⟨by (with_reducible repeat (first | refine blk_drewN ?_ _ | refine blk_drew ?_ | refine blk_alloc ?_ _)); refine blk_far ?_ NB573_577.out _; (with_reducible repeat (first | refine blk_drewN ?_ _ | refine blk_drew ?_ | refine blk_alloc ?_ _)); exact BK573.out⟩, ⟨by (with_reducible repeat (first | refine blk_drewN ?_ _ | refine blk_drew ?_ | refine blk_alloc ?_ _)); refine blk_put (cs := #[.slice Ao8 t574.length co8, u578001]) ?_ 1 _ rfl; (with_reducible repeat (first | refine blk_drewN ?_ _ | refine blk_drew ?_ | refine blk_alloc ?_ _)); exact BK577.out⟩, ⟨att21_0_0⟩⟩
      ·rw [if_neg c18] at H
       exact absurd H (by simp)
     ·rw [if_neg c16] at H
      exact absurd H (by simp)
    ·rw [if_neg c15] at H
     exact absurd H (by simp)
   ·rw [if_neg c14] at H
    have c14b0 := decide_eq_false c14
    clear c14
    simp only [Option.some.injEq, Prod.mk.injEq] at H
    obtain ⟨rfl, rfl⟩ := H
    have hnb25 := NB577_572.out
    have hnc25 := NB572_577.out
    have hnb26 := NB577_573.out
    have hnc26 := NB573_577.out
    obtain ⟨hcz27_0, hcz27_1, hfz27_0, hfz27_1⟩ := blkB2_ BK577
    have hnb28 := NB573_572.out
    have hnc28 := NB572_573.out
    obtain ⟨hcz29_0, hcz29_1, hfz29_0, hfz29_1⟩ := blkB2_ BK573
    obtain ⟨Ao30, co30, eo30⟩ := Kd.S_slice HO_578001.out
    subst eo30
    go_wp2
    refine bodyPost_ret (results_cell_row rfl _ _ gb573 56 #[.slice Ao8 t574.length co8, .slice Ao30 x578001_1.length co30] (0, 0) _ rfl (by (with_reducible repeat (first | refine blk_drewN ?_ _ | refine blk_drew ?_ | refine blk_alloc ?_ _)); refine blk_put (cs := #[.slice Ao8 t574.length co8, .slice none 0 0]) ?_ 1 _ rfl; (with_reducible repeat (first | refine blk_drewN ?_ _ | refine blk_drew ?_ | refine blk_alloc ?_ _)); refine blk_put (cs := #[.slice none 0 0, .slice none 0 0]) ?_ 0 _ rfl; (with_reducible repeat (first | refine blk_drewN ?_ _ | refine blk_drew ?_ | refine blk_alloc ?_ _)); exact BK573.out) Try.underlying56 rfl (by kernel_rfl)) rfl ?_
    exact ⟨_, _, retT_, by exact toR_ (Kd.R_mono (farR2_ (Kd.R_types HO_578000.out BK573.out (by decide))) (fun _ hk => trivial)), by exact toS_ (Kd.S_mono (farS2_ (Kd.S_types HO_578001.out BK573.out (by decide))) (fun _ hk => trivial)), att21_0_0⟩

/-! ### impl_capsOk: function 143 -/
def impl_capsOk.l0 : Nat → List Int → Int → Int → Option (Bool)
 | 0, _, _, _ => none
 | k + 1, x5, x6, x7 => if x7 < x6 then (if 0 ≤ x7 then (if x7 < (x5.length : Int) then ((impl_within.f (rd x5 x7) 1 4).bind fun t586 => (if t586 = true then (impl_capsOk.l0 k x5 x6 (wrap64 (x7 + 1))) else (some false))) else (none)) else (none)) else (some true)
def impl_capsOk.f (k : Nat) (l0 : List Int) : Option (Bool) := impl_capsOk.l0 k l0 (l0.length : Int) 0
theorem impl_capsOk.mono_l : ∀ k, (∀ y0 y1 y2, LeO (impl_capsOk.l0 k y0 y1 y2) (impl_capsOk.l0 (k + 1) y0 y1 y2))
 | 0 => fun _ _ _ r h => by simp [impl_capsOk.l0] at h
 | k + 1 => by
  have ih0 := impl_capsOk.mono_l k
  ·intro y0 y1 y2
   unfold impl_capsOk.l0
   repeat' (with_reducible first | exact ih0 .. | exact LeO.refl _ | exact LeO.none _ | refine LeO.ite ?_ ?_ | refine LeO.bind ?_ (fun _ => ?_))
theorem impl_capsOk.mono : ∀ a0 k, LeO (impl_capsOk.f k a0) (impl_capsOk.f (k + 1) a0) := by
 intro a0 k
 have ih0 := impl_capsOk.mono_l k
 unfold impl_capsOk.f
 repeat' (with_reducible first | exact ih0 .. | exact LeO.refl _ | exact LeO.none _ | refine LeO.ite ?_ ?_ | refine LeO.bind ?_ (fun _ => ?_))
set_option maxHeartbeats 80000000 in
set_option maxRecDepth 100000 in
theorem impl_capsOk.calls (k : Nat) (A0 : Option Addr) (c0 : Nat) (l0 : List Int) (r : Bool) (w : World) (hr0 : Kd.C (Kd.int .i64) w A0 l0.length l0) (hc0 : l0.length ≤ c0) (h : impl_capsOk.f k l0 = some r) :
  Calls Try.prog 143 #[.slice A0 l0.length c0] w fun e w' => e = .returned (.bool r) ∧ Drawn0 w w' := by
 have HR0 := Aside0.mk hr0
 have HC0 := Aside0.mk hc0
 clear hr0 hc0
 have H : (impl_capsOk.l0 k l0 (l0.length : Int) 0) = some r := h
 clear h
 have H' := Aside0.mk H
 clear H
 go_enter Try.func143, Try.ntmps143
 go_wp2
 go_loopg [7] k (fun kq v7 w' => ∃ (x7_1 : Int), v7 = .int .i64 x7_1 ∧ Aside0 (impl_capsOk.l0 kq l0 (l0.length : Int) x7_1 = some r) ∧ Aside0 (kq ≤ k) ∧ Drawn0 w w')
 case atStart => exact ⟨(0), atgR_, H', ⟨Nat.le_refl _⟩, atgD_⟩
 case round =>
  clear H'
  try clear c1
  obtain ⟨x7_1, rfl, HA, HK1, ⟨m1, rfl⟩⟩ := hrel
  cases gk with
  | zero => exact absurd HA.out (by simp [impl_capsOk.l0])
  | succ k1 =>
   have H := HA.out
   clear HA
   simp only [impl_capsOk.l0] at H
   by_cases c2 : x7_1 < (l0.length : Int)
   ·rw [if_pos c2] at H
    have c2b0 := decide_eq_true c2
    clear c2
    by_cases c3 : 0 ≤ x7_1
    ·rw [if_pos c3] at H
     have c3b0 := decide_eq_true c3
     clear c3
     by_cases c4 : x7_1 < (l0.length : Int)
     ·rw [if_pos c4] at H
      have c4b0 := decide_eq_true c4
      clear c4
      replace H := Option.bind_eq_some_iff.mp H
      obtain ⟨t586, A50, H⟩ := H
      (try dsimp only at H)
      have A5 := Aside0.mk A50
      clear A50
      by_cases c6 : t586 = true
      ·subst c6
       rw [if_pos rfl] at H
       have H' := Aside0.mk H
       clear H
       have p585 : 0 ≤ (x7_1 : Int) := of_decide_eq_true atgA_
       have q585 : x7_1 < (l0.length : Int) := of_decide_eq_true atgA_
       obtain ⟨ad585, e585, hx585_0⟩ := Kd.at_int HR0.out x7_1 p585 q585
       cases e585
       replace p585 := eq_true p585
       replace q585 := eq_true q585
       go_wp2_with (first | ((with_reducible refine gate_callee (f := 79) rfl ?_); refine goesL_ (some 12) rfl rfl Try.func79 (by kernel_rfl) rfl #[.int .i64 (rd l0 x7_1), .int .i64 1, .int .i64 4] rfl atgM_ ?_; (with_reducible refine (impl_within.calls (rd l0 x7_1) 1 4 true _ A5.out).mono ?_); rintro e w' ⟨rfl, ⟨nd, rfl⟩⟩; refine ⟨_, rfl, ?_⟩))
       go_roundg k1
       case measure => have := HK1.out; omega
       case rel => exact ⟨(wrap64 (x7_1 + 1)), atgR_, H', ⟨by have := HK1.out; omega⟩, atgD_⟩
      ·replace c6 := Bool.eq_false_iff.mpr c6
       subst c6
       rw [if_neg (show ¬ (false = true) by decide)] at H
       obtain rfl := Option.some.inj H
       have p585 : 0 ≤ (x7_1 : Int) := of_decide_eq_true atgA_
       have q585 : x7_1 < (l0.length : Int) := of_decide_eq_true atgA_
       obtain ⟨ad585, e585, hx585_0⟩ := Kd.at_int HR0.out x7_1 p585 q585
       cases e585
       replace p585 := eq_true p585
       replace q585 := eq_true q585
       go_wp2_with (first | ((with_reducible refine gate_callee (f := 79) rfl ?_); refine goesL_ (some 12) rfl rfl Try.func79 (by kernel_rfl) rfl #[.int .i64 (rd l0 x7_1), .int .i64 1, .int .i64 4] rfl atgM_ ?_; (with_reducible refine (impl_within.calls (rd l0 x7_1) 1 4 false _ A5.out).mono ?_); rintro e w' ⟨rfl, ⟨nd, rfl⟩⟩; refine ⟨_, rfl, ?_⟩))
       go_ret
       exact ⟨by first | rfl | (simp; done) | (simp [*]; done), atgD_⟩
     ·rw [if_neg c4] at H
      exact absurd H (by simp)
    ·rw [if_neg c3] at H
     exact absurd H (by simp)
   ·rw [if_neg c2] at H
    have c2b0 := decide_eq_false c2
    clear c2
    obtain rfl := Option.some.inj H
    go_wp2
    go_ret
    exact ⟨by first | rfl | (simp; done) | (simp [*]; done), atgD_⟩

/-! ### impl_ProgOk: function 126 -/
def impl_ProgOk.l0 : Nat → List (List (S63)) → Int → Int → List Int → List (List (S63)) → Option (Bool)
 | 0, _, _, _, _, _ => none
 | k + 1, x6, x7, x8, x588000, x588001 => if x8 < x7 then (if 0 ≤ x8 then (if x8 < (x6.length : Int) then ((impl_BodyOk.f k (rd_L4 x6 x8) (x588000.length : Int)).bind fun t589 => (if t589 = true then (impl_ProgOk.l0 k x6 x7 (wrap64 (x8 + 1)) x588000 x588001) else (some false))) else (none)) else (none)) else (if (x588000.length : Int) ≤ 3 then ((impl_capsOk.f k x588000).bind fun t590 => (if t590 = true then ((impl_within.f (x588001.length : Int) 1 4).bind fun t591 => (some t591)) else (some false))) else (some false))
def impl_ProgOk.f (k : Nat) (l0_0 : List Int) (l0_1 : List (List (S63))) : Option (Bool) := impl_ProgOk.l0 k l0_1 (l0_1.length : Int) 0 l0_0 l0_1
theorem impl_ProgOk.mono_l : ∀ k, (∀ y0 y1 y2 y3 y4, LeO (impl_ProgOk.l0 k y0 y1 y2 y3 y4) (impl_ProgOk.l0 (k + 1) y0 y1 y2 y3 y4))
 | 0 => fun _ _ _ _ _ r h => by simp [impl_ProgOk.l0] at h
 | k + 1 => by
  have ih0 := impl_ProgOk.mono_l k
  ·intro y0 y1 y2 y3 y4
   unfold impl_ProgOk.l0
   repeat' (with_reducible first | exact ih0 .. | exact impl_BodyOk.mono .. | exact impl_capsOk.mono _ _ | exact LeO.refl _ | exact LeO.none _ | refine LeO.ite ?_ ?_ | refine LeO.bind ?_ (fun _ => ?_))
theorem impl_ProgOk.mono : ∀ a0 a1 k, LeO (impl_ProgOk.f k a0 a1) (impl_ProgOk.f (k + 1) a0 a1) := by
 intro a0 a1 k
 have ih0 := impl_ProgOk.mono_l k
 unfold impl_ProgOk.f
 repeat' (with_reducible first | exact ih0 .. | exact impl_BodyOk.mono .. | exact impl_capsOk.mono _ _ | exact LeO.refl _ | exact LeO.none _ | refine LeO.ite ?_ ?_ | refine LeO.bind ?_ (fun _ => ?_))
set_option maxHeartbeats 80000000 in
set_option maxRecDepth 100000 in
theorem impl_ProgOk.calls (k : Nat) (A0_0 : Option Addr) (c0_0 : Nat) (l0_0 : List Int) (A0_1 : Option Addr) (c0_1 : Nat) (l0_1 : List (List (S63))) (r : Bool) (w : World) (hr0_0 : Kd.C (Kd.int .i64) w A0_0 l0_0.length l0_0) (hc0_0 : l0_0.length ≤ c0_0) (hr0_1 : Kd.C (Kd.slice 63 k63) w A0_1 l0_1.length l0_1) (hc0_1 : l0_1.length ≤ c0_1) (h : impl_ProgOk.f k l0_0 l0_1 = some r) :
  Calls Try.prog 126 #[.agg #[.slice A0_0 l0_0.length c0_0, .slice A0_1 l0_1.length c0_1]] w fun e w' => e = .returned (.bool r) ∧ Below w.heap.size w w' := by
 have hu56 := Try.underlying56
 have HR0_0 := Aside0.mk hr0_0
 have HC0_0 := Aside0.mk hc0_0
 clear hr0_0 hc0_0
 have HR0_1 := Aside0.mk hr0_1
 have HC0_1 := Aside0.mk hc0_1
 clear hr0_1 hc0_1
 have HB := Aside0.mk (Below.refl w.heap.size w)
 have H : (impl_ProgOk.l0 k l0_1 (l0_1.length : Int) 0 l0_0 l0_1) = some r := h
 clear h
 have H' := Aside0.mk H
 clear H
 go_enter Try.func126, Try.ntmps126
 go_wp2_with (first | ((with_reducible refine gate_dst (N := 1) rfl ?_); (try (refine gate_guard (by rfl) ?_; dsimp only)); refine box_event ?hg (N := 1) ?hd (cs := #[.slice A0_0 l0_0.length c0_0, .slice A0_1 l0_1.length c0_1]) (t := 56) ?hr ?_; (case hd => rfl); (case hg => rfl); (case hr => first | (go_simp; done) | (go_simp; rfl)); intro gb587 hg w2 hbox hb; refine swap4_ (below_step atgB_ hb) (hbox) ((by rw [hg]; exact (below_size atgB_) : w.heap.size ≤ gb587)) ((by rw [hg]; exact (below_size atgB_) : w.heap.size ≤ gb587)) ?_; clear HB; intro HB BK587 GW587 GE587; clear hb hbox hg; obtain ⟨hcz3_0, hcz3_1, hfz3_0, hfz3_1⟩ := blkB2_ BK587))
 go_loopg [8] k (fun kq v8 w' => ∃ (x8_1 : Int), v8 = .int .i64 x8_1 ∧ Aside0 (impl_ProgOk.l0 kq l0_1 (l0_1.length : Int) x8_1 l0_0 l0_1 = some r) ∧ Aside0 (kq ≤ k) ∧ Aside0 (w'.heap[gb587]? = some (.cells #[(.slice A0_0 l0_0.length c0_0), (.slice A0_1 l0_1.length c0_1)] 56 (0, 0))) ∧ Aside0 (Below w.heap.size w w'))
 case atStart => exact ⟨(0), atgR_, H', ⟨Nat.le_refl _⟩, ⟨att21_0_8⟩, ⟨att21_0_1⟩⟩
 case round =>
  clear H'
  try clear c1
  try clear p2
  try clear hcz3_0 hcz3_1 hfz3_0 hfz3_1
  obtain ⟨x8_1, rfl, HA, HK1, BK587, HB⟩ := hrel
  cases gk with
  | zero => exact absurd HA.out (by simp [impl_ProgOk.l0])
  | succ k1 =>
   have H := HA.out
   clear HA
   simp only [impl_ProgOk.l0] at H
   by_cases c4 : x8_1 < (l0_1.length : Int)
   ·rw [if_pos c4] at H
    have c4b0 := decide_eq_true c4
    clear c4
    by_cases c5 : 0 ≤ x8_1
    ·rw [if_pos c5] at H
     have c5b0 := decide_eq_true c5
     clear c5
     by_cases c6 : x8_1 < (l0_1.length : Int)
     ·rw [if_pos c6] at H
      have c6b0 := decide_eq_true c6
      clear c6
      replace H := Option.bind_eq_some_iff.mp H
      obtain ⟨t589, A70, H⟩ := H
      (try dsimp only at H)
      have A7 := Aside0.mk A70
      clear A70
      by_cases c8 : t589 = true
      ·subst c8
       rw [if_pos rfl] at H
       have H' := Aside0.mk H
       clear H
       have p588 : 0 ≤ (x8_1 : Int) := of_decide_eq_true atgA_
       have q588 : x8_1 < (l0_1.length : Int) := of_decide_eq_true atgA_
       obtain ⟨ad588, A588_0, c588_0, e588, hx588_0, hl588_0, hi588_0⟩ := at_L4 HR0_1.out x8_1 p588 q588
       cases e588
       replace hx588_0 := blc_ HB hx588_0
       have HR588_0 := Aside0.mk hi588_0
       have HC588_0 := Aside0.mk hl588_0
       clear hi588_0 hl588_0
       replace p588 := eq_true p588
       replace q588 := eq_true q588
       obtain ⟨hcz9_0, hcz9_1, hfz9_0, hfz9_1⟩ := blkB2_ BK587
       go_wp2_with (first | ((with_reducible refine gate_callee (f := 34) rfl ?_); refine goesL_ (some 16) rfl rfl Try.func34 (by kernel_rfl) rfl #[.slice A588_0 (rd_L4 l0_1 x8_1).length c588_0, .int .i64 (l0_0.length : Int)] rfl atgM_ ?_; (with_reducible refine (impl_BodyOk.calls k1 _ _ (rd_L4 l0_1 x8_1) (l0_0.length : Int) true _ ?side1 ?side2 A7.out).mono ?_); (case side1 => repeat (first | exact (Kd.C_below HR588_0.out HB.out) | (with_reducible refine Kd.C_alloc ?_ _) | (with_reducible refine Kd.C_drewN ?_ _) | (with_reducible refine Kd.C_drew ?_))); (case side2 => exact HC588_0.out); rintro e w10 ⟨rfl, hb⟩; refine ⟨_, rfl, ?_⟩; refine swap2_ (blk_below (g := gb587) (o := .cells #[.slice A0_0 l0_0.length c0_0, .slice (some ad588) l0_1.length c0_1] 56 (0, 0)) att21_0_8 hb) (below_step att21_0_1 hb) ?_; clear BK587 HB; intro BK587 HB; (try clear hb); (try clear hb2); (try clear hk); (try clear hi)))
       go_roundg k1
       case measure => have := HK1.out; omega
       case rel => exact ⟨(wrap64 (x8_1 + 1)), atgR_, H', ⟨by have := HK1.out; omega⟩, ⟨att21_0_8⟩, ⟨att21_0_1⟩⟩
      ·replace c8 := Bool.eq_false_iff.mpr c8
       subst c8
       rw [if_neg (show ¬ (false = true) by decide)] at H
       obtain rfl := Option.some.inj H
       have p588 : 0 ≤ (x8_1 : Int) := of_decide_eq_true atgA_
       have q588 : x8_1 < (l0_1.length : Int) := of_decide_eq_true atgA_
       obtain ⟨ad588, A588_0, c588_0, e588, hx588_0, hl588_0, hi588_0⟩ := at_L4 HR0_1.out x8_1 p588 q588
       cases e588
       replace hx588_0 := blc_ HB hx588_0
       have HR588_0 := Aside0.mk hi588_0
       have HC588_0 := Aside0.mk hl588_0
       clear hi588_0 hl588_0
       replace p588 := eq_true p588
       replace q588 := eq_true q588
       obtain ⟨hcz11_0, hcz11_1, hfz11_0, hfz11_1⟩ := blkB2_ BK587
       go_wp2_with (first | ((with_reducible refine gate_callee (f := 34) rfl ?_); refine goesL_ (some 16) rfl rfl Try.func34 (by kernel_rfl) rfl #[.slice A588_0 (rd_L4 l0_1 x8_1).length c588_0, .int .i64 (l0_0.length : Int)] rfl atgM_ ?_; (with_reducible refine (impl_BodyOk.calls k1 _ _ (rd_L4 l0_1 x8_1) (l0_0.length : Int) false _ ?side1 ?side2 A7.out).mono ?_); (case side1 => repeat (first | exact (Kd.C_below HR588_0.out HB.out) | (with_reducible refine Kd.C_alloc ?_ _) | (with_reducible refine Kd.C_drewN ?_ _) | (with_reducible refine Kd.C_drew ?_))); (case side2 => exact HC588_0.out); rintro e w12 ⟨rfl, hb⟩; refine ⟨_, rfl, ?_⟩; refine swap2_ (blk_below (g := gb587) (o := .cells #[.slice A0_0 l0_0.length c0_0, .slice (some ad588) l0_1.length c0_1] 56 (0, 0)) att21_0_8 hb) (below_step att21_0_1 hb) ?_; clear BK587 HB; intro BK587 HB; (try clear hb); (try clear hb2); (try clear hk); (try clear hi)))
       go_ret
       exact ⟨retT_, att21_0_1⟩
     ·rw [if_neg c6] at H
      exact absurd H (by simp)
    ·rw [if_neg c5] at H
     exact absurd H (by simp)
   ·rw [if_neg c4] at H
    have c4b0 := decide_eq_false c4
    clear c4
    by_cases c13 : (l0_0.length : Int) ≤ 3
    ·rw [if_pos c13] at H
     have c13b0 := decide_eq_true c13
     have c13b1 : decide (l0_0.length ≤ 3) = true := decide_eq_true (by omega)
     clear c13
     replace H := Option.bind_eq_some_iff.mp H
     obtain ⟨t590, A140, H⟩ := H
     (try dsimp only at H)
     have A14 := Aside0.mk A140
     clear A140
     by_cases c15 : t590 = true
     ·subst c15
      rw [if_pos rfl] at H
      replace H := Option.bind_eq_some_iff.mp H
      obtain ⟨t591, A160, H⟩ := H
      (try dsimp only at H)
      have A16 := Aside0.mk A160
      clear A160
      obtain rfl := Option.some.inj H
      obtain ⟨hcz17_0, hcz17_1, hfz17_0, hfz17_1⟩ := blkB2_ BK587
      go_wp2_with (first | (go_at_call 143; (with_reducible refine (impl_capsOk.calls k1 _ _ l0_0 true _ ?side1 ?side2 A14.out).mono ?_); (case side1 => repeat (first | exact (Kd.C_below HR0_0.out HB.out) | (with_reducible refine Kd.C_alloc ?_ _) | (with_reducible refine Kd.C_drewN ?_ _) | (with_reducible refine Kd.C_drew ?_))); (case side2 => exact HC0_0.out); rintro e w' ⟨rfl, ⟨nd, rfl⟩⟩) | (go_at_call 79; (with_reducible refine (impl_within.calls (l0_1.length : Int) 1 4 t591 _ A16.out).mono ?_); rintro e w' ⟨rfl, ⟨nd, rfl⟩⟩))
      go_ret
      exact ⟨retT_, att21_0_1⟩
     ·replace c15 := Bool.eq_false_iff.mpr c15
      subst c15
      rw [if_neg (show ¬ (false = true) by decide)] at H
      obtain rfl := Option.some.inj H
      obtain ⟨hcz18_0, hcz18_1, hfz18_0, hfz18_1⟩ := blkB2_ BK587
      go_wp2_with (first | (go_at_call 143; (with_reducible refine (impl_capsOk.calls k1 _ _ l0_0 false _ ?side1 ?side2 A14.out).mono ?_); (case side1 => repeat (first | exact (Kd.C_below HR0_0.out HB.out) | (with_reducible refine Kd.C_alloc ?_ _) | (with_reducible refine Kd.C_drewN ?_ _) | (with_reducible refine Kd.C_drew ?_))); (case side2 => exact HC0_0.out); rintro e w' ⟨rfl, ⟨nd, rfl⟩⟩))
      go_ret
      exact ⟨retT_, att21_0_1⟩
    ·rw [if_neg c13] at H
     have c13b0 := decide_eq_false c13
     have c13b1 : decide (l0_0.length ≤ 3) = false := decide_eq_false (by omega)
     clear c13
     obtain rfl := Option.some.inj H
     obtain ⟨hcz19_0, hcz19_1, hfz19_0, hfz19_1⟩ := blkB2_ BK587
     go_wp2
     go_ret
     exact ⟨retT_, att21_0_1⟩

-- NOT PRINTED: function 106 (impl_eachBody)

-- NOT PRINTED: function 62 (impl_TrimProg)

-- NOT PRINTED: function 11 (laws_FnExactTrimProg)

end Go.Proofs.Ytocimkpafakiaaa.XFnExactTrimProg
