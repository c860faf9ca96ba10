/- Each Go function that the law reaches as a Lean function, and that Go comes to just its answer; written by this session's xprint.py over the kit's printer. -/
import Derived.Test.YtocimkpafakiaaaXFnExactTrimProgx0
import Derived.Test.YtocimkpafakiaaaXFnExactTrimProgx5
import Derived.Test.YtocimkpafakiaaaXFnExactTrimProgx7
import Derived.Test.YtocimkpafakiaaaXFnExactTrimProgx11
import Derived.Test.YtocimkpafakiaaaXFnExactTrimProgx12
namespace Go.Proofs.Ytocimkpafakiaaa.XFnExactTrimProg
open Go.RowKit Go.Proofs.YtocimkpafakiaaaW.PrintWords Go.Proofs.YtocimkpafakiaaaW.PrintLast Go.Proofs.YtocimkpafakiaaaW.PrintMore
attribute [local go_sem] max2_int min2_int max_two min_two max_three min_three max_four min_four   -- for this text's walks alone
set_option linter.unusedVariables false
set_option linter.unusedSimpArgs false

theorem att14_0_0 {p : Prop} (h : p := by repeat (first | (with_reducible first | exact HB.out | apply below_alloc | apply pw_below_drewN | apply below_drew1 | refine below_set ?_ GE412.out | refine below_set ?_ GE413.out | refine below_set ?_ GE420.out) | exact HB.out)) : p := h
theorem att14_0_1 {p : Prop} (h : p := by repeat (first | (with_reducible first | exact HB.out | apply below_alloc | apply pw_below_drewN | apply below_drew1 | refine below_set ?_ GE406.out) | exact HB.out)) : p := h
theorem att14_0_2 {p : Prop} (h : p := by repeat (first | (with_reducible first | exact HB.out | apply below_alloc | apply pw_below_drewN | apply below_drew1 | refine below_set ?_ GE412.out | refine below_set ?_ GE413.out) | exact HB.out)) : p := h
theorem att14_0_3 {p : Prop} (h : p := by (with_reducible repeat (first | refine blk_drewN ?_ _ | refine blk_drew ?_ | refine blk_alloc ?_ _)); exact BK412.out) : p := h
theorem att14_0_4 {p : Prop} (h : p := by (with_reducible repeat (first | refine blk_drewN ?_ _ | refine blk_drew ?_ | refine blk_alloc ?_ _)); exact BK413.out) : p := h
theorem att14_0_8 {p : Prop} (h : p := by (with_reducible repeat (first | refine blk_drewN ?_ _ | refine blk_drew ?_ | refine blk_alloc ?_ _)); exact BK406.out) : p := h
theorem att14_0_9 {p : Prop} (h : p := by (with_reducible repeat (first | refine blk_drewN ?_ _ | refine blk_drew ?_ | refine blk_alloc ?_ _)); refine blk_put (cs := #[.slice Ao9 t414.length co9, .slice none 0 0]) ?_ 1 _ rfl; (with_reducible repeat (first | refine blk_drewN ?_ _ | refine blk_drew ?_ | refine blk_alloc ?_ _)); refine blk_put (cs := #[.slice none 0 0, .slice none 0 0]) ?_ 0 _ rfl; (with_reducible repeat (first | refine blk_drewN ?_ _ | refine blk_drew ?_ | refine blk_alloc ?_ _)); exact BK413.out) : p := h
theorem att14_0_10 {p : Prop} (h : p := by repeat (first | (with_reducible first | exact HB.out | apply below_alloc | apply pw_below_drewN | apply below_drew1 | refine below_set ?_ GE412.out) | exact HB.out)) : p := h
theorem att14_0_11 {p : Prop} (h : p := by rintro w' ⟨s0, s1, s2⟩; go_simp; with_reducible rfl) : p := h
theorem att14_0_12 {p : Prop} (h : p := by (with_reducible repeat (first | refine blk_drewN ?_ _ | refine blk_drew ?_ | refine blk_alloc ?_ _)); exact BK420.out) : p := h
theorem att14_0_14 {p : Prop} (h : p := by exact toR_ (HO_421000.out)) : p := h
theorem att14_0_15 {p : Prop} (h : p := by (with_reducible repeat (first | apply Kd.N_alloc | apply Kd.N_drewN | apply Kd.N_drew)); exact HO_421001.out) : p := h
theorem att14_0_16 {p : Prop} (h : p := by rintro w' ⟨s0, s1, s2, s3, s4⟩; go_simp; with_reducible rfl) : p := h
theorem att14_1_0 {p : Prop} (h : p := by have h_ : (x4_1 : Int) < ((x421001_1.length : Int) : Int) := of_decide_eq_true atgA_; first | exact h_ | (have e_ := (Kd.N_reads' HO_421001.out).1; omega) | simpa using h_) : p := h
/-! ### spec_ProgOk: function 103 -/
mutual
def spec_ProgOk.l0 : Nat → Int → List Int → List (List (S63)) → Option (Bool)
 | 0, _, _, _ => none
 | k + 1, x3, x407000, x407001 => if x3 < (x407000.length : Int) then (if 0 ≤ x3 then ((spec_l1In.f (rd x407000 x3) 1 4).bind fun t408 => (if t408 = true then (spec_ProgOk.l0 k (wrap64 (x3 + 1)) x407000 x407001) else (some false))) else (none)) else (spec_ProgOk.l1 k 0 x407000 x407001)
def spec_ProgOk.l1 : Nat → Int → List Int → List (List (S63)) → Option (Bool)
 | 0, _, _, _ => none
 | k + 1, x4, x407000, x407001 => if x4 < (x407001.length : Int) then (if 0 ≤ x4 then ((spec_BodyOk.f k (rd_L4 x407001 x4) (x407000.length : Int)).bind fun t410 => (if t410 = true then (spec_ProgOk.l1 k (wrap64 (x4 + 1)) x407000 x407001) else (some false))) else (none)) else (if (x407000.length : Int) ≤ 3 then ((spec_l1In.f (x407001.length : Int) 1 4).bind fun t411 => (some t411)) else (some false))
end
def spec_ProgOk.f (k : Nat) (l0_0 : List Int) (l0_1 : List (List (S63))) : Option (Bool) := spec_ProgOk.l0 k 0 l0_0 l0_1
theorem spec_ProgOk.mono_l : ∀ k, (∀ y0 y1 y2, LeO (spec_ProgOk.l0 k y0 y1 y2) (spec_ProgOk.l0 (k + 1) y0 y1 y2)) ∧ (∀ y0 y1 y2, LeO (spec_ProgOk.l1 k y0 y1 y2) (spec_ProgOk.l1 (k + 1) y0 y1 y2))
 | 0 => ⟨fun _ _ _ r h => by simp [spec_ProgOk.l0] at h, fun _ _ _ r h => by simp [spec_ProgOk.l1] at h⟩
 | k + 1 => by
  obtain ⟨ih0, ih1⟩ := spec_ProgOk.mono_l k
  refine ⟨?_, ?_⟩
  all_goals intros
  all_goals first | unfold spec_ProgOk.l0 | unfold spec_ProgOk.l1
  all_goals repeat' (with_reducible first | exact ih0 .. | exact ih1 .. | exact spec_BodyOk.mono .. | exact LeO.refl _ | exact LeO.none _ | refine LeO.ite ?_ ?_ | refine LeO.bind ?_ (fun _ => ?_))
theorem spec_ProgOk.mono : ∀ a0 a1 k, LeO (spec_ProgOk.f k a0 a1) (spec_ProgOk.f (k + 1) a0 a1) := by
 intro a0 a1 k
 obtain ⟨ih0, ih1⟩ := spec_ProgOk.mono_l k
 unfold spec_ProgOk.f
 repeat' (with_reducible first | exact ih0 .. | exact ih1 .. | exact spec_BodyOk.mono .. | exact LeO.refl _ | exact LeO.none _ | refine LeO.ite ?_ ?_ | refine LeO.bind ?_ (fun _ => ?_))
def spec_ProgOk.T9 : Bool × List (List Nat × List Nat) := (true, [([], []), ([0], [0]), ([], []), ([1, 2], [1, 2]), ([3], [3]), ([], []), ([5], [5]), ([6], [6]), ([4, 7], [4, 7]), ([8], [8])])
def spec_ProgOk.B9 : List Nat := [0, 1, 0, 7, 15, 0, 32, 96, 255, 511]
theorem spec_ProgOk.tab9 : rtab .any (opsOf Try.f103 9) = spec_ProgOk.T9 := by kernel_rfl
theorem spec_ProgOk.bits9 : waitsOk spec_ProgOk.T9.2 spec_ProgOk.B9 = true := by kernel_rfl
set_option maxHeartbeats 80000000 in
set_option maxRecDepth 100000 in
theorem spec_ProgOk.calls (k : Nat) (A0_0 : Option Addr) (c0_0 : Nat) (l0_0 : List Int) (A0_1 : Option Addr) (c0_1 : Nat) (l0_1 : List (List (S63))) (r : Bool) (w : World) (hr0_0 : Kd.C (Kd.int .i64) w A0_0 l0_0.length l0_0) (hc0_0 : l0_0.length ≤ c0_0) (hr0_1 : Kd.C (Kd.slice 63 k63) w A0_1 l0_1.length l0_1) (hc0_1 : l0_1.length ≤ c0_1) (h : spec_ProgOk.f k l0_0 l0_1 = some r) :
  Calls Try.prog 103 #[.agg #[.slice A0_0 l0_0.length c0_0, .slice A0_1 l0_1.length c0_1]] w fun e w' => e = .returned (.bool r) ∧ Below w.heap.size w w' := by
 have hu56 := Try.underlying56
 have HR0_0 := Aside0.mk hr0_0
 have HC0_0 := Aside0.mk hc0_0
 clear hr0_0 hc0_0
 have HR0_1 := Aside0.mk hr0_1
 have HC0_1 := Aside0.mk hc0_1
 clear hr0_1 hc0_1
 have HB := Aside0.mk (Below.refl w.heap.size w)
 have H : (spec_ProgOk.l0 k 0 l0_0 l0_1) = some r := h
 clear h
 have H' := Aside0.mk H
 clear H
 go_enter Try.func103, Try.ntmps103
 go_wp2_with (first | ((with_reducible refine gate_dst (N := 1) rfl ?_); (try (refine gate_guard (by rfl) ?_; dsimp only)); refine box_event ?hg (N := 1) ?hd (cs := #[.slice A0_0 l0_0.length c0_0, .slice A0_1 l0_1.length c0_1]) (t := 56) ?hr ?_; (case hd => rfl); (case hg => rfl); (case hr => first | (go_simp; done) | (go_simp; rfl)); intro gb406 hg w2 hbox hb; refine swap4_ (below_step atgB_ hb) (hbox) ((by rw [hg]; exact (below_size atgB_) : w.heap.size ≤ gb406)) ((by rw [hg]; exact (below_size atgB_) : w.heap.size ≤ gb406)) ?_; clear HB; intro HB BK406 GW406 GE406; clear hb hbox hg))
 go_loopg [3] k (fun kq v3 w' => ∃ (x3_1 : Int), v3 = .int .i64 x3_1 ∧ Aside0 (spec_ProgOk.l0 kq x3_1 l0_0 l0_1 = some r) ∧ Aside0 (kq ≤ k) ∧ Aside0 (w'.heap[gb406]? = some (.cells #[(.slice A0_0 l0_0.length c0_0), (.slice A0_1 l0_1.length c0_1)] 56 (0, 0))) ∧ Aside0 (Below w.heap.size w w'))
 case atStart => exact ⟨(0), atgR_, H', ⟨Nat.le_refl _⟩, ⟨att14_0_8⟩, ⟨att14_0_1⟩⟩
 case round =>
  clear H'
  try clear c1
  try clear p2
  obtain ⟨x3_1, rfl, HA, HK1, BK406, HB⟩ := hrel
  cases gk with
  | zero => exact absurd HA.out (by simp [spec_ProgOk.l0])
  | succ k1 =>
   have H := HA.out
   clear HA
   simp only [spec_ProgOk.l0] at H
   by_cases c3 : x3_1 < (l0_0.length : Int)
   ·rw [if_pos c3] at H
    have c3b0 := decide_eq_true c3
    clear c3
    by_cases c4 : 0 ≤ x3_1
    ·rw [if_pos c4] at H
     have c4b0 := decide_eq_true c4
     clear c4
     replace H := Option.bind_eq_some_iff.mp H
     obtain ⟨t408, A50, H⟩ := H
     (try dsimp only at H)
     have A5 := Aside0.mk A50
     clear A50
     by_cases c6 : t408 = true
     ·subst c6
      rw [if_pos rfl] at H
      have H' := Aside0.mk H
      clear H
      obtain ⟨hcz7_0, hcz7_1, hfz7_0, hfz7_1⟩ := blkB2_ BK406
      have p407 : 0 ≤ (x3_1 : Int) := of_decide_eq_true atgA_
      have q407 : x3_1 < (l0_0.length : Int) := of_decide_eq_true atgA_
      obtain ⟨ad407, e407, hx407_0⟩ := Kd.at_int HR0_0.out x3_1 p407 q407
      cases e407
      replace hx407_0 := blc_ HB hx407_0
      replace p407 := eq_true p407
      replace q407 := eq_true q407
      go_wp2_with (first | ((with_reducible refine gate_callee (f := 75) rfl ?_); refine goesL_ (some 17) rfl rfl Try.func75 (by kernel_rfl) rfl #[.int .i64 (rd l0_0 x3_1), .int .i64 1, .int .i64 4] rfl atgM_ ?_; (with_reducible refine (spec_l1In.calls (rd l0_0 x3_1) 1 4 true _ A5.out).mono ?_); rintro e w' ⟨rfl, ⟨nd, rfl⟩⟩; refine ⟨_, rfl, ?_⟩))
      go_roundg k1
      case measure => have := HK1.out; omega
      case rel => exact ⟨(wrap64 (x3_1 + 1)), atgR_, H', ⟨by have := HK1.out; omega⟩, ⟨att14_0_8⟩, ⟨att14_0_1⟩⟩
     ·replace c6 := Bool.eq_false_iff.mpr c6
      subst c6
      rw [if_neg (show ¬ (false = true) by decide)] at H
      obtain rfl := Option.some.inj H
      obtain ⟨hcz8_0, hcz8_1, hfz8_0, hfz8_1⟩ := blkB2_ BK406
      have p407 : 0 ≤ (x3_1 : Int) := of_decide_eq_true atgA_
      have q407 : x3_1 < (l0_0.length : Int) := of_decide_eq_true atgA_
      obtain ⟨ad407, e407, hx407_0⟩ := Kd.at_int HR0_0.out x3_1 p407 q407
      cases e407
      replace hx407_0 := blc_ HB hx407_0
      replace p407 := eq_true p407
      replace q407 := eq_true q407
      go_wp2_with (first | ((with_reducible refine gate_callee (f := 75) rfl ?_); refine goesL_ (some 17) rfl rfl Try.func75 (by kernel_rfl) rfl #[.int .i64 (rd l0_0 x3_1), .int .i64 1, .int .i64 4] rfl atgM_ ?_; (with_reducible refine (spec_l1In.calls (rd l0_0 x3_1) 1 4 false _ A5.out).mono ?_); rintro e w' ⟨rfl, ⟨nd, rfl⟩⟩; refine ⟨_, rfl, ?_⟩))
      go_ret
      exact ⟨retT_, att14_0_1⟩
    ·rw [if_neg c4] at H
     exact absurd H (by simp)
   ·rw [if_neg c3] at H
    have c3b0 := decide_eq_false c3
    clear c3
    have H' := Aside0.mk H
    clear H
    obtain ⟨hcz9_0, hcz9_1, hfz9_0, hfz9_1⟩ := blkB2_ BK406
    go_wp2
    go_loopg [4] k1 (fun kq v4 w' => ∃ (x4_2 : Int), v4 = .int .i64 x4_2 ∧ Aside0 (spec_ProgOk.l1 kq x4_2 l0_0 l0_1 = some r) ∧ Aside0 (kq ≤ k1) ∧ Aside0 (w'.heap[gb406]? = some (.cells #[(.slice A0_0 l0_0.length c0_0), (.slice A0_1 l0_1.length c0_1)] 56 (0, 0))) ∧ Aside0 (Below w.heap.size w w'))
    case atStart => exact ⟨(0), atgR_, H', ⟨Nat.le_refl _⟩, ⟨att14_0_8⟩, ⟨att14_0_1⟩⟩
    case round =>
     clear H'
     try clear c1
     try clear p2
     try clear c3
     try clear c3b0
     try clear c4
     try clear c4b0
     try clear p4
     try clear q4
     try clear hx4
     try clear c6
     try clear p6
     try clear c7
     try clear hcz7_0 hcz7_1
     try clear hcz8_0 hcz8_1
     try clear hcz9_0 hcz9_1
     try clear hfz7_0 hfz7_1
     try clear hfz8_0 hfz8_1
     try clear hfz9_0 hfz9_1
     try clear hx407_0
     try clear p2
     try clear p407
     try clear q407
     obtain ⟨x4_2, rfl, HA, HK2, BK406, HB⟩ := hrel
     cases gk with
     | zero => exact absurd HA.out (by simp [spec_ProgOk.l1])
     | succ k2 =>
      have H := HA.out
      clear HA
      simp only [spec_ProgOk.l1] at H
      by_cases c10 : x4_2 < (l0_1.length : Int)
      ·rw [if_pos c10] at H
       have c10b0 := decide_eq_true c10
       clear c10
       by_cases c11 : 0 ≤ x4_2
       ·rw [if_pos c11] at H
        have c11b0 := decide_eq_true c11
        clear c11
        replace H := Option.bind_eq_some_iff.mp H
        obtain ⟨t410, A120, H⟩ := H
        (try dsimp only at H)
        have A12 := Aside0.mk A120
        clear A120
        by_cases c13 : t410 = true
        ·subst c13
         rw [if_pos rfl] at H
         have H' := Aside0.mk H
         clear H
         obtain ⟨hcz14_0, hcz14_1, hfz14_0, hfz14_1⟩ := blkB2_ BK406
         try go_wp2
         have n0_ := Aside0.mk (blk_drew BK406.out)
         have n1_ := Aside0.mk (below_drew1 HB.out)
         clear BK406
         clear HB
         have BK406 := n0_
         have HB := n1_
         clear n0_ n1_
         have p409 : 0 ≤ (x4_2 : Int) := of_decide_eq_true atgA_
         have q409 : x4_2 < (l0_1.length : Int) := of_decide_eq_true atgA_
         obtain ⟨ad409, A409_0, c409_0, e409, hx409_0, hl409_0, hi409_0⟩ := at_L4 HR0_1.out x4_2 p409 q409
         have hw409_0 := hx409_0
         cases e409
         replace hx409_0 := blc_ HB hx409_0
         have HR409_0 := Aside0.mk hi409_0
         have HC409_0 := Aside0.mk hl409_0
         clear hi409_0 hl409_0
         replace p409 := eq_true p409
         replace q409 := eq_true q409
         refine start_ (n := 10) (S := fun w' => w'.cell? ⟨gb406, 0, none⟩ = some (.slice A0_0 l0_0.length c0_0) ∧ w'.cell? ⟨gb406, 1, none⟩ = some (.slice (some ad409) l0_1.length c0_1) ∧ w'.cell? (ad409.add (x4_2).toNat) = some (.slice A409_0 (rd_L4 l0_1 x4_2).length c409_0)) (ds := []) (tf_ 0 10) (by kernel_rfl) rfl rfl ⟨(blk_cell BK406.out 0).trans rfl, (blk_cell BK406.out 1).trans rfl, ((HB.out.cell (World.block_lt_of_cell? w _ hw409_0)).trans hw409_0)⟩ (fun hHeld => ?_); refine with_tabW spec_ProgOk.tab9 spec_ProgOk.bits9 (fun HT_ HW_ => ?_)
         generalize wr.drew = w15 at BK406 HB HR409_0 hx409_0 hHeld ⊢
         refine pureQ_ (i := 0) (N := some 26) (tf_ 1 9) (h := ?_)
         refine pureQ_ (i := 2) (N := some 28) #[true, false, true, false, false, false, false, false, false, false] (h := ?_)
         refine pureQ_ (i := 5) (N := some 31) #[true, false, true, false, false, true, false, false, false, false] (h := ?_)
         refine takeQ_ (i := 1) (N := some 27) #[true, true, true, false, false, true, false, false, false, false] hHeld (hy := Or.inl ⟨by rfl, att14_0_11⟩) (h := ?_)
         refine pureQ_ (i := 3) (N := some 29) #[true, true, true, true, false, true, false, false, false, false] (h := ?_)
         refine takeQ_ (i := 4) (N := some 30) (tf_ 6 4) hHeld (hy := Or.inl ⟨by rfl, att14_0_11⟩) (h := ?_)
         refine takeQ_ (i := 6) (N := some 32) (tf_ 7 3) hHeld (hy := Or.inl ⟨by rfl, att14_0_11⟩) (h := ?_)
         refine pureQ_ (i := 7) (N := some 33) (tf_ 8 2) (h := ?_)
         refine one_ (i := 8) (N := some 34) (tf_ 9 1) rfl rfl (one_of HT_.out (by kernel_rfl)) (by decide) (fun K hK => ?_)
         refine goes_ Try.func63 (by kernel_rfl) rfl #[.slice A409_0 (rd_L4 l0_1 x4_2).length c409_0, .int .i64 (l0_0.length : Int)] (by rfl) rfl rfl atgM_ ?_
         with_reducible refine (spec_BodyOk.calls k2 _ _ (rd_L4 l0_1 x4_2) (l0_0.length : Int) true _ ?side1 ?side2 A12.out).mono ?_
         (case side1 => repeat (first | exact (Kd.C_below HR409_0.out HB.out) | (with_reducible refine Kd.C_alloc ?_ _) | (with_reducible refine Kd.C_drewN ?_ _) | (with_reducible refine Kd.C_drew ?_)))
         (case side2 => exact HC409_0.out)
         rintro e w16 ⟨rfl, hb⟩
         refine ⟨_, rfl, ?_⟩
         have n0_ := Aside0.mk (blk_below (g := gb406) (o := .cells #[.slice A0_0 l0_0.length c0_0, .slice (some ad409) l0_1.length c0_1] 56 (0, 0)) att14_0_8 hb)
         have n1_ := Aside0.mk (below_step att14_0_1 hb)
         clear BK406
         clear HB
         have BK406 := n0_
         have HB := n1_
         clear n0_ n1_
         (try clear hb)
         (try clear hb2)
         (try clear hk)
         (try clear hi)
         refine hK.out _ _ ⟨(blk_cell BK406.out 0).trans rfl, (blk_cell BK406.out 1).trans rfl, ((HB.out.cell (World.block_lt_of_cell? w _ hw409_0)).trans hw409_0)⟩ (fun hHeld => ?_)
         clear hK K
         refine normP_ (h := ?_)
         refine pureQ_ (i := 9) (N := some 35) (tf_ 10 0) (h := ?_)
         refine done_ (done_of HT_.out (by kernel_rfl)) ?_
         try go_wp2
         go_roundg k2
         case measure => have := HK1.out; have := HK2.out; omega
         case rel => exact ⟨(wrap64 (x4_2 + 1)), atgR_, H', ⟨by have := HK1.out; have := HK2.out; omega⟩, ⟨att14_0_8⟩, ⟨att14_0_1⟩⟩
        ·replace c13 := Bool.eq_false_iff.mpr c13
         subst c13
         rw [if_neg (show ¬ (false = true) by decide)] at H
         obtain rfl := Option.some.inj H
         obtain ⟨hcz17_0, hcz17_1, hfz17_0, hfz17_1⟩ := blkB2_ BK406
         try go_wp2
         have n0_ := Aside0.mk (blk_drew BK406.out)
         have n1_ := Aside0.mk (below_drew1 HB.out)
         clear BK406
         clear HB
         have BK406 := n0_
         have HB := n1_
         clear n0_ n1_
         have p409 : 0 ≤ (x4_2 : Int) := of_decide_eq_true atgA_
         have q409 : x4_2 < (l0_1.length : Int) := of_decide_eq_true atgA_
         obtain ⟨ad409, A409_0, c409_0, e409, hx409_0, hl409_0, hi409_0⟩ := at_L4 HR0_1.out x4_2 p409 q409
         have hw409_0 := hx409_0
         cases e409
         replace hx409_0 := blc_ HB hx409_0
         have HR409_0 := Aside0.mk hi409_0
         have HC409_0 := Aside0.mk hl409_0
         clear hi409_0 hl409_0
         replace p409 := eq_true p409
         replace q409 := eq_true q409
         refine start_ (n := 10) (S := fun w' => w'.cell? ⟨gb406, 0, none⟩ = some (.slice A0_0 l0_0.length c0_0) ∧ w'.cell? ⟨gb406, 1, none⟩ = some (.slice (some ad409) l0_1.length c0_1) ∧ w'.cell? (ad409.add (x4_2).toNat) = some (.slice A409_0 (rd_L4 l0_1 x4_2).length c409_0)) (ds := []) (tf_ 0 10) (by kernel_rfl) rfl rfl ⟨(blk_cell BK406.out 0).trans rfl, (blk_cell BK406.out 1).trans rfl, ((HB.out.cell (World.block_lt_of_cell? w _ hw409_0)).trans hw409_0)⟩ (fun hHeld => ?_); refine with_tabW spec_ProgOk.tab9 spec_ProgOk.bits9 (fun HT_ HW_ => ?_)
         generalize wr.drew = w18 at BK406 HB HR409_0 hx409_0 hHeld ⊢
         refine pureQ_ (i := 0) (N := some 26) (tf_ 1 9) (h := ?_)
         refine pureQ_ (i := 2) (N := some 28) #[true, false, true, false, false, false, false, false, false, false] (h := ?_)
         refine pureQ_ (i := 5) (N := some 31) #[true, false, true, false, false, true, false, false, false, false] (h := ?_)
         refine takeQ_ (i := 1) (N := some 27) #[true, true, true, false, false, true, false, false, false, false] hHeld (hy := Or.inl ⟨by rfl, att14_0_11⟩) (h := ?_)
         refine pureQ_ (i := 3) (N := some 29) #[true, true, true, true, false, true, false, false, false, false] (h := ?_)
         refine takeQ_ (i := 4) (N := some 30) (tf_ 6 4) hHeld (hy := Or.inl ⟨by rfl, att14_0_11⟩) (h := ?_)
         refine takeQ_ (i := 6) (N := some 32) (tf_ 7 3) hHeld (hy := Or.inl ⟨by rfl, att14_0_11⟩) (h := ?_)
         refine pureQ_ (i := 7) (N := some 33) (tf_ 8 2) (h := ?_)
         refine one_ (i := 8) (N := some 34) (tf_ 9 1) rfl rfl (one_of HT_.out (by kernel_rfl)) (by decide) (fun K hK => ?_)
         refine goes_ Try.func63 (by kernel_rfl) rfl #[.slice A409_0 (rd_L4 l0_1 x4_2).length c409_0, .int .i64 (l0_0.length : Int)] (by rfl) rfl rfl atgM_ ?_
         with_reducible refine (spec_BodyOk.calls k2 _ _ (rd_L4 l0_1 x4_2) (l0_0.length : Int) false _ ?side1 ?side2 A12.out).mono ?_
         (case side1 => repeat (first | exact (Kd.C_below HR409_0.out HB.out) | (with_reducible refine Kd.C_alloc ?_ _) | (with_reducible refine Kd.C_drewN ?_ _) | (with_reducible refine Kd.C_drew ?_)))
         (case side2 => exact HC409_0.out)
         rintro e w19 ⟨rfl, hb⟩
         refine ⟨_, rfl, ?_⟩
         have n0_ := Aside0.mk (blk_below (g := gb406) (o := .cells #[.slice A0_0 l0_0.length c0_0, .slice (some ad409) l0_1.length c0_1] 56 (0, 0)) att14_0_8 hb)
         have n1_ := Aside0.mk (below_step att14_0_1 hb)
         clear BK406
         clear HB
         have BK406 := n0_
         have HB := n1_
         clear n0_ n1_
         (try clear hb)
         (try clear hb2)
         (try clear hk)
         (try clear hi)
         refine hK.out _ _ ⟨(blk_cell BK406.out 0).trans rfl, (blk_cell BK406.out 1).trans rfl, ((HB.out.cell (World.block_lt_of_cell? w _ hw409_0)).trans hw409_0)⟩ (fun hHeld => ?_)
         clear hK K
         refine normP_ (h := ?_)
         refine pureQ_ (i := 9) (N := some 35) (tf_ 10 0) (h := ?_)
         refine done_ (done_of HT_.out (by kernel_rfl)) ?_
         try go_wp2
         go_ret
         exact ⟨retT_, att14_0_1⟩
       ·rw [if_neg c11] at H
        exact absurd H (by simp)
      ·rw [if_neg c10] at H
       have c10b0 := decide_eq_false c10
       clear c10
       by_cases c20 : (l0_0.length : Int) ≤ 3
       ·rw [if_pos c20] at H
        have c20b0 := decide_eq_true c20
        have c20b1 : decide (l0_0.length ≤ 3) = true := decide_eq_true (by omega)
        clear c20
        replace H := Option.bind_eq_some_iff.mp H
        obtain ⟨t411, A210, H⟩ := H
        (try dsimp only at H)
        have A21 := Aside0.mk A210
        clear A210
        obtain rfl := Option.some.inj H
        obtain ⟨hcz22_0, hcz22_1, hfz22_0, hfz22_1⟩ := blkB2_ BK406
        go_wp2_with (first | (go_at_call 75; (with_reducible refine (spec_l1In.calls (l0_1.length : Int) 1 4 t411 _ A21.out).mono ?_); rintro e w' ⟨rfl, ⟨nd, rfl⟩⟩))
        go_ret
        exact ⟨retT_, att14_0_1⟩
       ·rw [if_neg c20] at H
        have c20b0 := decide_eq_false c20
        have c20b1 : decide (l0_0.length ≤ 3) = false := decide_eq_false (by omega)
        clear c20
        obtain rfl := Option.some.inj H
        obtain ⟨hcz23_0, hcz23_1, hfz23_0, hfz23_1⟩ := blkB2_ BK406
        go_wp2
        go_ret
        exact ⟨retT_, att14_0_1⟩

/-! ### spec_TrimProg: function 61 -/
def spec_TrimProg.l0 : Nat → Int → List Int → List (List (S63)) → List Int → List (List (S63)) → Option (List Int × (List (List (S63))))
 | 0, _, _, _, _, _ => none
 | k + 1, x4, x413000, x413001, x421000, x421001 => if x4 < (x413001.length : Int) then ((spec_ProgOk.f k x413000 x413001).bind fun t421 => (if t421 = true then (if 0 ≤ x4 then ((spec_TrimBody.f k (rd_L4 x413001 x4)).bind fun t423 => (if x4 < (x421001.length : Int) then (spec_TrimProg.l0 k (wrap64 (x4 + 1)) x413000 x413001 x421000 (x421001.set (x4 : Int).toNat t423)) else (none))) else (none)) else (some (x421000, x421001)))) else (some (x421000, x421001))
def spec_TrimProg.f (k : Nat) (l0_0 : List Int) (l0_1 : List (List (S63))) : Option (List Int × (List (List (S63)))) := (spec_l17Prog.f k l0_0 l0_1).bind fun bt414 => (spec_TrimProg.l0 k 0 l0_0 l0_1 bt414.1 bt414.2)
theorem spec_TrimProg.mono_l : ∀ k, (∀ y0 y1 y2 y3 y4, LeO (spec_TrimProg.l0 k y0 y1 y2 y3 y4) (spec_TrimProg.l0 (k + 1) y0 y1 y2 y3 y4))
 | 0 => fun _ _ _ _ _ r h => by simp [spec_TrimProg.l0] at h
 | k + 1 => by
  have ih0 := spec_TrimProg.mono_l k
  ·intro y0 y1 y2 y3 y4
   unfold spec_TrimProg.l0
   repeat' (with_reducible first | exact ih0 .. | exact spec_ProgOk.mono .. | exact spec_TrimBody.mono _ _ | exact spec_l17Prog.mono .. | exact LeO.refl _ | exact LeO.none _ | refine LeO.ite ?_ ?_ | refine LeO.bind ?_ (fun _ => ?_))
theorem spec_TrimProg.mono : ∀ a0 a1 k, LeO (spec_TrimProg.f k a0 a1) (spec_TrimProg.f (k + 1) a0 a1) := by
 intro a0 a1 k
 have ih0 := spec_TrimProg.mono_l k
 unfold spec_TrimProg.f
 repeat' (with_reducible first | exact ih0 .. | exact spec_ProgOk.mono .. | exact spec_TrimBody.mono _ _ | exact spec_l17Prog.mono .. | exact LeO.refl _ | exact LeO.none _ | refine LeO.ite ?_ ?_ | refine LeO.bind ?_ (fun _ => ?_))
def spec_TrimProg.T5 : Bool × List (List Nat × List Nat) := (true, [([], []), ([0], [0]), ([], []), ([], []), ([3], [3]), ([], []), ([4, 5], [4, 5]), ([6], [6]), ([7], [7]), ([1, 2, 0, 1, 2, 3, 4, 5, 6, 7, 8], [1, 2]), ([9, 8, 8, 0, 1, 2, 3, 4, 5, 6, 7, 8], [8, 9])])
def spec_TrimProg.B5 : List Nat := [0, 1, 0, 0, 8, 0, 56, 120, 248, 511, 1023]
theorem spec_TrimProg.tab5 : rtab .any (opsOf Try.f61 5) = spec_TrimProg.T5 := by kernel_rfl
theorem spec_TrimProg.bits5 : waitsOk spec_TrimProg.T5.2 spec_TrimProg.B5 = true := by kernel_rfl
set_option maxHeartbeats 80000000 in
set_option maxRecDepth 100000 in
theorem spec_TrimProg.calls (k : Nat) (A0_0 : Option Addr) (c0_0 : Nat) (l0_0 : List Int) (A0_1 : Option Addr) (c0_1 : Nat) (l0_1 : List (List (S63))) (r1 : List Int) (r2 : List (List (S63))) (w : World) (hr0_0 : Kd.C (Kd.int .i64) w A0_0 l0_0.length l0_0) (hc0_0 : l0_0.length ≤ c0_0) (hr0_1 : Kd.C (Kd.slice 63 k63) w A0_1 l0_1.length l0_1) (hc0_1 : l0_1.length ≤ c0_1) (h : spec_TrimProg.f k l0_0 l0_1 = some (r1, r2)) :
  Calls Try.prog 61 #[.agg #[.slice A0_0 l0_0.length c0_0, .slice A0_1 l0_1.length c0_1]] w fun e w' => ∃ v0_ v1_ : Value, e = .returned (.agg #[v0_, v1_]) ∧ Kd.R (Kd.int .i64) 3 w' w.heap.size (fun k_ => (w.heap.size ≤ k_)) v0_ r1 ∧ Kd.N (Kd.slice 63 k63) 24 w' w.heap.size (fun k_ => (w.heap.size ≤ k_) ∧ some k_ ≠ (v0_ : Value).ownBlock) v1_ r2 ∧ Below w.heap.size w w' := by
 have hu56 := Try.underlying56
 have HR0_0 := Aside0.mk hr0_0
 have HC0_0 := Aside0.mk hc0_0
 clear hr0_0 hc0_0
 have HR0_1 := Aside0.mk hr0_1
 have HC0_1 := Aside0.mk hc0_1
 clear hr0_1 hc0_1
 have HB := Aside0.mk (Below.refl w.heap.size w)
 have H : ((spec_l17Prog.f k l0_0 l0_1).bind fun bt414 => (spec_TrimProg.l0 k 0 l0_0 l0_1 bt414.1 bt414.2)) = some (r1, r2) := h
 clear h
 replace H := Option.bind_eq_some_iff.mp H
 obtain ⟨⟨t414, t417⟩, A20, H⟩ := H
 (try dsimp only at H)
 have A2 := Aside0.mk A20
 clear A20
 have H' := Aside0.mk H
 clear H
 go_enter Try.func61, Try.ntmps61
 go_wp2_with (first | ((with_reducible refine gate_dst (N := 1) rfl ?_); refine box_event ?hg (N := 1) ?hd (cs := #[.slice A0_0 l0_0.length c0_0, .slice A0_1 l0_1.length c0_1]) (t := 56) ?hr ?_; (case hd => rfl); (case hg => rfl); (case hr => first | (go_simp; done) | (go_simp; rfl)); intro gb412 hg w3 hbox hb; refine swap4_ (below_step atgB_ hb) (hbox) ((by rw [hg]; exact (below_size atgB_) : w.heap.size ≤ gb412)) ((by rw [hg]; exact (below_size atgB_) : w.heap.size ≤ gb412)) ?_; clear HB; intro HB BK412 GW412 GE412; clear hb hbox hg) | ((with_reducible refine gate_dst (N := 2) rfl ?_); refine box_event ?hg (N := 2) ?hd (cs := #[.slice none 0 0, .slice none 0 0]) (t := 56) ?hr ?_; (case hd => rfl); (case hg => rfl); (case hr => first | (go_simp; done) | (go_simp; rfl)); intro gb413 hg w4 hbox hb; refine swap7_ (blk_below (g := gb412) (o := .cells #[.slice A0_0 l0_0.length c0_0, .slice A0_1 l0_1.length c0_1] 56 (0, 0)) att14_0_3 hb) (below_step att14_0_10 hb) (hbox) ((by rw [hg]; exact (below_size att14_0_10) : w.heap.size ≤ gb413)) ((by rw [hg]; exact (below_size att14_0_10) : w.heap.size ≤ gb413)) ((by rw [hg]; exact Nat.ne_of_lt (blk_lt (g := gb412) (o := .cells #[.slice A0_0 l0_0.length c0_0, .slice A0_1 l0_1.length c0_1] 56 (0, 0)) att14_0_3) : gb412 ≠ gb413)) ((by rw [hg]; exact Nat.ne_of_gt (blk_lt (g := gb412) (o := .cells #[.slice A0_0 l0_0.length c0_0, .slice A0_1 l0_1.length c0_1] 56 (0, 0)) att14_0_3) : gb413 ≠ gb412)) ?_; clear BK412 HB; intro BK412 HB BK413 GW413 GE413 NB412_413 NB413_412; clear hb hbox hg; have hnb5 := NB412_413.out; have hnc5 := NB413_412.out; obtain ⟨hcz6_0, hcz6_1, hfz6_0, hfz6_1⟩ := blkB2_ BK412) | ((with_reducible refine gate_callee (f := 102) rfl ?_); refine goesL_ (some 6) rfl rfl Try.func102 (by kernel_rfl) rfl #[.agg #[.slice A0_0 l0_0.length c0_0, .slice A0_1 l0_1.length c0_1]] rfl atgM_ ?_; (with_reducible refine (spec_l17Prog.calls k _ _ l0_0 _ _ l0_1 t414 t417 _ ?side1 ?side2 ?side3 ?side4 A2.out).mono ?_); (case side1 => repeat (first | exact (Kd.C_below HR0_0.out HB.out) | (with_reducible refine Kd.C_alloc ?_ _) | (with_reducible refine Kd.C_drewN ?_ _) | (with_reducible refine Kd.C_drew ?_))); (case side2 => exact HC0_0.out); (case side3 => repeat (first | exact (Kd.C_below HR0_1.out HB.out) | (with_reducible refine Kd.C_alloc ?_ _) | (with_reducible refine Kd.C_drewN ?_ _) | (with_reducible refine Kd.C_drew ?_))); (case side4 => exact HC0_1.out); rintro e w7 ⟨v415, v418, rfl, ho0, ho1, hb⟩; refine ⟨_, rfl, ?_⟩; refine swap5_ (Kd.R_lower (Kd.R_newM (M := fun k_ => (w.heap.size ≤ k_)) ho0 (below_size att14_0_2) (fun k_ h_ => h_)) (below_size att14_0_2)) (Kd.N_lower (Kd.N_mono (ok' := fun k_ => (w.heap.size ≤ k_) ∧ some k_ ≠ (v415 : Value).ownBlock ∧ k_ ≠ gb412 ∧ k_ ≠ gb413) (Kd.S_N (Kd.S_bound (Kd.S_apart' ho1 (Kd.R_typed ho0) (by decide)))) (fun k_ hk_ => ⟨(Nat.le_trans (below_size att14_0_2) hk_.2.1), hk_.1.2, (Kd.freshB (g := gb412) (o := .cells #[.slice A0_0 l0_0.length c0_0, .slice A0_1 l0_1.length c0_1] 56 (0, 0)) att14_0_3 k_ hk_.2.1), (Kd.freshB (g := gb413) (o := .cells #[.slice none 0 0, .slice none 0 0] 56 (0, 0)) att14_0_4 k_ hk_.2.1)⟩)) (below_size att14_0_2)) (blk_below (g := gb412) (o := .cells #[.slice A0_0 l0_0.length c0_0, .slice A0_1 l0_1.length c0_1] 56 (0, 0)) att14_0_3 hb) (blk_below (g := gb413) (o := .cells #[.slice none 0 0, .slice none 0 0] 56 (0, 0)) att14_0_4 hb) (below_step att14_0_2 hb) ?_; clear BK412 BK413 HB; intro HO416 HO419 BK412 BK413 HB; (try clear hb); (try clear hb2); (try clear hk); (try clear hi); (try clear ho0); (try clear ho1)) | ((with_reducible refine gate_dst (N := 3) rfl ?_); refine box_event ?hg (N := 3) ?hd (cs := #[.slice none 0 0, .slice none 0 0]) (t := 56) ?hr ?_; (case hd => rfl); (case hg => rfl); (case hr => first | (go_simp; done) | (go_simp; rfl)); intro gb420 hg w8 hbox hb; have n0_ := Aside0.mk (Kd.R_below (by exact toR_ (HO416.out)) hb); have n1_ := Aside0.mk (Kd.N_below (Kd.N_elderB (by (with_reducible repeat (first | apply Kd.N_alloc | apply Kd.N_drewN | apply Kd.N_drew)); exact HO419.out) gb420 (Nat.le_of_eq hg.symm)) hb); have n2_ := Aside0.mk (blk_below (g := gb412) (o := .cells #[.slice A0_0 l0_0.length c0_0, .slice A0_1 l0_1.length c0_1] 56 (0, 0)) att14_0_3 hb); have n3_ := Aside0.mk (blk_below (g := gb413) (o := .cells #[.slice none 0 0, .slice none 0 0] 56 (0, 0)) att14_0_4 hb); have n4_ := Aside0.mk (below_step att14_0_2 hb); have n5_ := Aside0.mk (hbox); have n6_ := Aside0.mk ((by rw [hg]; exact (below_size att14_0_2) : w.heap.size ≤ gb420)); have n7_ := Aside0.mk ((by rw [hg]; exact (below_size att14_0_2) : w.heap.size ≤ gb420)); have n8_ := Aside0.mk ((by rw [hg]; exact Nat.ne_of_lt (blk_lt (g := gb412) (o := .cells #[.slice A0_0 l0_0.length c0_0, .slice A0_1 l0_1.length c0_1] 56 (0, 0)) att14_0_3) : gb412 ≠ gb420)); have n9_ := Aside0.mk ((by rw [hg]; exact Nat.ne_of_gt (blk_lt (g := gb412) (o := .cells #[.slice A0_0 l0_0.length c0_0, .slice A0_1 l0_1.length c0_1] 56 (0, 0)) att14_0_3) : gb420 ≠ gb412)); have n10_ := Aside0.mk ((by rw [hg]; exact Nat.ne_of_lt (blk_lt (g := gb413) (o := .cells #[.slice none 0 0, .slice none 0 0] 56 (0, 0)) att14_0_4) : gb413 ≠ gb420)); have n11_ := Aside0.mk ((by rw [hg]; exact Nat.ne_of_gt (blk_lt (g := gb413) (o := .cells #[.slice none 0 0, .slice none 0 0] 56 (0, 0)) att14_0_4) : gb420 ≠ gb413)); clear HO416; clear HO419; clear BK412; clear BK413; clear HB; have HO416 := n0_; have HO419 := n1_; have BK412 := n2_; have BK413 := n3_; have HB := n4_; have BK420 := n5_; have GW420 := n6_; have GE420 := n7_; have NB412_420 := n8_; have NB420_412 := n9_; have NB413_420 := n10_; have NB420_413 := n11_; clear n0_ n1_ n2_ n3_ n4_ n5_ n6_ n7_ n8_ n9_ n10_ n11_; clear hb hbox hg; obtain ⟨Ao9, co9, eo9⟩ := Kd.R_slice HO416.out; subst eo9; have hnb10 := NB420_412.out; have hnc10 := NB412_420.out; have hnb11 := NB420_413.out; have hnc11 := NB413_420.out; obtain ⟨hcz12_0, hcz12_1, hfz12_0, hfz12_1⟩ := blkB2_ BK420; obtain ⟨Ao13, co13, eo13⟩ := Kd.N_slice HO419.out; subst eo13))
 go_loopg [4] k (fun kq v4 w' => ∃ (x4_1 : Int) (x421001_1 : List (List (S63))) (u421001 : Value), v4 = .int .i64 x4_1 ∧ Aside0 (spec_TrimProg.l0 kq x4_1 l0_0 l0_1 t414 x421001_1 = some (r1, r2)) ∧ Aside0 (kq ≤ k) ∧ Aside0 (Kd.R (Kd.int .i64) 3 w' w.heap.size (fun k_ => (w.heap.size ≤ k_)) (.slice Ao9 t414.length co9) t414) ∧ Aside0 (Kd.N (Kd.slice 63 k63) 24 w' w.heap.size (fun k_ => (w.heap.size ≤ k_) ∧ some k_ ≠ ((.slice Ao9 t414.length co9) : Value).ownBlock ∧ k_ ≠ gb412 ∧ k_ ≠ gb413 ∧ k_ ≠ gb420) u421001 x421001_1) ∧ Aside0 (w'.heap[gb412]? = some (.cells #[(.slice A0_0 l0_0.length c0_0), (.slice A0_1 l0_1.length c0_1)] 56 (0, 0))) ∧ Aside0 (w'.heap[gb413]? = some (.cells #[(.slice none 0 0), (.slice none 0 0)] 56 (0, 0))) ∧ Aside0 (w'.heap[gb420]? = some (.cells #[(.slice Ao9 t414.length co9), u421001] 56 (0, 0))) ∧ Aside0 (Below w.heap.size w w'))
 case atStart => exact ⟨(0), (t417), (.slice Ao13 t417.length co13), atgR_, H', ⟨Nat.le_refl _⟩, ⟨by exact toR_ (Kd.R_mono (farR2_ (Kd.R_types HO416.out BK420.out (by decide))) (fun _ hk => hk.1.1))⟩, ⟨by (with_reducible repeat (first | apply Kd.N_alloc | apply Kd.N_drewN | apply Kd.N_drew)); exact Kd.N_mono (Kd.N_far (p := ⟨gb420, 1, none⟩) (Kd.N_far (p := ⟨gb420, 0, none⟩) (Kd.N_mono HO419.out (fun k_ hk => (⟨hk, hk.2⟩ : _ ∧ k_ ≠ gb420))) (fun _ hk => hk.2) (.slice Ao9 t414.length co9)) (fun _ hk => hk.2) (.slice Ao13 t417.length co13)) (fun _ hk => ⟨hk.1.1.1, ⟨hk.1.1.2.1, ⟨hk.1.1.2.2.1, ⟨hk.1.1.2.2.2, hk.1.2⟩⟩⟩⟩)⟩, ⟨by (with_reducible repeat (first | refine blk_drewN ?_ _ | refine blk_drew ?_ | refine blk_alloc ?_ _)); refine blk_far ?_ NB412_420.out _; (with_reducible repeat (first | refine blk_drewN ?_ _ | refine blk_drew ?_ | refine blk_alloc ?_ _)); refine blk_far ?_ NB412_420.out _; (with_reducible repeat (first | refine blk_drewN ?_ _ | refine blk_drew ?_ | refine blk_alloc ?_ _)); exact BK412.out⟩, ⟨by (with_reducible repeat (first | refine blk_drewN ?_ _ | refine blk_drew ?_ | refine blk_alloc ?_ _)); refine blk_far ?_ NB413_420.out _; (with_reducible repeat (first | refine blk_drewN ?_ _ | refine blk_drew ?_ | refine blk_alloc ?_ _)); refine blk_far ?_ NB413_420.out _; (with_reducible repeat (first | refine blk_drewN ?_ _ | refine blk_drew ?_ | refine blk_alloc ?_ _)); exact BK413.out⟩, ⟨by (with_reducible repeat (first | refine blk_drewN ?_ _ | refine blk_drew ?_ | refine blk_alloc ?_ _)); refine blk_put (cs := #[.slice Ao9 t414.length co9, .slice none 0 0]) ?_ 1 _ rfl; (with_reducible repeat (first | refine blk_drewN ?_ _ | refine blk_drew ?_ | refine blk_alloc ?_ _)); refine blk_put (cs := #[.slice none 0 0, .slice none 0 0]) ?_ 0 _ rfl; (with_reducible repeat (first | refine blk_drewN ?_ _ | refine blk_drew ?_ | refine blk_alloc ?_ _)); exact BK420.out⟩, ⟨att14_0_0⟩⟩
 case round =>
  clear H'
  try clear c1
  try clear p2
  try clear c5
  try clear c6
  try clear c10
  try clear c11
  try clear hcz12_0 hcz12_1
  try clear hcz6_0 hcz6_1
  try clear hfz12_0 hfz12_1
  try clear hfz6_0 hfz6_1
  obtain ⟨x4_1, x421001_1, u421001, rfl, HA, HK1, HO_421000, HO_421001, BK412, BK413, BK420, HB⟩ := hrel
  cases gk with
  | zero => exact absurd HA.out (by simp [spec_TrimProg.l0])
  | succ k1 =>
   have H := HA.out
   clear HA
   simp only [spec_TrimProg.l0] at H
   by_cases c14 : x4_1 < (l0_1.length : Int)
   ·rw [if_pos c14] at H
    have c14b0 := decide_eq_true c14
    clear c14
    replace H := Option.bind_eq_some_iff.mp H
    obtain ⟨t421, A150, H⟩ := H
    (try dsimp only at H)
    have A15 := Aside0.mk A150
    clear A150
    by_cases c16 : t421 = true
    ·subst c16
     rw [if_pos rfl] at H
     by_cases c17 : 0 ≤ x4_1
     ·rw [if_pos c17] at H
      have c17b0 := decide_eq_true c17
      clear c17
      replace H := Option.bind_eq_some_iff.mp H
      obtain ⟨t423, A180, H⟩ := H
      (try dsimp only at H)
      have A18 := Aside0.mk A180
      clear A180
      by_cases c19 : x4_1 < (x421001_1.length : Int)
      ·rw [if_pos c19] at H
       have c19b0 := decide_eq_true c19
       clear c19
       obtain ⟨y426, hy426⟩ : ∃ y_ : List (List (S63)), y_ = (x421001_1.set (x4_1 : Int).toNat t423) := ⟨_, rfl⟩
       replace H : (spec_TrimProg.l0 k1 (wrap64 (x4_1 + 1)) l0_0 l0_1 t414 y426) = some (r1, r2) := by rw [hy426]; exact H
       have Ny426 := Aside0.mk hy426
       clear hy426
       have H' := Aside0.mk H
       clear H
       have hnb21 := NB412_413.out
       have hnc21 := NB413_412.out
       have hnb22 := NB412_420.out
       have hnc22 := NB420_412.out
       obtain ⟨hcz23_0, hcz23_1, hfz23_0, hfz23_1⟩ := blkB2_ BK412
       try go_wp2_with (first | (go_at_call 103; (with_reducible refine (spec_ProgOk.calls k1 _ _ l0_0 _ _ l0_1 true _ ?side1 ?side2 ?side3 ?side4 A15.out).mono ?_); (case side1 => repeat (first | exact (Kd.C_below HR0_0.out HB.out) | (with_reducible refine Kd.C_alloc ?_ _) | (with_reducible refine Kd.C_drewN ?_ _) | (with_reducible refine Kd.C_drew ?_))); (case side2 => exact HC0_0.out); (case side3 => repeat (first | exact (Kd.C_below HR0_1.out HB.out) | (with_reducible refine Kd.C_alloc ?_ _) | (with_reducible refine Kd.C_drewN ?_ _) | (with_reducible refine Kd.C_drew ?_))); (case side4 => exact HC0_1.out); rintro e w24 ⟨rfl, hb⟩; refine swap6_ (Kd.R_below att14_0_14 hb) (Kd.N_below att14_0_15 hb) (blk_below (g := gb412) (o := .cells #[.slice A0_0 l0_0.length c0_0, .slice A0_1 l0_1.length c0_1] 56 (0, 0)) att14_0_3 hb) (blk_below (g := gb413) (o := .cells #[.slice none 0 0, .slice none 0 0] 56 (0, 0)) att14_0_4 hb) (blk_below (g := gb420) (o := .cells #[.slice Ao9 t414.length co9, u421001] 56 (0, 0)) att14_0_12 hb) (below_step att14_0_0 hb) ?_; clear HO_421000 HO_421001 BK412 BK413 BK420 HB; intro HO_421000 HO_421001 BK412 BK413 BK420 HB; (try clear hb); (try clear hb2); (try clear hk); (try clear hi)))
       have n0_ := Aside0.mk (Kd.R_drew HO_421000.out)
       have n1_ := Aside0.mk (Kd.N_drew HO_421001.out)
       have n2_ := Aside0.mk (blk_drew BK412.out)
       have n3_ := Aside0.mk (blk_drew BK413.out)
       have n4_ := Aside0.mk (blk_drew BK420.out)
       have n5_ := Aside0.mk (below_drew1 HB.out)
       clear HO_421000
       clear HO_421001
       clear BK412
       clear BK413
       clear BK420
       clear HB
       have HO_421000 := n0_
       have HO_421001 := n1_
       have BK412 := n2_
       have BK413 := n3_
       have BK420 := n4_
       have HB := n5_
       clear n0_ n1_ n2_ n3_ n4_ n5_
       have p422 : 0 ≤ (x4_1 : Int) := of_decide_eq_true atgA_
       have q422 : x4_1 < (l0_1.length : Int) := of_decide_eq_true atgA_
       obtain ⟨ad422, A422_0, c422_0, e422, hx422_0, hl422_0, hi422_0⟩ := at_L4 HR0_1.out x4_1 p422 q422
       have hw422_0 := hx422_0
       cases e422
       replace hx422_0 := blc_ HB hx422_0
       have HR422_0 := Aside0.mk hi422_0
       have HC422_0 := Aside0.mk hl422_0
       clear hi422_0 hl422_0
       replace p422 := eq_true p422
       replace q422 := eq_true q422
       refine start_ (n := 11) (S := fun w' => w'.cell? ⟨gb420, 0, none⟩ = some (.slice Ao9 t414.length co9) ∧ w'.cell? ⟨gb420, 1, none⟩ = some (u421001) ∧ w'.cell? ⟨gb412, 0, none⟩ = some (.slice A0_0 l0_0.length c0_0) ∧ w'.cell? ⟨gb412, 1, none⟩ = some (.slice (some ad422) l0_1.length c0_1) ∧ w'.cell? (ad422.add (x4_1).toNat) = some (.slice A422_0 (rd_L4 l0_1 x4_1).length c422_0)) (ds := [10]) (tf_ 0 11) (by kernel_rfl) rfl rfl ⟨(blk_cell BK420.out 0).trans rfl, (blk_cell BK420.out 1).trans rfl, (blk_cell BK412.out 0).trans rfl, (blk_cell BK412.out 1).trans rfl, ((HB.out.cell (World.block_lt_of_cell? w _ hw422_0)).trans hw422_0)⟩ (fun hHeld => ?_); refine with_tabW spec_TrimProg.tab5 spec_TrimProg.bits5 (fun HT_ HW_ => ?_)
       generalize w24.drew = w25 at HO_421000 HO_421001 BK412 BK413 BK420 HB HR422_0 hx422_0 hHeld ⊢
       refine pureQ_ (i := 0) (N := some 18) (tf_ 1 10) (h := ?_)
       refine pureQ_ (i := 2) (N := some 20) #[true, false, true, false, false, false, false, false, false, false, false] (h := ?_)
       refine pureQ_ (i := 3) (N := some 21) #[true, false, true, true, false, false, false, false, false, false, false] (h := ?_)
       refine pureQ_ (i := 5) (N := some 23) #[true, false, true, true, false, true, false, false, false, false, false] (h := ?_)
       refine takeQ_ (i := 1) (N := some 19) #[true, true, true, true, false, true, false, false, false, false, false] hHeld (hy := Or.inl ⟨by rfl, att14_0_16⟩) (h := ?_)
       refine takeQ_ (i := 4) (N := some 22) (tf_ 6 5) hHeld (hy := Or.inl ⟨by rfl, att14_0_16⟩) (h := ?_)
       refine pureQ_ (i := 6) (N := some 24) (tf_ 7 4) (h := ?_)
       refine takeQ_ (i := 7) (N := some 25) (tf_ 8 3) hHeld (hy := Or.inl ⟨by rfl, att14_0_16⟩) (h := ?_)
       refine one_ (i := 8) (N := some 26) (tf_ 9 2) rfl rfl (one_of HT_.out (by kernel_rfl)) (by decide) (fun K hK => ?_)
       refine goes_ Try.func50 (by kernel_rfl) rfl #[.slice A422_0 (rd_L4 l0_1 x4_1).length c422_0] (by rfl) rfl rfl atgM_ ?_
       with_reducible refine (spec_TrimBody.calls k1 _ _ (rd_L4 l0_1 x4_1) t423 _ ?side1 ?side2 A18.out).mono ?_
       (case side1 => repeat (first | exact (Kd.C_below HR422_0.out HB.out) | (with_reducible refine Kd.C_alloc ?_ _) | (with_reducible refine Kd.C_drewN ?_ _) | (with_reducible refine Kd.C_drew ?_)))
       (case side2 => exact HC422_0.out)
       rintro e w26 ⟨v424, rfl, ho0, hb⟩
       refine ⟨_, rfl, ?_⟩
       have n0_ := Aside0.mk (Kd.R_below att14_0_14 hb)
       have n1_ := Aside0.mk (Kd.N_elder' att14_0_15 (Kd.R_base ho0) hb)
       have n2_ := Aside0.mk (Kd.R_lower (Kd.R_newM (M := fun k_ => (w.heap.size ≤ k_)) ho0 (below_size att14_0_0) (fun k_ h_ => h_)) (below_size att14_0_0))
       have n3_ := Aside0.mk (blk_below (g := gb412) (o := .cells #[.slice A0_0 l0_0.length c0_0, .slice (some ad422) l0_1.length c0_1] 56 (0, 0)) att14_0_3 hb)
       have n4_ := Aside0.mk (blk_below (g := gb413) (o := .cells #[.slice none 0 0, .slice none 0 0] 56 (0, 0)) att14_0_4 hb)
       have n5_ := Aside0.mk (blk_below (g := gb420) (o := .cells #[.slice Ao9 t414.length co9, u421001] 56 (0, 0)) att14_0_12 hb)
       have n6_ := Aside0.mk (below_step att14_0_0 hb)
       clear HO_421000
       clear HO_421001
       clear BK412
       clear BK413
       clear BK420
       clear HB
       have HO_421000 := n0_
       have HO_421001 := n1_
       have HO425 := n2_
       have BK412 := n3_
       have BK413 := n4_
       have BK420 := n5_
       have HB := n6_
       clear n0_ n1_ n2_ n3_ n4_ n5_ n6_
       (try clear hb)
       (try clear hb2)
       (try clear hk)
       (try clear hi)
       (try clear ho0)
       obtain ⟨Aq424, cq424, eq424⟩ := Kd.R_slice HO425.out
       subst eq424
       have p20 : 0 ≤ (x4_1 : Int) := of_decide_eq_true atgA_
       have q20 : (x4_1 : Int) < ((x421001_1.length : Int) : Int) := of_decide_eq_true atgA_
       obtain ⟨go20, co20, eo20, gb20, gl20, cl20, HG20⟩ := Kd.N_form HO_421001.out (by omega)
       (first | cases eo20 | (injection eo20 with ea_ en_ ec_; (first | subst ea_ | (injection ea_ with ea_; subst ea_)); subst ec_; clear en_))
       have GB20 := Aside0.mk gb20
       have GG20 := Aside0.mk HG20
       clear gb20 gl20 HG20
       obtain ⟨ce20, hcl20, hM20, hcc20, hfr20⟩ := Kd.N_elem HO_421001.out [] (x4_1 : Int) p20 q20
       obtain ⟨ua20_0, uc20_0, rfl, ul20_0, ge20_0⟩ := Kd.FK_slice_open hM20
       have hx20_0 := hcc20 0 _ rfl
       have hf20_0 := hfr20 0
       (try simp only [show ((Kd.slice 63 k63)).sz = 1 from rfl, Nat.mul_one, Nat.add_zero] at hx20_0)
       (try simp only [show ((Kd.slice 63 k63)).sz = 1 from rfl, Nat.mul_one, Nat.add_zero] at hf20_0)
       clear hcl20 hcc20 hfr20 hM20
       replace p20 := eq_true p20
       replace q20 := eq_true q20
       have HX27 := Aside0.mk (show Kd.N (Kd.slice 63 k63) 24 _ w.heap.size (fun k_ => (w.heap.size ≤ k_) ∧ some k_ ≠ (.slice Ao9 t414.length co9 : Value).ownBlock ∧ some k_ ≠ ((.slice Aq424 t423.length cq424) : Value).ownBlock ∧ k_ ≠ gb412 ∧ k_ ≠ gb413 ∧ k_ ≠ gb420) (.slice (some ⟨go20, 0, none⟩) x421001_1.length co20) x421001_1 from (Kd.N_mono (HO_421001.out) (fun k_ hk => ⟨hk.1.1, ⟨hk.1.2.1, ⟨hk.2, ⟨hk.1.2.2.1, ⟨hk.1.2.2.2.1, hk.1.2.2.2.2⟩⟩⟩⟩⟩)))
       replace HX27 := Aside0.mk (show Kd.N (Kd.slice 63 k63) 24 _ w.heap.size (fun k_ => (w.heap.size ≤ k_) ∧ some k_ ≠ (.slice Ao9 t414.length co9 : Value).ownBlock ∧ k_ ≠ gb412 ∧ k_ ≠ gb413 ∧ k_ ≠ gb420) (.slice (some ⟨go20, 0, none⟩) x421001_1.length co20) x421001_1 from Kd.N_mono HX27.out (fun k_ hk => ⟨hk.1, ⟨hk.2.1, ⟨hk.2.2.2.1, ⟨hk.2.2.2.2.1, hk.2.2.2.2.2⟩⟩⟩⟩))
       obtain ⟨ce27, hcl27, hM27, hcc27, hfr27⟩ := Kd.N_elem HX27.out [] (x4_1 : Int) (of_decide_eq_true atgA_) att14_1_0
       obtain ⟨ua27_0, uc27_0, rfl, ul27_0, ge27_0⟩ := Kd.FK_slice_open hM27
       have HP27 := (Kd.N_seg HX27.out (x4_1 : Int) (of_decide_eq_true atgA_) att14_1_0 (seg := [(.slice Aq424 t423.length cq424)]) (j := 0) hcl27 hcc27 (show 1 ≤ 1 from by decide) (x' := t423) (Kd.FK_slice_mk (Kd.R_reads' (Kd.R_mono (ok' := (fun k_ => ((fun k_ => (w.heap.size ≤ k_) ∧ some k_ ≠ (.slice Ao9 t414.length co9 : Value).ownBlock ∧ k_ ≠ gb412 ∧ k_ ≠ gb413 ∧ k_ ≠ gb420)) k_ ∧ k_ ≠ go20)) (Kd.R_types (Kd.R_types (Kd.R_types (Kd.R_apart' (Kd.R_apart' (HO425.out) (Kd.R_typed HO_421000.out) (by decide)) (Kd.N_typed HO_421001.out) (by decide)) BK412.out (by decide)) BK413.out (by decide)) BK420.out (by decide)) (fun k_ hk => ⟨⟨hk.1.1.1.1.1.1, ⟨hk.1.1.1.1.2, ⟨hk.1.1.2, ⟨hk.1.2, hk.2⟩⟩⟩⟩, fun e_ => (hk.1.1.1.2) (by rw [e_]; rfl)⟩))).2.1 (Kd.R_F (Kd.R_mono (ok' := (fun k_ => ((fun k_ => (w.heap.size ≤ k_) ∧ some k_ ≠ (.slice Ao9 t414.length co9 : Value).ownBlock ∧ k_ ≠ gb412 ∧ k_ ≠ gb413 ∧ k_ ≠ gb420)) k_ ∧ k_ ≠ go20)) (Kd.R_types (Kd.R_types (Kd.R_types (Kd.R_apart' (Kd.R_apart' (HO425.out) (Kd.R_typed HO_421000.out) (by decide)) (Kd.N_typed HO_421001.out) (by decide)) BK412.out (by decide)) BK413.out (by decide)) BK420.out (by decide)) (fun k_ hk => ⟨⟨hk.1.1.1.1.1.1, ⟨hk.1.1.1.1.2, ⟨hk.1.1.2, ⟨hk.1.2, hk.2⟩⟩⟩⟩, fun e_ => (hk.1.1.1.2) (by rw [e_]; rfl)⟩)))) (fun _ hk => hk)).1
       (try simp only [show ((Kd.slice 63 k63)).sz = 1 from rfl, Nat.mul_one, Nat.add_zero] at HP27)
       rw [← Ny426.out] at HP27
       have HQ27 := Aside0.mk HP27
       clear hcl27 hcc27 hfr27 hM27 HP27
       refine hK.out _ _ ⟨(blk_cell BK420.out 0).trans rfl, (blk_cell BK420.out 1).trans rfl, (blk_cell BK412.out 0).trans rfl, (blk_cell BK412.out 1).trans rfl, ((HB.out.cell (World.block_lt_of_cell? w _ hw422_0)).trans hw422_0)⟩ (fun hHeld => ?_)
       clear hK K
       refine normP_ (h := ?_)
       refine pureQ_ (i := 9) (N := some 27) (tf_ 10 1) (h := ?_)
       refine last_ (i := 10) (N := none) (tf_ 11 0) rfl rfl (one_of HT_.out (by kernel_rfl)) (by decide) (fun K hK => ?_)
       refine skip_ (w1 := ?_) (by rfl) rfl ?_ ?_
       rotate_left
       ·go_simp
        rfl
       refine hK.out _ _ ?_
       clear hK K
       refine done_ (done_of HT_.out (by kernel_rfl)) ?_
       try go_wp2
       go_roundg k1
       case measure => have := HK1.out; omega
       case rel => exact ⟨(wrap64 (x4_1 + 1)), (y426), (.slice (some ⟨go20, 0, none⟩) x421001_1.length co20), atgR_, H', ⟨by have := HK1.out; omega⟩, ⟨by exact toR_ (Kd.R_mono (Kd.R_far (p := ⟨go20, (x4_1 : Int).toNat, none⟩) (Kd.R_types HO_421000.out GG20.out (by decide)) (fun _ hk => hk.2) ((.slice Aq424 t423.length cq424))) (fun _ hk => hk.1))⟩, ⟨by (with_reducible repeat (first | apply Kd.N_alloc | apply Kd.N_drewN | apply Kd.N_drew)); exact HQ27.out⟩, ⟨by (with_reducible repeat (first | refine blk_drewN ?_ _ | refine blk_drew ?_ | refine blk_alloc ?_ _)); refine blk_far ?_ (by have h_ := Kd.N_away HO_421001.out (fun _ hk => by first | exact hk.2.2.1 | exact hk.1.2.2.1); intro e_; exact h_ (by rw [e_]; rfl)) _; (with_reducible repeat (first | refine blk_drewN ?_ _ | refine blk_drew ?_ | refine blk_alloc ?_ _)); exact BK412.out⟩, ⟨by (with_reducible repeat (first | refine blk_drewN ?_ _ | refine blk_drew ?_ | refine blk_alloc ?_ _)); refine blk_far ?_ (by have h_ := Kd.N_away HO_421001.out (fun _ hk => by first | exact hk.2.2.2.1 | exact hk.1.2.2.2.1); intro e_; exact h_ (by rw [e_]; rfl)) _; (with_reducible repeat (first | refine blk_drewN ?_ _ | refine blk_drew ?_ | refine blk_alloc ?_ _)); exact BK413.out⟩, ⟨by (with_reducible repeat (first | refine blk_drewN ?_ _ | refine blk_drew ?_ | refine blk_alloc ?_ _)); refine blk_far ?_ (by have h_ := Kd.N_away HO_421001.out (fun _ hk => by first | exact hk.2.2.2.2 | exact hk.1.2.2.2.2); intro e_; exact h_ (by rw [e_]; rfl)) _; (with_reducible repeat (first | refine blk_drewN ?_ _ | refine blk_drew ?_ | refine blk_alloc ?_ _)); exact BK420.out⟩, ⟨by repeat (first | (with_reducible first | exact HB.out | apply below_alloc | apply pw_below_drewN | apply below_drew1 | refine below_set ?_ GB20.out | refine below_set ?_ GE412.out | refine below_set ?_ GE413.out | refine below_set ?_ GE420.out) | exact HB.out)⟩⟩
      ·rw [if_neg c19] at H
       exact absurd H (by simp)
     ·rw [if_neg c17] at H
      exact absurd H (by simp)
    ·replace c16 := Bool.eq_false_iff.mpr c16
     subst c16
     rw [if_neg (show ¬ (false = true) by decide)] at H
     simp only [Option.some.injEq, Prod.mk.injEq] at H
     obtain ⟨rfl, rfl⟩ := H
     have hnb28 := NB412_413.out
     have hnc28 := NB413_412.out
     have hnb29 := NB412_420.out
     have hnc29 := NB420_412.out
     obtain ⟨hcz30_0, hcz30_1, hfz30_0, hfz30_1⟩ := blkB2_ BK412
     go_wp2_with (first | (go_at_call 103; (with_reducible refine (spec_ProgOk.calls k1 _ _ l0_0 _ _ l0_1 false _ ?side1 ?side2 ?side3 ?side4 A15.out).mono ?_); (case side1 => repeat (first | exact (Kd.C_below HR0_0.out HB.out) | (with_reducible refine Kd.C_alloc ?_ _) | (with_reducible refine Kd.C_drewN ?_ _) | (with_reducible refine Kd.C_drew ?_))); (case side2 => exact HC0_0.out); (case side3 => repeat (first | exact (Kd.C_below HR0_1.out HB.out) | (with_reducible refine Kd.C_alloc ?_ _) | (with_reducible refine Kd.C_drewN ?_ _) | (with_reducible refine Kd.C_drew ?_))); (case side4 => exact HC0_1.out); rintro e w31 ⟨rfl, hb⟩; refine swap6_ (Kd.R_below att14_0_14 hb) (Kd.N_below att14_0_15 hb) (blk_below (g := gb412) (o := .cells #[.slice A0_0 l0_0.length c0_0, .slice A0_1 l0_1.length c0_1] 56 (0, 0)) att14_0_3 hb) (blk_below (g := gb413) (o := .cells #[.slice none 0 0, .slice none 0 0] 56 (0, 0)) att14_0_4 hb) (blk_below (g := gb420) (o := .cells #[.slice Ao9 t414.length co9, u421001] 56 (0, 0)) att14_0_12 hb) (below_step att14_0_0 hb) ?_; clear HO_421000 HO_421001 BK412 BK413 BK420 HB; intro HO_421000 HO_421001 BK412 BK413 BK420 HB; (try clear hb); (try clear hb2); (try clear hk); (try clear hi); have hnb32 := NB420_413.out; have hnc32 := NB413_420.out; obtain ⟨hcz33_0, hcz33_1, hfz33_0, hfz33_1⟩ := blkB2_ BK420; obtain ⟨hcz34_0, hcz34_1, hfz34_0, hfz34_1⟩ := blkB2_ BK413; obtain ⟨Ao35, co35, eo35⟩ := Kd.N_slice HO_421001.out; subst eo35))
     refine bodyPost_ret (results_cell_row rfl _ _ gb413 56 #[.slice Ao9 t414.length co9, .slice Ao35 x421001_1.length co35] (0, 0) _ rfl att14_0_9 Try.underlying56 rfl (by kernel_rfl)) rfl ?_
     exact ⟨_, _, retT_, by exact toR_ (Kd.R_mono (farR2_ (Kd.R_types HO_421000.out BK413.out (by decide))) (fun _ hk => hk.1)), by (with_reducible repeat (first | apply Kd.N_alloc | apply Kd.N_drewN | apply Kd.N_drew)); exact Kd.N_mono (Kd.N_far (p := ⟨gb413, 1, none⟩) (Kd.N_far (p := ⟨gb413, 0, none⟩) (Kd.N_mono HO_421001.out (fun k_ hk => (⟨hk, hk.2.2.2.1⟩ : _ ∧ k_ ≠ gb413))) (fun _ hk => hk.2) (.slice Ao9 t414.length co9)) (fun _ hk => hk.2) (.slice Ao35 x421001_1.length co35)) (fun _ hk => ⟨hk.1.1, hk.1.2.1⟩), att14_0_0⟩
   ·rw [if_neg c14] at H
    have c14b0 := decide_eq_false c14
    clear c14
    simp only [Option.some.injEq, Prod.mk.injEq] at H
    obtain ⟨rfl, rfl⟩ := H
    have hnb36 := NB412_413.out
    have hnc36 := NB413_412.out
    have hnb37 := NB412_420.out
    have hnc37 := NB420_412.out
    obtain ⟨hcz38_0, hcz38_1, hfz38_0, hfz38_1⟩ := blkB2_ BK412
    have hnb39 := NB420_413.out
    have hnc39 := NB413_420.out
    obtain ⟨hcz40_0, hcz40_1, hfz40_0, hfz40_1⟩ := blkB2_ BK420
    obtain ⟨hcz41_0, hcz41_1, hfz41_0, hfz41_1⟩ := blkB2_ BK413
    obtain ⟨Ao42, co42, eo42⟩ := Kd.N_slice HO_421001.out
    subst eo42
    go_wp2
    refine bodyPost_ret (results_cell_row rfl _ _ gb413 56 #[.slice Ao9 t414.length co9, .slice Ao42 x421001_1.length co42] (0, 0) _ rfl att14_0_9 Try.underlying56 rfl (by kernel_rfl)) rfl ?_
    exact ⟨_, _, retT_, by exact toR_ (Kd.R_mono (farR2_ (Kd.R_types HO_421000.out BK413.out (by decide))) (fun _ hk => hk.1)), by (with_reducible repeat (first | apply Kd.N_alloc | apply Kd.N_drewN | apply Kd.N_drew)); exact Kd.N_mono (Kd.N_far (p := ⟨gb413, 1, none⟩) (Kd.N_far (p := ⟨gb413, 0, none⟩) (Kd.N_mono HO_421001.out (fun k_ hk => (⟨hk, hk.2.2.2.1⟩ : _ ∧ k_ ≠ gb413))) (fun _ hk => hk.2) (.slice Ao9 t414.length co9)) (fun _ hk => hk.2) (.slice Ao42 x421001_1.length co42)) (fun _ hk => ⟨hk.1.1, hk.1.2.1⟩), att14_0_0⟩

end Go.Proofs.Ytocimkpafakiaaa.XFnExactTrimProg
