/- Each Go function that the law reaches as a Lean function, and that Go comes to just its answer; written by this session's xprint.py over the kit's printer. -/
import Derived.Test.YtocimkpafakiaaaXFnExactTrimProgx0
import Derived.Test.YtocimkpafakiaaaXFnExactTrimProgx5
import Derived.Test.YtocimkpafakiaaaXFnExactTrimProgx6
namespace Go.Proofs.Ytocimkpafakiaaa.XFnExactTrimProg
open Go.RowKit Go.Proofs.YtocimkpafakiaaaW.PrintWords Go.Proofs.YtocimkpafakiaaaW.PrintLast Go.Proofs.YtocimkpafakiaaaW.PrintMore
attribute [local go_sem] max2_int min2_int max_two min_two max_three min_three max_four min_four   -- for this text's walks alone
set_option linter.unusedVariables false
set_option linter.unusedSimpArgs false

theorem att8_0_0 {p : Prop} (h : p := by (with_reducible repeat (first | refine blk_drewN ?_ _ | refine blk_drew ?_ | refine blk_alloc ?_ _)); refine blk_put (cs := #[.int .i64 ((rd_T63 l0 a1).f0), .int .i64 ((rd_T63 l0 a1).f1), .int .i64 ((rd_T63 l0 a1).f2), .int .i64 ((rd_T63 l0 a1).f3), .int .i64 0]) ?_ 4 _ rfl; (with_reducible repeat (first | refine blk_drewN ?_ _ | refine blk_drew ?_ | refine blk_alloc ?_ _)); refine blk_put (cs := #[.int .i64 ((rd_T63 l0 a1).f0), .int .i64 ((rd_T63 l0 a1).f1), .int .i64 ((rd_T63 l0 a1).f2), .int .i64 0, .int .i64 0]) ?_ 3 _ rfl; (with_reducible repeat (first | refine blk_drewN ?_ _ | refine blk_drew ?_ | refine blk_alloc ?_ _)); refine blk_put (cs := #[.int .i64 ((rd_T63 l0 a1).f0), .int .i64 ((rd_T63 l0 a1).f1), .int .i64 0, .int .i64 0, .int .i64 0]) ?_ 2 _ rfl; (with_reducible repeat (first | refine blk_drewN ?_ _ | refine blk_drew ?_ | refine blk_alloc ?_ _)); refine blk_put (cs := #[.int .i64 ((rd_T63 l0 a1).f0), .int .i64 0, .int .i64 0, .int .i64 0, .int .i64 0]) ?_ 1 _ rfl; (with_reducible repeat (first | refine blk_drewN ?_ _ | refine blk_drew ?_ | refine blk_alloc ?_ _)); refine blk_put (cs := #[.int .i64 0, .int .i64 0, .int .i64 0, .int .i64 0, .int .i64 0]) ?_ 0 _ rfl; (with_reducible repeat (first | refine blk_drewN ?_ _ | refine blk_drew ?_ | refine blk_alloc ?_ _)); exact BK202.out) : p := h
theorem att8_0_2 {p : Prop} (h : p := by repeat (first | (with_reducible first | exact HB.out | apply below_alloc | apply pw_below_drewN | apply below_drew1 | refine below_set ?_ GE202.out) | exact HB.out)) : p := h
theorem att8_0_7 {p : Prop} (h : p := by exact toR_ (HO_5.out)) : p := h
/-! ### spec_BodyOk: function 63 -/
def spec_BodyOk.l0 : Nat → List (S63) → Int → Int → Int → Option (Bool)
 | 0, _, _, _, _ => none
 | k + 1, x0, x1, x5, x6 => if x6 < x5 then (if 0 ≤ x6 then (if x6 < (x0.length : Int) then ((spec_InsOk.f k ((rd_T63 x0 x6).f0) ((rd_T63 x0 x6).f1) ((rd_T63 x0 x6).f2) ((rd_T63 x0 x6).f3) ((rd_T63 x0 x6).f4) x5 x1).bind fun t184 => (if t184 = true then (spec_BodyOk.l0 k x0 x1 x5 (wrap64 (x6 + 1))) else (some false))) else (none)) else (none)) else ((spec_l1In.f x5 1 24).bind fun t185 => (if t185 = true then ((spec_l1In.f x1 0 3).bind fun t186 => (if t186 = true then (if 0 ≤ (wrap64 (x5 - 1)) then (if (wrap64 (x5 - 1)) < (x0.length : Int) then (if ((rd_T63 x0 (wrap64 (x5 - 1))).f0) = 13 then (some true) else (some (((rd_T63 x0 (wrap64 (x5 - 1))).f0) == 11))) else (none)) else (none)) else (some false))) else (some false)))
def spec_BodyOk.f (k : Nat) (l0 : List (S63)) (a1 : Int) : Option (Bool) := spec_BodyOk.l0 k l0 a1 (l0.length : Int) 0
theorem spec_BodyOk.mono_l : ∀ k, (∀ y0 y1 y2 y3, LeO (spec_BodyOk.l0 k y0 y1 y2 y3) (spec_BodyOk.l0 (k + 1) y0 y1 y2 y3))
 | 0 => fun _ _ _ _ r h => by simp [spec_BodyOk.l0] at h
 | k + 1 => by
  have ih0 := spec_BodyOk.mono_l k
  ·intro y0 y1 y2 y3
   unfold spec_BodyOk.l0
   repeat' (with_reducible first | exact ih0 .. | exact spec_InsOk.mono .. | exact LeO.refl _ | exact LeO.none _ | refine LeO.ite ?_ ?_ | refine LeO.bind ?_ (fun _ => ?_))
theorem spec_BodyOk.mono : ∀ a0 a1 k, LeO (spec_BodyOk.f k a0 a1) (spec_BodyOk.f (k + 1) a0 a1) := by
 intro a0 a1 k
 have ih0 := spec_BodyOk.mono_l k
 unfold spec_BodyOk.f
 repeat' (with_reducible first | exact ih0 .. | exact spec_InsOk.mono .. | exact LeO.refl _ | exact LeO.none _ | refine LeO.ite ?_ ?_ | refine LeO.bind ?_ (fun _ => ?_))
set_option maxHeartbeats 80000000 in
set_option maxRecDepth 100000 in
theorem spec_BodyOk.calls (k : Nat) (A0 : Option Addr) (c0 : Nat) (l0 : List (S63)) (a1 : Int) (r : Bool) (w : World) (hr0 : Kd.C k63 w A0 l0.length l0) (hc0 : l0.length ≤ c0) (h : spec_BodyOk.f k l0 a1 = some r) :
  Calls Try.prog 63 #[.slice A0 l0.length c0, .int .i64 a1] w fun e w' => e = .returned (.bool r) ∧ Below w.heap.size w w' := by
 have hu63 := Try.underlying63
 have HR0 := Aside0.mk hr0
 have HC0 := Aside0.mk hc0
 clear hr0 hc0
 have HB := Aside0.mk (Below.refl w.heap.size w)
 have H : (spec_BodyOk.l0 k l0 a1 (l0.length : Int) 0) = some r := h
 clear h
 have H' := Aside0.mk H
 clear H
 go_enter Try.func63, Try.ntmps63
 go_wp2
 go_loopg [6] k (fun kq v6 w' => ∃ (x6_1 : Int), v6 = .int .i64 x6_1 ∧ Aside0 (spec_BodyOk.l0 kq l0 a1 (l0.length : Int) x6_1 = some r) ∧ Aside0 (kq ≤ k) ∧ Aside0 (Below w.heap.size w w'))
 case atStart => exact ⟨(0), atgR_, H', ⟨Nat.le_refl _⟩, ⟨atgB_⟩⟩
 case round =>
  clear H'
  try clear p2
  obtain ⟨x6_1, rfl, HA, HK1, HB⟩ := hrel
  cases gk with
  | zero => exact absurd HA.out (by simp [spec_BodyOk.l0])
  | succ k1 =>
   have H := HA.out
   clear HA
   simp only [spec_BodyOk.l0] at H
   by_cases c3 : x6_1 < (l0.length : Int)
   ·rw [if_pos c3] at H
    have c3b0 := decide_eq_true c3
    clear c3
    by_cases c4 : 0 ≤ x6_1
    ·rw [if_pos c4] at H
     have c4b0 := decide_eq_true c4
     clear c4
     by_cases c5 : x6_1 < (l0.length : Int)
     ·rw [if_pos c5] at H
      have c5b0 := decide_eq_true c5
      clear c5
      replace H := Option.bind_eq_some_iff.mp H
      obtain ⟨t184, A60, H⟩ := H
      (try dsimp only at H)
      have A6 := Aside0.mk A60
      clear A60
      by_cases c7 : t184 = true
      ·subst c7
       rw [if_pos rfl] at H
       have H' := Aside0.mk H
       clear H
       have p183 : 0 ≤ (x6_1 : Int) := of_decide_eq_true atgA_
       have q183 : x6_1 < (l0.length : Int) := of_decide_eq_true atgA_
       obtain ⟨ad183, e183, hx183_0, hx183_1, hx183_2, hx183_3, hx183_4⟩ := at5B_ HB (at_T63 HR0.out x6_1 p183 q183)
       cases e183
       replace p183 := eq_true p183
       replace q183 := eq_true q183
       go_wp2_with (first | ((with_reducible refine gate_callee (f := 110) rfl ?_); refine goesL_ (some 20) rfl rfl Try.func110 (by kernel_rfl) rfl #[.agg #[.int .i64 ((rd_T63 l0 x6_1).f0), .int .i64 ((rd_T63 l0 x6_1).f1), .int .i64 ((rd_T63 l0 x6_1).f2), .int .i64 ((rd_T63 l0 x6_1).f3), .int .i64 ((rd_T63 l0 x6_1).f4)], .int .i64 (l0.length : Int), .int .i64 a1] rfl atgM_ ?_; (with_reducible refine (spec_InsOk.calls k1 ((rd_T63 l0 x6_1).f0) ((rd_T63 l0 x6_1).f1) ((rd_T63 l0 x6_1).f2) ((rd_T63 l0 x6_1).f3) ((rd_T63 l0 x6_1).f4) (l0.length : Int) a1 true _ A6.out).mono ?_); rintro e w8 ⟨rfl, hb⟩; refine ⟨_, rfl, ?_⟩; refine swap1_ (below_step atgB_ hb) ?_; clear HB; intro HB; (try clear hb); (try clear hb2); (try clear hk); (try clear hi)))
       go_roundg k1
       case measure => have := HK1.out; omega
       case rel => exact ⟨(wrap64 (x6_1 + 1)), atgR_, H', ⟨by have := HK1.out; omega⟩, ⟨atgB_⟩⟩
      ·replace c7 := Bool.eq_false_iff.mpr c7
       subst c7
       rw [if_neg (show ¬ (false = true) by decide)] at H
       obtain rfl := Option.some.inj H
       have p183 : 0 ≤ (x6_1 : Int) := of_decide_eq_true atgA_
       have q183 : x6_1 < (l0.length : Int) := of_decide_eq_true atgA_
       obtain ⟨ad183, e183, hx183_0, hx183_1, hx183_2, hx183_3, hx183_4⟩ := at5B_ HB (at_T63 HR0.out x6_1 p183 q183)
       cases e183
       replace p183 := eq_true p183
       replace q183 := eq_true q183
       go_wp2_with (first | ((with_reducible refine gate_callee (f := 110) rfl ?_); refine goesL_ (some 20) rfl rfl Try.func110 (by kernel_rfl) rfl #[.agg #[.int .i64 ((rd_T63 l0 x6_1).f0), .int .i64 ((rd_T63 l0 x6_1).f1), .int .i64 ((rd_T63 l0 x6_1).f2), .int .i64 ((rd_T63 l0 x6_1).f3), .int .i64 ((rd_T63 l0 x6_1).f4)], .int .i64 (l0.length : Int), .int .i64 a1] rfl atgM_ ?_; (with_reducible refine (spec_InsOk.calls k1 ((rd_T63 l0 x6_1).f0) ((rd_T63 l0 x6_1).f1) ((rd_T63 l0 x6_1).f2) ((rd_T63 l0 x6_1).f3) ((rd_T63 l0 x6_1).f4) (l0.length : Int) a1 false _ A6.out).mono ?_); rintro e w9 ⟨rfl, hb⟩; refine ⟨_, rfl, ?_⟩; refine swap1_ (below_step atgB_ hb) ?_; clear HB; intro HB; (try clear hb); (try clear hb2); (try clear hk); (try clear hi)))
       go_ret
       exact ⟨retT_, atgB_⟩
     ·rw [if_neg c5] at H
      exact absurd H (by simp)
    ·rw [if_neg c4] at H
     exact absurd H (by simp)
   ·rw [if_neg c3] at H
    have c3b0 := decide_eq_false c3
    clear c3
    replace H := Option.bind_eq_some_iff.mp H
    obtain ⟨t185, A100, H⟩ := H
    (try dsimp only at H)
    have A10 := Aside0.mk A100
    clear A100
    by_cases c11 : t185 = true
    ·subst c11
     rw [if_pos rfl] at H
     replace H := Option.bind_eq_some_iff.mp H
     obtain ⟨t186, A120, H⟩ := H
     (try dsimp only at H)
     have A12 := Aside0.mk A120
     clear A120
     by_cases c13 : t186 = true
     ·subst c13
      rw [if_pos rfl] at H
      obtain ⟨ji14, hji14⟩ : ∃ j_ : Int, (wrap64 ((l0.length : Int) - 1)) = j_ := ⟨_, rfl⟩
      replace H : (if 0 ≤ (ji14) then (if (ji14) < (l0.length : Int) then (if ((rd_T63 l0 (ji14)).f0) = 13 then (some true) else (some (((rd_T63 l0 (ji14)).f0) == 11))) else (none)) else (none)) = some r := by first | (rw [hji14] at H; exact H) | (simp only [hji14] at H ⊢; exact H)
      (try rw [hji14] at A10)
      (try rw [hji14] at A12)
      have hji14w : (IntKind.i64.wrap ((l0.length : Int) - 1)) = ji14 := (i64_w _).trans hji14
      by_cases c15 : 0 ≤ (ji14)
      ·rw [if_pos c15] at H
       have c15b0 := decide_eq_true c15
       clear c15
       by_cases c16 : (ji14) < (l0.length : Int)
       ·rw [if_pos c16] at H
        have c16b0 := decide_eq_true c16
        clear c16
        by_cases c17 : ((rd_T63 l0 (ji14)).f0) = 13
        ·rw [if_pos c17] at H
         have c17b0 := beq_iff_eq.mpr c17
         have c17b1 := bne_eq_false_iff_eq.mpr c17
         clear c17
         obtain rfl := Option.some.inj H
         go_wp2_with (first | ((with_reducible refine gate_callee (f := 75) rfl ?_); refine goesL_ (some 23) rfl rfl Try.func75 (by kernel_rfl) rfl #[.int .i64 (l0.length : Int), .int .i64 1, .int .i64 24] rfl atgM_ ?_; (with_reducible refine (spec_l1In.calls (l0.length : Int) 1 24 true _ A10.out).mono ?_); rintro e w' ⟨rfl, ⟨nd, rfl⟩⟩; refine ⟨_, rfl, ?_⟩) | (go_at_call 75; (with_reducible refine (spec_l1In.calls a1 0 3 true _ A12.out).mono ?_); rintro e w' ⟨rfl, ⟨nd, rfl⟩⟩; have p187 : 0 ≤ ((ji14) : Int) := of_decide_eq_true atgA_; have q187 : (ji14) < (l0.length : Int) := of_decide_eq_true atgA_; obtain ⟨ad187, e187, hx187_0, hx187_1, hx187_2, hx187_3, hx187_4⟩ := at5B_ HB (at_T63 HR0.out (ji14) p187 q187); cases e187; replace p187 := eq_true p187; replace q187 := eq_true q187))
         go_ret
         exact ⟨by first | rfl | (simp [errW_none, errW_some] <;> rfl) | (simp only [← hji14]; first | rfl | (simp [errW_none, errW_some] <;> rfl)) | (simp [*, errW_none, errW_some] <;> rfl), atgB_⟩
        ·rw [if_neg c17] at H
         have c17b0 := beq_eq_false_iff_ne.mpr c17
         have c17b1 := bne_iff_ne.mpr c17
         obtain rfl := Option.some.inj H
         go_wp2_with (first | ((with_reducible refine gate_callee (f := 75) rfl ?_); refine goesL_ (some 23) rfl rfl Try.func75 (by kernel_rfl) rfl #[.int .i64 (l0.length : Int), .int .i64 1, .int .i64 24] rfl atgM_ ?_; (with_reducible refine (spec_l1In.calls (l0.length : Int) 1 24 true _ A10.out).mono ?_); rintro e w' ⟨rfl, ⟨nd, rfl⟩⟩; refine ⟨_, rfl, ?_⟩) | (go_at_call 75; (with_reducible refine (spec_l1In.calls a1 0 3 true _ A12.out).mono ?_); rintro e w' ⟨rfl, ⟨nd, rfl⟩⟩; have p187 : 0 ≤ ((ji14) : Int) := of_decide_eq_true atgA_; have q187 : (ji14) < (l0.length : Int) := of_decide_eq_true atgA_; obtain ⟨ad187, e187, hx187_0, hx187_1, hx187_2, hx187_3, hx187_4⟩ := at5B_ HB (at_T63 HR0.out (ji14) p187 q187); cases e187; replace p187 := eq_true p187; replace q187 := eq_true q187; have p188 : 0 ≤ ((ji14) : Int) := of_decide_eq_true atgA_; have q188 : (ji14) < (l0.length : Int) := of_decide_eq_true atgA_; obtain ⟨ad188, e188, hx188_0, hx188_1, hx188_2, hx188_3, hx188_4⟩ := at_T63 HR0.out (ji14) p188 q188; obtain rfl : ad187 = ad188 := (by injection e188); replace hx188_0 := blc_ HB hx188_0; replace hx188_1 := blc_ HB hx188_1; replace hx188_2 := blc_ HB hx188_2; replace hx188_3 := blc_ HB hx188_3; replace hx188_4 := blc_ HB hx188_4; replace p188 := eq_true p188; replace q188 := eq_true q188))
         go_ret
         exact ⟨by first | rfl | (simp [errW_none, errW_some] <;> rfl) | (simp only [← hji14]; first | rfl | (simp [errW_none, errW_some] <;> rfl)) | (simp [*, errW_none, errW_some] <;> rfl), atgB_⟩
       ·rw [if_neg c16] at H
        exact absurd H (by simp)
      ·rw [if_neg c15] at H
       exact absurd H (by simp)
     ·replace c13 := Bool.eq_false_iff.mpr c13
      subst c13
      rw [if_neg (show ¬ (false = true) by decide)] at H
      obtain rfl := Option.some.inj H
      go_wp2_with (first | ((with_reducible refine gate_callee (f := 75) rfl ?_); refine goesL_ (some 23) rfl rfl Try.func75 (by kernel_rfl) rfl #[.int .i64 (l0.length : Int), .int .i64 1, .int .i64 24] rfl atgM_ ?_; (with_reducible refine (spec_l1In.calls (l0.length : Int) 1 24 true _ A10.out).mono ?_); rintro e w' ⟨rfl, ⟨nd, rfl⟩⟩; refine ⟨_, rfl, ?_⟩) | (go_at_call 75; (with_reducible refine (spec_l1In.calls a1 0 3 false _ A12.out).mono ?_); rintro e w' ⟨rfl, ⟨nd, rfl⟩⟩))
      go_ret
      exact ⟨retT_, atgB_⟩
    ·replace c11 := Bool.eq_false_iff.mpr c11
     subst c11
     rw [if_neg (show ¬ (false = true) by decide)] at H
     obtain rfl := Option.some.inj H
     go_wp2_with (first | ((with_reducible refine gate_callee (f := 75) rfl ?_); refine goesL_ (some 23) rfl rfl Try.func75 (by kernel_rfl) rfl #[.int .i64 (l0.length : Int), .int .i64 1, .int .i64 24] rfl atgM_ ?_; (with_reducible refine (spec_l1In.calls (l0.length : Int) 1 24 false _ A10.out).mono ?_); rintro e w' ⟨rfl, ⟨nd, rfl⟩⟩; refine ⟨_, rfl, ?_⟩))
     go_ret
     exact ⟨retT_, atgB_⟩

/-! ### spec_l18Places: function 76 -/
def spec_l18Places.l0 : Nat → List Bool → Bool → List Int → Int → Option (List Int)
 | 0, _, _, _, _ => none
 | k + 1, x0, x1, x5, x6 => if x6 < (x0.length : Int) then (if 0 ≤ x6 then (if ((rdOf false x0 x6) == x1) = true then (if x5.length < 17592186044416 then (spec_l18Places.l0 k x0 x1 (x5 ++ [x6]) (wrap64 (x6 + 1))) else (none)) else (spec_l18Places.l0 k x0 x1 x5 (wrap64 (x6 + 1)))) else (none)) else (some x5)
def spec_l18Places.f (k : Nat) (l0 : List Bool) (a1 : Bool) : Option (List Int) := spec_l18Places.l0 k l0 a1 (([] : List Int)) 0
theorem spec_l18Places.mono_l : ∀ k, (∀ y0 y1 y2 y3, LeO (spec_l18Places.l0 k y0 y1 y2 y3) (spec_l18Places.l0 (k + 1) y0 y1 y2 y3))
 | 0 => fun _ _ _ _ r h => by simp [spec_l18Places.l0] at h
 | k + 1 => by
  have ih0 := spec_l18Places.mono_l k
  ·intro y0 y1 y2 y3
   unfold spec_l18Places.l0
   repeat' (with_reducible first | exact ih0 .. | exact LeO.refl _ | exact LeO.none _ | refine LeO.ite ?_ ?_ | refine LeO.bind ?_ (fun _ => ?_))
theorem spec_l18Places.mono : ∀ a0 a1 k, LeO (spec_l18Places.f k a0 a1) (spec_l18Places.f (k + 1) a0 a1) := by
 intro a0 a1 k
 have ih0 := spec_l18Places.mono_l k
 unfold spec_l18Places.f
 repeat' (with_reducible first | exact ih0 .. | exact LeO.refl _ | exact LeO.none _ | refine LeO.ite ?_ ?_ | refine LeO.bind ?_ (fun _ => ?_))
set_option maxHeartbeats 80000000 in
set_option maxRecDepth 100000 in
theorem spec_l18Places.calls (k : Nat) (A0 : Option Addr) (c0 : Nat) (l0 : List Bool) (a1 : Bool) (r : List Int) (w : World) (hr0 : Kd.C Kd.bool w A0 l0.length l0) (hc0 : l0.length ≤ c0) (h : spec_l18Places.f k l0 a1 = some r) :
  Calls Try.prog 76 #[.slice A0 l0.length c0, .bool a1] w fun e w' => ∃ v0_ : Value, e = .returned (v0_) ∧ Kd.R (Kd.int .i64) 3 w' w.heap.size (fun _ => True) v0_ r ∧ Below w.heap.size w w' := by
 have HR0 := Aside0.mk hr0
 have HC0 := Aside0.mk hc0
 clear hr0 hc0
 have HB := Aside0.mk (Below.refl w.heap.size w)
 have H : (spec_l18Places.l0 k l0 a1 (([] : List Int)) 0) = some r := h
 clear h
 obtain ⟨y189, hy189⟩ : ∃ y_ : List Int, y_ = (([] : List Int)) := ⟨_, rfl⟩
 replace H : (spec_l18Places.l0 k l0 a1 y189 0) = some r := by rw [hy189]; exact H
 have Ny189 := Aside0.mk hy189
 clear hy189
 have H' := Aside0.mk H
 clear H
 go_enter Try.func76, Try.ntmps76
 go_wp2_with (first | ((with_reducible refine gate_dst (N := 7) rfl ?_); refine Kd.R_lit (Kd.int .i64) _ 3 ?hg (N := 7) ?hd (xs := ([] : List Int)) (inner := []) (ok := fun _ => True) (okp := fun _ => True) ?hr ?hp (fun _ hk => hk) trivial (Below.refl _ _) (Nat.le_refl _) (by simp) ?_; (case hd => rfl); (case hg => rfl); (case hr => first | (go_simp; done) | (go_simp; rfl)); (case hp => exact (Reps.none _ _)); intro v190 w3 ho4 hb hg_ hnew_; clear hg_ hnew_; (first | rw [← Ny189.out] at ho4 | (simp only [Int.reduceToNat] at ho4; rw [← Ny189.out] at ho4)); refine swap2_ (Kd.R_lower ho4 (below_size atgB_)) (below_step atgB_ hb) ?_; clear HB; intro HO191 HB; clear hb ho4))
 go_loopg [5, 6] k (fun kq v5 v6 w' => ∃ (x5_1 : List Int) (x6_1 : Int), v6 = .int .i64 x6_1 ∧ Aside0 (spec_l18Places.l0 kq l0 a1 x5_1 x6_1 = some r) ∧ Aside0 (kq ≤ k) ∧ Aside0 (Kd.R (Kd.int .i64) 3 w' w.heap.size (fun _ => True) v5 x5_1) ∧ Aside0 (Below w.heap.size w w'))
 case atStart => exact ⟨(y189), (0), atgR_, H', ⟨Nat.le_refl _⟩, ⟨by exact toR_ (HO191.out)⟩, ⟨atgB_⟩⟩
 case round =>
  clear H'
  try clear p2
  obtain ⟨x5_1, x6_1, rfl, HA, HK1, HO_5, HB⟩ := hrel
  cases gk with
  | zero => exact absurd HA.out (by simp [spec_l18Places.l0])
  | succ k1 =>
   have H := HA.out
   clear HA
   simp only [spec_l18Places.l0] at H
   by_cases c5 : x6_1 < (l0.length : Int)
   ·rw [if_pos c5] at H
    have c5b0 := decide_eq_true c5
    clear c5
    by_cases c6 : 0 ≤ x6_1
    ·rw [if_pos c6] at H
     have c6b0 := decide_eq_true c6
     clear c6
     by_cases c7 : ((rdOf false l0 x6_1) == a1) = true
     ·rw [if_pos c7] at H
      have c7b0 : ((rdOf false l0 x6_1) == a1) = true := c7
      (try (have c7b1 : decide ((rdOf false l0 x6_1) = a1) = true := by simpa using c7))
      (try (have c7b2 : ((rdOf false l0 x6_1) == a1) = true := by simpa using c7))
      clear c7
      by_cases c8 : x5_1.length < 17592186044416
      ·rw [if_pos c8] at H
       have LMc8 := Aside0.mk c8
       clear c8
       obtain ⟨y193, hy193⟩ : ∃ y_ : List Int, y_ = (x5_1 ++ [x6_1]) := ⟨_, rfl⟩
       replace H : (spec_l18Places.l0 k1 l0 a1 y193 (wrap64 (x6_1 + 1))) = some r := by rw [hy193]; exact H
       have Ny193 := Aside0.mk hy193
       clear hy193
       have H' := Aside0.mk H
       clear H
       have p192 : 0 ≤ (x6_1 : Int) := of_decide_eq_true atgA_
       have q192 : x6_1 < (l0.length : Int) := of_decide_eq_true atgA_
       obtain ⟨ad192, e192, hx192_0⟩ := Kd.at_bool HR0.out x6_1 p192 q192
       cases e192
       replace hx192_0 := blc_ HB hx192_0
       replace p192 := eq_true p192
       replace q192 := eq_true q192
       go_wp2_with (first | ((with_reducible refine gate_builtin (b := .append) (xs := #[.tmp 20, .tmp 22]) rfl ?_); at_builtin; refine Kd.R_append (Kd.int .i64) (w0 := w) w.heap.size rfl (.tmp 20) (.tmp 22) 34 3 (.int .i64 0) 8 rfl Try.underlying34 info3 rfl (by decide) (by omega) u5 x5_1 x6_1 [.int .i64 x6_1] (fun _ => True) (fun _ => False) rfl rfl ?aP (fun _ hk => hk.elim) ?aF ?aO ?aB ?aS ?aL ?_; (case aP => exact rfl); (case aB => exact atgB_); (case aF => exact (fun _ _ => trivial)); (case aO => exact att8_0_7); (case aS => exact (below_size atgB_)); (case aL => have := LMc8.out; omega); intro v194 w9 ho hb hg hat; rw [← Ny193.out] at ho; refine swap2_ (hb) (ho) ?_; clear HB HO_5; intro HB HO195; clear ho hb hg hat))
       go_roundg k1
       case measure => have := HK1.out; omega
       case rel => exact ⟨(y193), (wrap64 (x6_1 + 1)), atgR_, H', ⟨by have := HK1.out; omega⟩, ⟨by exact toR_ (HO195.out)⟩, ⟨atgB_⟩⟩
      ·rw [if_neg c8] at H
       exact absurd H (by simp)
     ·rw [if_neg c7] at H
      have c7b0 : ((rdOf false l0 x6_1) == a1) = false := by simpa using c7
      (try (have c7b1 : decide ((rdOf false l0 x6_1) = a1) = false := by simpa using c7))
      (try (have c7b2 : ((rdOf false l0 x6_1) == a1) = false := by simpa using c7))
      (try (have c7b3 : ¬ ((rdOf false l0 x6_1) = a1) := by simpa using c7))
      clear c7
      have H' := Aside0.mk H
      clear H
      have p192 : 0 ≤ (x6_1 : Int) := of_decide_eq_true atgA_
      have q192 : x6_1 < (l0.length : Int) := of_decide_eq_true atgA_
      obtain ⟨ad192, e192, hx192_0⟩ := Kd.at_bool HR0.out x6_1 p192 q192
      cases e192
      replace hx192_0 := blc_ HB hx192_0
      replace p192 := eq_true p192
      replace q192 := eq_true q192
      go_wp2
      go_roundg k1
      case measure => have := HK1.out; omega
      case rel => exact ⟨(x5_1), (wrap64 (x6_1 + 1)), atgR_, H', ⟨by have := HK1.out; omega⟩, ⟨att8_0_7⟩, ⟨atgB_⟩⟩
    ·rw [if_neg c6] at H
     exact absurd H (by simp)
   ·rw [if_neg c5] at H
    have c5b0 := decide_eq_false c5
    clear c5
    obtain rfl := Option.some.inj H
    go_wp2
    go_ret
    exact ⟨_, retT_, by exact toR_ (HO_5.out), atgB_⟩

/-! ### spec_NextOf: function 29 -/
def spec_NextOf.j0 : Nat → List (S63) → Int → Bool → Option (List Int)
 | 0, _, _, _ => none
 | k + 1, x0, x1, x16 => if x16 = true then (some (([] : List Int))) else (if 0 ≤ x1 then (if x1 < (x0.length : Int) then (if ((rd_T63 x0 x1).f0) = 13 then (some (([] : List Int))) else (if ((rd_T63 x0 x1).f0) = 11 then (some (([(rd_T63 x0 x1).f4] : List Int))) else (if ((rd_T63 x0 x1).f0) = 12 then (if ((rd_T63 x0 x1).f4) < (wrap64 (x1 + 1)) then (some (([(rd_T63 x0 x1).f4, wrap64 (x1 + 1)] : List Int))) else (if ((rd_T63 x0 x1).f4) > (wrap64 (x1 + 1)) then (some (([wrap64 (x1 + 1), (rd_T63 x0 x1).f4] : List Int))) else (some (([wrap64 (x1 + 1)] : List Int))))) else (some (([wrap64 (x1 + 1)] : List Int)))))) else (none)) else (none))
def spec_NextOf.f (k : Nat) (l0 : List (S63)) (a1 : Int) : Option (List Int) := (spec_BodyOk.f k l0 3).bind fun t196 => (if t196 = true then ((spec_l1In.f a1 0 (wrap64 ((l0.length : Int) - 1))).bind fun t197 => (spec_NextOf.j0 k l0 a1 (!t197))) else (spec_NextOf.j0 k l0 a1 true))
theorem spec_NextOf.mono_l : ∀ k, (∀ y0 y1 y2, LeO (spec_NextOf.j0 k y0 y1 y2) (spec_NextOf.j0 (k + 1) y0 y1 y2))
 | 0 => fun _ _ _ r h => by simp [spec_NextOf.j0] at h
 | k + 1 => by
  have ih0 := spec_NextOf.mono_l k
  ·intro y0 y1 y2
   unfold spec_NextOf.j0
   repeat' (with_reducible first | exact ih0 .. | exact spec_BodyOk.mono .. | exact LeO.refl _ | exact LeO.none _ | refine LeO.ite ?_ ?_ | refine LeO.bind ?_ (fun _ => ?_))
theorem spec_NextOf.mono : ∀ a0 a1 k, LeO (spec_NextOf.f k a0 a1) (spec_NextOf.f (k + 1) a0 a1) := by
 intro a0 a1 k
 have ih0 := spec_NextOf.mono_l k
 unfold spec_NextOf.f
 repeat' (with_reducible first | exact ih0 .. | exact spec_BodyOk.mono .. | exact LeO.refl _ | exact LeO.none _ | refine LeO.ite ?_ ?_ | refine LeO.bind ?_ (fun _ => ?_))
set_option maxHeartbeats 80000000 in
set_option maxRecDepth 100000 in
theorem spec_NextOf.calls (k : Nat) (A0 : Option Addr) (c0 : Nat) (l0 : List (S63)) (a1 : Int) (r : List Int) (w : World) (hr0 : Kd.C k63 w A0 l0.length l0) (hc0 : l0.length ≤ c0) (h : spec_NextOf.f k l0 a1 = some r) :
  Calls Try.prog 29 #[.slice A0 l0.length c0, .int .i64 a1] w fun e w' => ∃ v0_ : Value, e = .returned (v0_) ∧ Kd.R (Kd.int .i64) 3 w' w.heap.size (fun _ => True) v0_ r ∧ Below w.heap.size w w' := by
 have hu63 := Try.underlying63
 have HR0 := Aside0.mk hr0
 have HC0 := Aside0.mk hc0
 clear hr0 hc0
 have HB := Aside0.mk (Below.refl w.heap.size w)
 have H : ((spec_BodyOk.f k l0 3).bind fun t196 => (if t196 = true then ((spec_l1In.f a1 0 (wrap64 ((l0.length : Int) - 1))).bind fun t197 => (spec_NextOf.j0 k l0 a1 (!t197))) else (spec_NextOf.j0 k l0 a1 true))) = some r := h
 clear h
 have HC3 := Aside0.mk H
 clear H
 go_enter Try.func29, Try.ntmps29
 go_upto_region 1 with (fail)
 go_cut [16] (fun v16 wc => ∃ (kq : Nat) (x16_2 : Bool), v16 = .bool x16_2 ∧ Aside0 (spec_NextOf.j0 kq l0 a1 x16_2 = some r) ∧ Aside0 (kq ≤ k) ∧ Aside0 (Below w.heap.size w wc))
 case first =>
  have H := HC3.out
  clear HC3
  replace H := Option.bind_eq_some_iff.mp H
  obtain ⟨t196, A40, H⟩ := H
  (try dsimp only at H)
  have A4 := Aside0.mk A40
  clear A40
  by_cases c5 : t196 = true
  ·subst c5
   rw [if_pos rfl] at H
   replace H := Option.bind_eq_some_iff.mp H
   obtain ⟨t197, A60, H⟩ := H
   (try dsimp only at H)
   have A6 := Aside0.mk A60
   clear A60
   have H' := Aside0.mk H
   clear H
   go_wp2_with (first | ((with_reducible refine gate_callee (f := 63) rfl ?_); refine goesL_ (some 7) rfl rfl Try.func63 (by kernel_rfl) rfl #[.slice A0 l0.length c0, .int .i64 3] rfl atgM_ ?_; (with_reducible refine (spec_BodyOk.calls k _ _ l0 3 true _ ?side1 ?side2 A4.out).mono ?_); (case side1 => repeat (first | exact (Kd.C_below HR0.out HB.out) | (with_reducible refine Kd.C_alloc ?_ _) | (with_reducible refine Kd.C_drewN ?_ _) | (with_reducible refine Kd.C_drew ?_))); (case side2 => exact HC0.out); rintro e w7 ⟨rfl, hb⟩; refine ⟨_, rfl, ?_⟩; refine swap1_ (below_step atgB_ hb) ?_; clear HB; intro HB; (try clear hb); (try clear hb2); (try clear hk); (try clear hi)) | (go_at_call 75; (with_reducible refine (spec_l1In.calls a1 0 (wrap64 ((l0.length : Int) - 1)) t197 _ A6.out).mono ?_); rintro e w' ⟨rfl, ⟨nd, rfl⟩⟩))
   go_meet
   case rel => exact ⟨_, (!t197), atgR_, H', ⟨by first | omega | exact Nat.le_refl _⟩, ⟨atgB_⟩⟩
  ·replace c5 := Bool.eq_false_iff.mpr c5
   subst c5
   rw [if_neg (show ¬ (false = true) by decide)] at H
   have H' := Aside0.mk H
   clear H
   go_wp2_with (first | ((with_reducible refine gate_callee (f := 63) rfl ?_); refine goesL_ (some 7) rfl rfl Try.func63 (by kernel_rfl) rfl #[.slice A0 l0.length c0, .int .i64 3] rfl atgM_ ?_; (with_reducible refine (spec_BodyOk.calls k _ _ l0 3 false _ ?side1 ?side2 A4.out).mono ?_); (case side1 => repeat (first | exact (Kd.C_below HR0.out HB.out) | (with_reducible refine Kd.C_alloc ?_ _) | (with_reducible refine Kd.C_drewN ?_ _) | (with_reducible refine Kd.C_drew ?_))); (case side2 => exact HC0.out); rintro e w8 ⟨rfl, hb⟩; refine ⟨_, rfl, ?_⟩; refine swap1_ (below_step atgB_ hb) ?_; clear HB; intro HB; (try clear hb); (try clear hb2); (try clear hk); (try clear hi)))
   go_meet
   case rel => exact ⟨_, (true), atgR_, H', ⟨by first | omega | exact Nat.le_refl _⟩, ⟨atgB_⟩⟩
 case rest =>
  clear HC3
  try clear c2
  try clear p2
  try clear c5
  try clear c6
  try clear p6
  obtain ⟨kq, x16_2, rfl, HA, HJ2, HB⟩ := hcut
  cases kq with
  | zero => exact absurd HA.out (by simp [spec_NextOf.j0])
  | succ kj2 =>
   have H := HA.out
   clear HA
   simp only [spec_NextOf.j0] at H
   by_cases c9 : x16_2 = true
   ·subst c9
    rw [if_pos rfl] at H
    obtain ⟨y198, hy198⟩ : ∃ y_ : List Int, y_ = (([] : List Int)) := ⟨_, rfl⟩
    replace H : (some y198) = some r := by rw [hy198]; exact H
    have Ny198 := Aside0.mk hy198
    clear hy198
    obtain rfl := Option.some.inj H
    go_wp2_with (first | ((with_reducible refine gate_dst (N := 17) rfl ?_); (try (refine gate_guard (by rfl) ?_; dsimp only)); refine Kd.R_lit (Kd.int .i64) _ 3 ?hg (N := 17) ?hd (xs := ([] : List Int)) (inner := []) (ok := fun _ => True) (okp := fun _ => True) ?hr ?hp (fun _ hk => hk) trivial (Below.refl _ _) (Nat.le_refl _) (by simp) ?_; (case hd => rfl); (case hg => rfl); (case hr => first | (go_simp; done) | (go_simp; rfl)); (case hp => exact (Reps.none _ _)); intro v199 w10 ho11 hb hg_ hnew_; clear hg_ hnew_; (first | rw [← Ny198.out] at ho11 | (simp only [Int.reduceToNat] at ho11; rw [← Ny198.out] at ho11)); refine swap2_ (Kd.R_lower ho11 (below_size atgB_)) (below_step atgB_ hb) ?_; clear HB; intro HO200 HB; clear hb ho11))
    go_ret
    exact ⟨_, retT_, by exact toR_ (HO200.out), atgB_⟩
   ·replace c9 := Bool.eq_false_iff.mpr c9
    subst c9
    rw [if_neg (show ¬ (false = true) by decide)] at H
    by_cases c12 : 0 ≤ a1
    ·rw [if_pos c12] at H
     have c12b0 := decide_eq_true c12
     clear c12
     by_cases c13 : a1 < (l0.length : Int)
     ·rw [if_pos c13] at H
      have c13b0 := decide_eq_true c13
      clear c13
      by_cases c14 : ((rd_T63 l0 a1).f0) = 13
      ·rw [if_pos c14] at H
       have c14b0 := beq_iff_eq.mpr c14
       have c14b1 := bne_eq_false_iff_eq.mpr c14
       clear c14
       obtain ⟨y203, hy203⟩ : ∃ y_ : List Int, y_ = (([] : List Int)) := ⟨_, rfl⟩
       replace H : (some y203) = some r := by rw [hy203]; exact H
       have Ny203 := Aside0.mk hy203
       clear hy203
       obtain rfl := Option.some.inj H
       have p201 : 0 ≤ (a1 : Int) := of_decide_eq_true atgA_
       have q201 : a1 < (l0.length : Int) := of_decide_eq_true atgA_
       obtain ⟨ad201, e201, hx201_0, hx201_1, hx201_2, hx201_3, hx201_4⟩ := at5B_ HB (at_T63 HR0.out a1 p201 q201)
       cases e201
       replace p201 := eq_true p201
       replace q201 := eq_true q201
       go_wp2_with (first | ((with_reducible refine gate_dst (N := 5) rfl ?_); (try (refine gate_guard (by rfl) ?_; dsimp only)); refine box_event ?hg (N := 5) ?hd (cs := #[.int .i64 0, .int .i64 0, .int .i64 0, .int .i64 0, .int .i64 0]) (t := 63) ?hr ?_; (case hd => rfl); (case hg => rfl); (case hr => first | (go_simp; done) | (go_simp; rfl)); intro gb202 hg w15 hbox hb; refine swap4_ (below_step atgB_ hb) (hbox) ((by rw [hg]; exact (below_size atgB_) : w.heap.size ≤ gb202)) ((by rw [hg]; exact (below_size atgB_) : w.heap.size ≤ gb202)) ?_; clear HB; intro HB BK202 GW202 GE202; clear hb hbox hg; obtain ⟨hcz16_0, hcz16_1, hcz16_2, hcz16_3, hcz16_4, hfz16_0, hfz16_1, hfz16_2, hfz16_3, hfz16_4⟩ := blkB5_ BK202) | ((with_reducible refine gate_dst (N := 26) rfl ?_); (try (refine gate_guard (by rfl) ?_; dsimp only)); refine Kd.R_lit (Kd.int .i64) _ 3 ?hg (N := 26) ?hd (xs := ([] : List Int)) (inner := []) (ok := fun _ => True) (okp := fun _ => True) ?hr ?hp (fun _ hk => hk) trivial (Below.refl _ _) (Nat.le_refl _) (by simp) ?_; (case hd => rfl); (case hg => rfl); (case hr => first | (go_simp; done) | (go_simp; rfl)); (case hp => exact (Reps.none _ _)); intro v204 w17 ho18 hb hg_ hnew_; clear hg_ hnew_; (first | rw [← Ny203.out] at ho18 | (simp only [Int.reduceToNat] at ho18; rw [← Ny203.out] at ho18)); refine swap3_ (Kd.R_lower ho18 (below_size att8_0_2)) (blk_below (g := gb202) (o := .cells #[.int .i64 ((rd_T63 l0 a1).f0), .int .i64 ((rd_T63 l0 a1).f1), .int .i64 ((rd_T63 l0 a1).f2), .int .i64 ((rd_T63 l0 a1).f3), .int .i64 ((rd_T63 l0 a1).f4)] 63 (0, 0)) att8_0_0 hb) (below_step att8_0_2 hb) ?_; clear BK202 HB; intro HO205 BK202 HB; clear hb ho18))
       go_ret
       exact ⟨_, retT_, by exact toR_ (HO205.out), att8_0_2⟩
      ·rw [if_neg c14] at H
       have c14b0 := beq_eq_false_iff_ne.mpr c14
       have c14b1 := bne_iff_ne.mpr c14
       by_cases c19 : ((rd_T63 l0 a1).f0) = 11
       ·rw [if_pos c19] at H
        have c19b0 := beq_iff_eq.mpr c19
        have c19b1 := bne_eq_false_iff_eq.mpr c19
        clear c19
        obtain ⟨y206, hy206⟩ : ∃ y_ : List Int, y_ = (([(rd_T63 l0 a1).f4] : List Int)) := ⟨_, rfl⟩
        replace H : (some y206) = some r := by rw [hy206]; exact H
        have Ny206 := Aside0.mk hy206
        clear hy206
        obtain rfl := Option.some.inj H
        have p201 : 0 ≤ (a1 : Int) := of_decide_eq_true atgA_
        have q201 : a1 < (l0.length : Int) := of_decide_eq_true atgA_
        obtain ⟨ad201, e201, hx201_0, hx201_1, hx201_2, hx201_3, hx201_4⟩ := at5B_ HB (at_T63 HR0.out a1 p201 q201)
        cases e201
        replace p201 := eq_true p201
        replace q201 := eq_true q201
        go_wp2_with (first | ((with_reducible refine gate_dst (N := 5) rfl ?_); (try (refine gate_guard (by rfl) ?_; dsimp only)); refine box_event ?hg (N := 5) ?hd (cs := #[.int .i64 0, .int .i64 0, .int .i64 0, .int .i64 0, .int .i64 0]) (t := 63) ?hr ?_; (case hd => rfl); (case hg => rfl); (case hr => first | (go_simp; done) | (go_simp; rfl)); intro gb202 hg w20 hbox hb; refine swap4_ (below_step atgB_ hb) (hbox) ((by rw [hg]; exact (below_size atgB_) : w.heap.size ≤ gb202)) ((by rw [hg]; exact (below_size atgB_) : w.heap.size ≤ gb202)) ?_; clear HB; intro HB BK202 GW202 GE202; clear hb hbox hg; obtain ⟨hcz21_0, hcz21_1, hcz21_2, hcz21_3, hcz21_4, hfz21_0, hfz21_1, hfz21_2, hfz21_3, hfz21_4⟩ := blkB5_ BK202) | ((with_reducible refine gate_dst (N := 31) rfl ?_); (try (refine gate_guard (by rfl) ?_; dsimp only)); refine Kd.R_lit (Kd.int .i64) _ 3 ?hg (N := 31) ?hd (xs := ([(rd_T63 l0 a1).f4] : List Int)) (inner := [.int .i64 ((rd_T63 l0 a1).f4)]) (ok := fun _ => True) (okp := fun _ => True) ?hr ?hp (fun _ hk => hk) trivial (Below.refl _ _) (Nat.le_refl _) (by simp) ?_; (case hd => rfl); (case hg => rfl); (case hr => first | (go_simp; done) | (go_simp; rfl)); (case hp => exact (Reps.one (show Kd.M (Kd.int .i64) _ _ _ ((rd_T63 l0 a1).f4) [.int .i64 ((rd_T63 l0 a1).f4)] from rfl) (Reps.none _ _))); intro v207 w22 ho23 hb hg_ hnew_; clear hg_ hnew_; (first | rw [← Ny206.out] at ho23 | (simp only [Int.reduceToNat] at ho23; rw [← Ny206.out] at ho23)); refine swap3_ (Kd.R_lower ho23 (below_size att8_0_2)) (blk_below (g := gb202) (o := .cells #[.int .i64 ((rd_T63 l0 a1).f0), .int .i64 ((rd_T63 l0 a1).f1), .int .i64 ((rd_T63 l0 a1).f2), .int .i64 ((rd_T63 l0 a1).f3), .int .i64 ((rd_T63 l0 a1).f4)] 63 (0, 0)) att8_0_0 hb) (below_step att8_0_2 hb) ?_; clear BK202 HB; intro HO208 BK202 HB; clear hb ho23))
        go_ret
        exact ⟨_, retT_, by exact toR_ (HO208.out), att8_0_2⟩
       ·rw [if_neg c19] at H
        have c19b0 := beq_eq_false_iff_ne.mpr c19
        have c19b1 := bne_iff_ne.mpr c19
        by_cases c24 : ((rd_T63 l0 a1).f0) = 12
        ·rw [if_pos c24] at H
         have c24b0 := beq_iff_eq.mpr c24
         have c24b1 := bne_eq_false_iff_eq.mpr c24
         clear c24
         by_cases c25 : ((rd_T63 l0 a1).f4) < (wrap64 (a1 + 1))
         ·rw [if_pos c25] at H
          have c25b0 := decide_eq_true c25
          clear c25
          obtain ⟨y209, hy209⟩ : ∃ y_ : List Int, y_ = (([(rd_T63 l0 a1).f4, wrap64 (a1 + 1)] : List Int)) := ⟨_, rfl⟩
          replace H : (some y209) = some r := by rw [hy209]; exact H
          have Ny209 := Aside0.mk hy209
          clear hy209
          obtain rfl := Option.some.inj H
          have p201 : 0 ≤ (a1 : Int) := of_decide_eq_true atgA_
          have q201 : a1 < (l0.length : Int) := of_decide_eq_true atgA_
          obtain ⟨ad201, e201, hx201_0, hx201_1, hx201_2, hx201_3, hx201_4⟩ := at5B_ HB (at_T63 HR0.out a1 p201 q201)
          cases e201
          replace p201 := eq_true p201
          replace q201 := eq_true q201
          go_wp2_with (first | ((with_reducible refine gate_dst (N := 5) rfl ?_); (try (refine gate_guard (by rfl) ?_; dsimp only)); refine box_event ?hg (N := 5) ?hd (cs := #[.int .i64 0, .int .i64 0, .int .i64 0, .int .i64 0, .int .i64 0]) (t := 63) ?hr ?_; (case hd => rfl); (case hg => rfl); (case hr => first | (go_simp; done) | (go_simp; rfl)); intro gb202 hg w26 hbox hb; refine swap4_ (below_step atgB_ hb) (hbox) ((by rw [hg]; exact (below_size atgB_) : w.heap.size ≤ gb202)) ((by rw [hg]; exact (below_size atgB_) : w.heap.size ≤ gb202)) ?_; clear HB; intro HB BK202 GW202 GE202; clear hb hbox hg; obtain ⟨hcz27_0, hcz27_1, hcz27_2, hcz27_3, hcz27_4, hfz27_0, hfz27_1, hfz27_2, hfz27_3, hfz27_4⟩ := blkB5_ BK202) | ((with_reducible refine gate_dst (N := 43) rfl ?_); (try (refine gate_guard (by rfl) ?_; dsimp only)); refine Kd.R_lit (Kd.int .i64) _ 3 ?hg (N := 43) ?hd (xs := ([(rd_T63 l0 a1).f4, wrap64 (a1 + 1)] : List Int)) (inner := [.int .i64 ((rd_T63 l0 a1).f4), .int .i64 (wrap64 (a1 + 1))]) (ok := fun _ => True) (okp := fun _ => True) ?hr ?hp (fun _ hk => hk) trivial (Below.refl _ _) (Nat.le_refl _) (by simp) ?_; (case hd => rfl); (case hg => rfl); (case hr => first | (go_simp; done) | (go_simp; rfl)); (case hp => exact (Reps.one (show Kd.M (Kd.int .i64) _ _ _ ((rd_T63 l0 a1).f4) [.int .i64 ((rd_T63 l0 a1).f4)] from rfl) (Reps.one (show Kd.M (Kd.int .i64) _ _ _ (wrap64 (a1 + 1)) [.int .i64 (wrap64 (a1 + 1))] from rfl) (Reps.none _ _)))); intro v210 w28 ho29 hb hg_ hnew_; clear hg_ hnew_; (first | rw [← Ny209.out] at ho29 | (simp only [Int.reduceToNat] at ho29; rw [← Ny209.out] at ho29)); refine swap3_ (Kd.R_lower ho29 (below_size att8_0_2)) (blk_below (g := gb202) (o := .cells #[.int .i64 ((rd_T63 l0 a1).f0), .int .i64 ((rd_T63 l0 a1).f1), .int .i64 ((rd_T63 l0 a1).f2), .int .i64 ((rd_T63 l0 a1).f3), .int .i64 ((rd_T63 l0 a1).f4)] 63 (0, 0)) att8_0_0 hb) (below_step att8_0_2 hb) ?_; clear BK202 HB; intro HO211 BK202 HB; clear hb ho29))
          go_ret
          exact ⟨_, retT_, by exact toR_ (HO211.out), att8_0_2⟩
         ·rw [if_neg c25] at H
          have c25b0 := decide_eq_false c25
          clear c25
          by_cases c30 : ((rd_T63 l0 a1).f4) > (wrap64 (a1 + 1))
          ·rw [if_pos c30] at H
           have c30b0 := decide_eq_true c30
           clear c30
           obtain ⟨y212, hy212⟩ : ∃ y_ : List Int, y_ = (([wrap64 (a1 + 1), (rd_T63 l0 a1).f4] : List Int)) := ⟨_, rfl⟩
           replace H : (some y212) = some r := by rw [hy212]; exact H
           have Ny212 := Aside0.mk hy212
           clear hy212
           obtain rfl := Option.some.inj H
           have p201 : 0 ≤ (a1 : Int) := of_decide_eq_true atgA_
           have q201 : a1 < (l0.length : Int) := of_decide_eq_true atgA_
           obtain ⟨ad201, e201, hx201_0, hx201_1, hx201_2, hx201_3, hx201_4⟩ := at5B_ HB (at_T63 HR0.out a1 p201 q201)
           cases e201
           replace p201 := eq_true p201
           replace q201 := eq_true q201
           go_wp2_with (first | ((with_reducible refine gate_dst (N := 5) rfl ?_); (try (refine gate_guard (by rfl) ?_; dsimp only)); refine box_event ?hg (N := 5) ?hd (cs := #[.int .i64 0, .int .i64 0, .int .i64 0, .int .i64 0, .int .i64 0]) (t := 63) ?hr ?_; (case hd => rfl); (case hg => rfl); (case hr => first | (go_simp; done) | (go_simp; rfl)); intro gb202 hg w31 hbox hb; refine swap4_ (below_step atgB_ hb) (hbox) ((by rw [hg]; exact (below_size atgB_) : w.heap.size ≤ gb202)) ((by rw [hg]; exact (below_size atgB_) : w.heap.size ≤ gb202)) ?_; clear HB; intro HB BK202 GW202 GE202; clear hb hbox hg; obtain ⟨hcz32_0, hcz32_1, hcz32_2, hcz32_3, hcz32_4, hfz32_0, hfz32_1, hfz32_2, hfz32_3, hfz32_4⟩ := blkB5_ BK202) | ((with_reducible refine gate_dst (N := 53) rfl ?_); (try (refine gate_guard (by rfl) ?_; dsimp only)); refine Kd.R_lit (Kd.int .i64) _ 3 ?hg (N := 53) ?hd (xs := ([wrap64 (a1 + 1), (rd_T63 l0 a1).f4] : List Int)) (inner := [.int .i64 (wrap64 (a1 + 1)), .int .i64 ((rd_T63 l0 a1).f4)]) (ok := fun _ => True) (okp := fun _ => True) ?hr ?hp (fun _ hk => hk) trivial (Below.refl _ _) (Nat.le_refl _) (by simp) ?_; (case hd => rfl); (case hg => rfl); (case hr => first | (go_simp; done) | (go_simp; rfl)); (case hp => exact (Reps.one (show Kd.M (Kd.int .i64) _ _ _ (wrap64 (a1 + 1)) [.int .i64 (wrap64 (a1 + 1))] from rfl) (Reps.one (show Kd.M (Kd.int .i64) _ _ _ ((rd_T63 l0 a1).f4) [.int .i64 ((rd_T63 l0 a1).f4)] from rfl) (Reps.none _ _)))); intro v213 w33 ho34 hb hg_ hnew_; clear hg_ hnew_; (first | rw [← Ny212.out] at ho34 | (simp only [Int.reduceToNat] at ho34; rw [← Ny212.out] at ho34)); refine swap3_ (Kd.R_lower ho34 (below_size att8_0_2)) (blk_below (g := gb202) (o := .cells #[.int .i64 ((rd_T63 l0 a1).f0), .int .i64 ((rd_T63 l0 a1).f1), .int .i64 ((rd_T63 l0 a1).f2), .int .i64 ((rd_T63 l0 a1).f3), .int .i64 ((rd_T63 l0 a1).f4)] 63 (0, 0)) att8_0_0 hb) (below_step att8_0_2 hb) ?_; clear BK202 HB; intro HO214 BK202 HB; clear hb ho34))
           go_ret
           exact ⟨_, retT_, by exact toR_ (HO214.out), att8_0_2⟩
          ·rw [if_neg c30] at H
           have c30b0 := decide_eq_false c30
           clear c30
           obtain ⟨y215, hy215⟩ : ∃ y_ : List Int, y_ = (([wrap64 (a1 + 1)] : List Int)) := ⟨_, rfl⟩
           replace H : (some y215) = some r := by rw [hy215]; exact H
           have Ny215 := Aside0.mk hy215
           clear hy215
           obtain rfl := Option.some.inj H
           have p201 : 0 ≤ (a1 : Int) := of_decide_eq_true atgA_
           have q201 : a1 < (l0.length : Int) := of_decide_eq_true atgA_
           obtain ⟨ad201, e201, hx201_0, hx201_1, hx201_2, hx201_3, hx201_4⟩ := at5B_ HB (at_T63 HR0.out a1 p201 q201)
           cases e201
           replace p201 := eq_true p201
           replace q201 := eq_true q201
           go_wp2_with (first | ((with_reducible refine gate_dst (N := 5) rfl ?_); (try (refine gate_guard (by rfl) ?_; dsimp only)); refine box_event ?hg (N := 5) ?hd (cs := #[.int .i64 0, .int .i64 0, .int .i64 0, .int .i64 0, .int .i64 0]) (t := 63) ?hr ?_; (case hd => rfl); (case hg => rfl); (case hr => first | (go_simp; done) | (go_simp; rfl)); intro gb202 hg w35 hbox hb; refine swap4_ (below_step atgB_ hb) (hbox) ((by rw [hg]; exact (below_size atgB_) : w.heap.size ≤ gb202)) ((by rw [hg]; exact (below_size atgB_) : w.heap.size ≤ gb202)) ?_; clear HB; intro HB BK202 GW202 GE202; clear hb hbox hg; obtain ⟨hcz36_0, hcz36_1, hcz36_2, hcz36_3, hcz36_4, hfz36_0, hfz36_1, hfz36_2, hfz36_3, hfz36_4⟩ := blkB5_ BK202) | ((with_reducible refine gate_dst (N := 56) rfl ?_); (try (refine gate_guard (by rfl) ?_; dsimp only)); refine Kd.R_lit (Kd.int .i64) _ 3 ?hg (N := 56) ?hd (xs := ([wrap64 (a1 + 1)] : List Int)) (inner := [.int .i64 (wrap64 (a1 + 1))]) (ok := fun _ => True) (okp := fun _ => True) ?hr ?hp (fun _ hk => hk) trivial (Below.refl _ _) (Nat.le_refl _) (by simp) ?_; (case hd => rfl); (case hg => rfl); (case hr => first | (go_simp; done) | (go_simp; rfl)); (case hp => exact (Reps.one (show Kd.M (Kd.int .i64) _ _ _ (wrap64 (a1 + 1)) [.int .i64 (wrap64 (a1 + 1))] from rfl) (Reps.none _ _))); intro v216 w37 ho38 hb hg_ hnew_; clear hg_ hnew_; (first | rw [← Ny215.out] at ho38 | (simp only [Int.reduceToNat] at ho38; rw [← Ny215.out] at ho38)); refine swap3_ (Kd.R_lower ho38 (below_size att8_0_2)) (blk_below (g := gb202) (o := .cells #[.int .i64 ((rd_T63 l0 a1).f0), .int .i64 ((rd_T63 l0 a1).f1), .int .i64 ((rd_T63 l0 a1).f2), .int .i64 ((rd_T63 l0 a1).f3), .int .i64 ((rd_T63 l0 a1).f4)] 63 (0, 0)) att8_0_0 hb) (below_step att8_0_2 hb) ?_; clear BK202 HB; intro HO217 BK202 HB; clear hb ho38))
           go_ret
           exact ⟨_, retT_, by exact toR_ (HO217.out), att8_0_2⟩
        ·rw [if_neg c24] at H
         have c24b0 := beq_eq_false_iff_ne.mpr c24
         have c24b1 := bne_iff_ne.mpr c24
         obtain ⟨y218, hy218⟩ : ∃ y_ : List Int, y_ = (([wrap64 (a1 + 1)] : List Int)) := ⟨_, rfl⟩
         replace H : (some y218) = some r := by rw [hy218]; exact H
         have Ny218 := Aside0.mk hy218
         clear hy218
         obtain rfl := Option.some.inj H
         have p201 : 0 ≤ (a1 : Int) := of_decide_eq_true atgA_
         have q201 : a1 < (l0.length : Int) := of_decide_eq_true atgA_
         obtain ⟨ad201, e201, hx201_0, hx201_1, hx201_2, hx201_3, hx201_4⟩ := at5B_ HB (at_T63 HR0.out a1 p201 q201)
         cases e201
         replace p201 := eq_true p201
         replace q201 := eq_true q201
         go_wp2_with (first | ((with_reducible refine gate_dst (N := 5) rfl ?_); (try (refine gate_guard (by rfl) ?_; dsimp only)); refine box_event ?hg (N := 5) ?hd (cs := #[.int .i64 0, .int .i64 0, .int .i64 0, .int .i64 0, .int .i64 0]) (t := 63) ?hr ?_; (case hd => rfl); (case hg => rfl); (case hr => first | (go_simp; done) | (go_simp; rfl)); intro gb202 hg w39 hbox hb; refine swap4_ (below_step atgB_ hb) (hbox) ((by rw [hg]; exact (below_size atgB_) : w.heap.size ≤ gb202)) ((by rw [hg]; exact (below_size atgB_) : w.heap.size ≤ gb202)) ?_; clear HB; intro HB BK202 GW202 GE202; clear hb hbox hg; obtain ⟨hcz40_0, hcz40_1, hcz40_2, hcz40_3, hcz40_4, hfz40_0, hfz40_1, hfz40_2, hfz40_3, hfz40_4⟩ := blkB5_ BK202) | ((with_reducible refine gate_dst (N := 56) rfl ?_); (try (refine gate_guard (by rfl) ?_; dsimp only)); refine Kd.R_lit (Kd.int .i64) _ 3 ?hg (N := 56) ?hd (xs := ([wrap64 (a1 + 1)] : List Int)) (inner := [.int .i64 (wrap64 (a1 + 1))]) (ok := fun _ => True) (okp := fun _ => True) ?hr ?hp (fun _ hk => hk) trivial (Below.refl _ _) (Nat.le_refl _) (by simp) ?_; (case hd => rfl); (case hg => rfl); (case hr => first | (go_simp; done) | (go_simp; rfl)); (case hp => exact (Reps.one (show Kd.M (Kd.int .i64) _ _ _ (wrap64 (a1 + 1)) [.int .i64 (wrap64 (a1 + 1))] from rfl) (Reps.none _ _))); intro v219 w41 ho42 hb hg_ hnew_; clear hg_ hnew_; (first | rw [← Ny218.out] at ho42 | (simp only [Int.reduceToNat] at ho42; rw [← Ny218.out] at ho42)); refine swap3_ (Kd.R_lower ho42 (below_size att8_0_2)) (blk_below (g := gb202) (o := .cells #[.int .i64 ((rd_T63 l0 a1).f0), .int .i64 ((rd_T63 l0 a1).f1), .int .i64 ((rd_T63 l0 a1).f2), .int .i64 ((rd_T63 l0 a1).f3), .int .i64 ((rd_T63 l0 a1).f4)] 63 (0, 0)) att8_0_0 hb) (below_step att8_0_2 hb) ?_; clear BK202 HB; intro HO220 BK202 HB; clear hb ho42))
         go_ret
         exact ⟨_, retT_, by exact toR_ (HO220.out), att8_0_2⟩
     ·rw [if_neg c13] at H
      exact absurd H (by simp)
    ·rw [if_neg c12] at H
     exact absurd H (by simp)

/-! ### spec_l18In: function 90 -/
def spec_l18In.l0 : Nat → List Int → Int → Int → Option (Bool)
 | 0, _, _, _ => none
 | k + 1, x0, x1, x5 => if x5 < (x0.length : Int) then (if 0 ≤ x5 then (if (rd x0 x5) = x1 then (some true) else (spec_l18In.l0 k x0 x1 (wrap64 (x5 + 1)))) else (none)) else (some false)
def spec_l18In.f (k : Nat) (l0 : List Int) (a1 : Int) : Option (Bool) := spec_l18In.l0 k l0 a1 0
theorem spec_l18In.mono_l : ∀ k, (∀ y0 y1 y2, LeO (spec_l18In.l0 k y0 y1 y2) (spec_l18In.l0 (k + 1) y0 y1 y2))
 | 0 => fun _ _ _ r h => by simp [spec_l18In.l0] at h
 | k + 1 => by
  have ih0 := spec_l18In.mono_l k
  ·intro y0 y1 y2
   unfold spec_l18In.l0
   repeat' (with_reducible first | exact ih0 .. | exact LeO.refl _ | exact LeO.none _ | refine LeO.ite ?_ ?_ | refine LeO.bind ?_ (fun _ => ?_))
theorem spec_l18In.mono : ∀ a0 a1 k, LeO (spec_l18In.f k a0 a1) (spec_l18In.f (k + 1) a0 a1) := by
 intro a0 a1 k
 have ih0 := spec_l18In.mono_l k
 unfold spec_l18In.f
 repeat' (with_reducible first | exact ih0 .. | exact LeO.refl _ | exact LeO.none _ | refine LeO.ite ?_ ?_ | refine LeO.bind ?_ (fun _ => ?_))
set_option maxHeartbeats 80000000 in
set_option maxRecDepth 100000 in
theorem spec_l18In.calls (k : Nat) (A0 : Option Addr) (c0 : Nat) (l0 : List Int) (a1 : Int) (r : Bool) (w : World) (hr0 : Kd.C (Kd.int .i64) w A0 l0.length l0) (hc0 : l0.length ≤ c0) (h : spec_l18In.f k l0 a1 = some r) :
  Calls Try.prog 90 #[.slice A0 l0.length c0, .int .i64 a1] w fun e w' => e = .returned (.bool r) ∧ Drawn0 w w' := by
 have HR0 := Aside0.mk hr0
 have HC0 := Aside0.mk hc0
 clear hr0 hc0
 have H : (spec_l18In.l0 k l0 a1 0) = some r := h
 clear h
 have H' := Aside0.mk H
 clear H
 go_enter Try.func90, Try.ntmps90
 go_wp2
 go_loopg [5] k (fun kq v5 w' => ∃ (x5_1 : Int), v5 = .int .i64 x5_1 ∧ Aside0 (spec_l18In.l0 kq l0 a1 x5_1 = some r) ∧ Aside0 (kq ≤ k) ∧ Drawn0 w w')
 case atStart => exact ⟨(0), atgR_, H', ⟨Nat.le_refl _⟩, atgD_⟩
 case round =>
  clear H'
  try clear p2
  obtain ⟨x5_1, rfl, HA, HK1, ⟨m1, rfl⟩⟩ := hrel
  cases gk with
  | zero => exact absurd HA.out (by simp [spec_l18In.l0])
  | succ k1 =>
   have H := HA.out
   clear HA
   simp only [spec_l18In.l0] at H
   by_cases c3 : x5_1 < (l0.length : Int)
   ·rw [if_pos c3] at H
    have c3b0 := decide_eq_true c3
    clear c3
    by_cases c4 : 0 ≤ x5_1
    ·rw [if_pos c4] at H
     have c4b0 := decide_eq_true c4
     clear c4
     by_cases c5 : (rd l0 x5_1) = a1
     ·rw [if_pos c5] at H
      have c5b0 := beq_iff_eq.mpr c5
      have c5b1 := bne_eq_false_iff_eq.mpr c5
      clear c5
      obtain rfl := Option.some.inj H
      have p221 : 0 ≤ (x5_1 : Int) := of_decide_eq_true atgA_
      have q221 : x5_1 < (l0.length : Int) := of_decide_eq_true atgA_
      obtain ⟨ad221, e221, hx221_0⟩ := Kd.at_int HR0.out x5_1 p221 q221
      cases e221
      replace p221 := eq_true p221
      replace q221 := eq_true q221
      go_wp2
      go_ret
      exact ⟨by first | rfl | (simp; done) | (simp [*]; done), atgD_⟩
     ·rw [if_neg c5] at H
      have c5b0 := beq_eq_false_iff_ne.mpr c5
      have c5b1 := bne_iff_ne.mpr c5
      have H' := Aside0.mk H
      clear H
      have p221 : 0 ≤ (x5_1 : Int) := of_decide_eq_true atgA_
      have q221 : x5_1 < (l0.length : Int) := of_decide_eq_true atgA_
      obtain ⟨ad221, e221, hx221_0⟩ := Kd.at_int HR0.out x5_1 p221 q221
      cases e221
      replace p221 := eq_true p221
      replace q221 := eq_true q221
      go_wp2
      go_roundg k1
      case measure => have := HK1.out; omega
      case rel => exact ⟨(wrap64 (x5_1 + 1)), atgR_, H', ⟨by have := HK1.out; omega⟩, atgD_⟩
    ·rw [if_neg c4] at H
     exact absurd H (by simp)
   ·rw [if_neg c3] at H
    have c3b0 := decide_eq_false c3
    clear c3
    obtain rfl := Option.some.inj H
    go_wp2
    go_ret
    exact ⟨by first | rfl | (simp; done) | (simp [*]; done), atgD_⟩

end Go.Proofs.Ytocimkpafakiaaa.XFnExactTrimProg
