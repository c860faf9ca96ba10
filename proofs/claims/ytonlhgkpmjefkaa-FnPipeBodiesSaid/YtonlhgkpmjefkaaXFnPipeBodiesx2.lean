/- Each Go function that the law reaches as a Lean function, and that Go comes to just its answer; written by this session's xprint.py over the kit's printer. -/
import Derived.Test.YtonlhgkpmjefkaaXFnPipeBodiesx0
namespace Go.Proofs.Ytonlhgkpmjefkaa.XFnPipeBodies
open Go.RowKit Go.Proofs.YtonlhgkpmjefkaaW.PrintWords Go.Proofs.YtonlhgkpmjefkaaW.PrintLast Go.Proofs.YtonlhgkpmjefkaaW.PrintMore
attribute [local go_sem] max2_int min2_int max_two min_two max_three min_three max_four min_four   -- for this text's walks alone
set_option linter.unusedVariables false
set_option linter.unusedSimpArgs false

/-! ### laws_big: function 20 -/
def laws_big.f (l0 : List Int) : Option (Bool) := some (decide ((l0.length : Int) > 1048576))
set_option maxHeartbeats 8000000 in
set_option maxRecDepth 100000 in
theorem laws_big.calls (A0 : Option Addr) (c0 : Nat) (l0 : List Int) (r : Bool) (w : World) (hr0 : Kd.C (Kd.int .u8) w A0 l0.length l0) (hc0 : l0.length ≤ c0) (h : laws_big.f l0 = some r) :
  Calls Try.prog 20 #[.slice A0 l0.length c0] w fun e w' => e = .returned (.bool r) ∧ Drawn0 w w' := by
 have HR0 := Aside0.mk hr0
 have HC0 := Aside0.mk hc0
 clear hr0 hc0
 have H : (some (decide ((l0.length : Int) > 1048576))) = some r := h
 clear h
 obtain rfl := Option.some.inj H
 go_enter Try.func20, Try.ntmps20
 go_wp2
 go_ret
 exact ⟨by first | rfl | (simp; done) | (simp [*]; done), by repeat (first | exact Drawn0.refl _ | apply Drawn0.step)⟩

/-! ### spec_l1In: function 118 -/
def spec_l1In.f (a0 : Int) (a1 : Int) (a2 : Int) : Option (Bool) := if a0 ≥ a1 then (some (decide (a0 ≤ a2))) else (some false)
set_option maxHeartbeats 8000000 in
set_option maxRecDepth 100000 in
theorem spec_l1In.calls (a0 : Int) (a1 : Int) (a2 : Int) (r : Bool) (w : World) (h : spec_l1In.f a0 a1 a2 = some r) :
  Calls Try.prog 118 #[.int .i64 a0, .int .i64 a1, .int .i64 a2] w fun e w' => e = .returned (.bool r) ∧ Drawn0 w w' := by
 have H : (if a0 ≥ a1 then (some (decide (a0 ≤ a2))) else (some false)) = some r := h
 clear h
 by_cases c4 : a0 ≥ a1
 ·rw [if_pos c4] at H
  have c4b0 : decide (a1 ≤ a0) = true := decide_eq_true c4
  clear c4
  obtain rfl := Option.some.inj H
  go_enter Try.func118, Try.ntmps118
  go_wp2
  go_ret
  exact ⟨by first | rfl | (simp; done) | (simp [*]; done), by repeat (first | exact Drawn0.refl _ | apply Drawn0.step)⟩
 ·rw [if_neg c4] at H
  have c4b0 : decide (a1 ≤ a0) = false := decide_eq_false c4
  clear c4
  obtain rfl := Option.some.inj H
  go_enter Try.func118, Try.ntmps118
  go_wp2
  go_ret
  exact ⟨by first | rfl | (simp; done) | (simp [*]; done), by repeat (first | exact Drawn0.refl _ | apply Drawn0.step)⟩

/-! ### spec_l25Chan: function 131 -/
def spec_l25Chan.f (a0 : Int) : Option (Bool) := (spec_l1In.f a0 0 2).bind fun t101 => (some t101)
set_option maxHeartbeats 8000000 in
set_option maxRecDepth 100000 in
theorem spec_l25Chan.calls (a0 : Int) (r : Bool) (w : World) (h : spec_l25Chan.f a0 = some r) :
  Calls Try.prog 131 #[.int .i64 a0] w fun e w' => e = .returned (.bool r) ∧ Drawn0 w w' := by
 have H : ((spec_l1In.f a0 0 2).bind fun t101 => (some t101)) = some r := h
 clear h
 replace H := Option.bind_eq_some_iff.mp H
 obtain ⟨t101, A20, H⟩ := H
 replace H : (some t101) = some r := H
 have A2 := Aside0.mk A20
 clear A20
 obtain rfl := Option.some.inj H
 go_enter Try.func131, Try.ntmps131
 go_wp2_with (first | ((with_reducible refine gate_callee (f := 118) rfl ?_); refine goesL_ (some 4) rfl rfl Try.func118 (by kernel_rfl) rfl #[.int .i64 a0, .int .i64 0, .int .i64 2] rfl (by (try simp only [List.map_toArray, List.map_cons, List.map_nil]); first | done | rfl | (simp only [List.length_drop, List.length_take]; rfl)) ?_; (with_reducible refine (spec_l1In.calls a0 0 2 t101 _ A2.out).mono ?_); rintro e w' ⟨rfl, ⟨nd, rfl⟩⟩; refine ⟨_, rfl, ?_⟩))
 go_ret
 exact ⟨by first | rfl | (simp; done) | (simp [*]; done), by repeat (first | exact Drawn0.refl _ | apply Drawn0.step)⟩

/-! ### spec_MakeBody: function 44 -/
def spec_MakeBody.f (a0 : Int) (a1 : Int) : Option ((List (S37)) × Bool) := (spec_l1In.f a0 1 50).bind fun t102 => (if t102 = true then ((spec_l25Chan.f a1).bind fun t103 => (if t103 = true then (some ((([(⟨1, 0, 0, 0, a0⟩ : S37), (⟨1, 1, 0, 0, 1⟩ : S37), (⟨12, 0, 0, 0, 6⟩ : S37), (⟨5, 0, 0, 0, a1⟩ : S37), (⟨3, 0, 0, 1, 0⟩ : S37), (⟨11, 0, 0, 0, 2⟩ : S37), (⟨9, 0, 0, 0, a1⟩ : S37), (⟨13, 0, 0, 0, 0⟩ : S37)] : List (S37))), true)) else (some ((([] : List (S37))), false)))) else (some ((([] : List (S37))), false)))
set_option maxHeartbeats 8000000 in
set_option maxRecDepth 100000 in
theorem spec_MakeBody.calls (a0 : Int) (a1 : Int) (r1 : List (S37)) (r2 : Bool) (w : World) (h : spec_MakeBody.f a0 a1 = some (r1, r2)) :
  Calls Try.prog 44 #[.int .i64 a0, .int .i64 a1] w fun e w' => ∃ v0_ : Value, e = .returned (.tuple #[v0_, .bool r2]) ∧ Kd.R k37 37 w' w.heap.size (fun _ => True) v0_ r1 ∧ Below w.heap.size w w' := by
 have hu37 := Try.underlying37
 have HB := Aside0.mk (Below.refl w.heap.size w)
 have H : ((spec_l1In.f a0 1 50).bind fun t102 => (if t102 = true then ((spec_l25Chan.f a1).bind fun t103 => (if t103 = true then (some ((([(⟨1, 0, 0, 0, a0⟩ : S37), (⟨1, 1, 0, 0, 1⟩ : S37), (⟨12, 0, 0, 0, 6⟩ : S37), (⟨5, 0, 0, 0, a1⟩ : S37), (⟨3, 0, 0, 1, 0⟩ : S37), (⟨11, 0, 0, 0, 2⟩ : S37), (⟨9, 0, 0, 0, a1⟩ : S37), (⟨13, 0, 0, 0, 0⟩ : S37)] : List (S37))), true)) else (some ((([] : List (S37))), false)))) else (some ((([] : List (S37))), false)))) = some (r1, r2) := h
 clear h
 replace H := Option.bind_eq_some_iff.mp H
 obtain ⟨t102, A30, H⟩ := H
 replace H : (if t102 = true then ((spec_l25Chan.f a1).bind fun t103 => (if t103 = true then (some ((([(⟨1, 0, 0, 0, a0⟩ : S37), (⟨1, 1, 0, 0, 1⟩ : S37), (⟨12, 0, 0, 0, 6⟩ : S37), (⟨5, 0, 0, 0, a1⟩ : S37), (⟨3, 0, 0, 1, 0⟩ : S37), (⟨11, 0, 0, 0, 2⟩ : S37), (⟨9, 0, 0, 0, a1⟩ : S37), (⟨13, 0, 0, 0, 0⟩ : S37)] : List (S37))), true)) else (some ((([] : List (S37))), false)))) else (some ((([] : List (S37))), false))) = some (r1, r2) := H
 have A3 := Aside0.mk A30
 clear A30
 by_cases c4 : t102 = true
 ·subst c4
  have H1 : ((spec_l25Chan.f a1).bind fun t103 => (if t103 = true then (some ((([(⟨1, 0, 0, 0, a0⟩ : S37), (⟨1, 1, 0, 0, 1⟩ : S37), (⟨12, 0, 0, 0, 6⟩ : S37), (⟨5, 0, 0, 0, a1⟩ : S37), (⟨3, 0, 0, 1, 0⟩ : S37), (⟨11, 0, 0, 0, 2⟩ : S37), (⟨9, 0, 0, 0, a1⟩ : S37), (⟨13, 0, 0, 0, 0⟩ : S37)] : List (S37))), true)) else (some ((([] : List (S37))), false)))) = some (r1, r2) := by rw [if_pos rfl] at H; exact H
  clear H
  have H := H1
  clear H1
  replace H := Option.bind_eq_some_iff.mp H
  obtain ⟨t103, A50, H⟩ := H
  replace H : (if t103 = true then (some ((([(⟨1, 0, 0, 0, a0⟩ : S37), (⟨1, 1, 0, 0, 1⟩ : S37), (⟨12, 0, 0, 0, 6⟩ : S37), (⟨5, 0, 0, 0, a1⟩ : S37), (⟨3, 0, 0, 1, 0⟩ : S37), (⟨11, 0, 0, 0, 2⟩ : S37), (⟨9, 0, 0, 0, a1⟩ : S37), (⟨13, 0, 0, 0, 0⟩ : S37)] : List (S37))), true)) else (some ((([] : List (S37))), false))) = some (r1, r2) := H
  have A5 := Aside0.mk A50
  clear A50
  by_cases c6 : t103 = true
  ·subst c6
   have H1 : (some ((([(⟨1, 0, 0, 0, a0⟩ : S37), (⟨1, 1, 0, 0, 1⟩ : S37), (⟨12, 0, 0, 0, 6⟩ : S37), (⟨5, 0, 0, 0, a1⟩ : S37), (⟨3, 0, 0, 1, 0⟩ : S37), (⟨11, 0, 0, 0, 2⟩ : S37), (⟨9, 0, 0, 0, a1⟩ : S37), (⟨13, 0, 0, 0, 0⟩ : S37)] : List (S37))), true)) = some (r1, r2) := by rw [if_pos rfl] at H; exact H
   clear H
   have H := H1
   clear H1
   obtain ⟨y104, hy104⟩ : ∃ y_ : List (S37), y_ = (([(⟨1, 0, 0, 0, a0⟩ : S37), (⟨1, 1, 0, 0, 1⟩ : S37), (⟨12, 0, 0, 0, 6⟩ : S37), (⟨5, 0, 0, 0, a1⟩ : S37), (⟨3, 0, 0, 1, 0⟩ : S37), (⟨11, 0, 0, 0, 2⟩ : S37), (⟨9, 0, 0, 0, a1⟩ : S37), (⟨13, 0, 0, 0, 0⟩ : S37)] : List (S37))) := ⟨_, rfl⟩
   replace H : (some (y104, true)) = some (r1, r2) := by first | (rw [hy104]; with_reducible exact H) | (have H2_ := (Option.bind_some _ _).symm.trans H; rw [hy104]; with_reducible exact H2_) | (have H2_ := (Option.bind_some _ _).symm.trans H; with_reducible exact H2_) | with_reducible exact H | (rw [hy104]; exact H) | exact H
   have Ny104 := Aside0.mk hy104
   clear hy104
   simp only [Option.some.injEq, Prod.mk.injEq] at H
   obtain ⟨rfl, rfl⟩ := H
   go_enter Try.func44, Try.ntmps44
   go_wp2_with (first | ((with_reducible refine gate_callee (f := 118) rfl ?_); refine goesL_ (some 7) rfl rfl Try.func118 (by kernel_rfl) rfl #[.int .i64 a0, .int .i64 1, .int .i64 50] rfl (by (try simp only [List.map_toArray, List.map_cons, List.map_nil]); first | done | rfl | (simp only [List.length_drop, List.length_take]; rfl)) ?_; (with_reducible refine (spec_l1In.calls a0 1 50 true _ A3.out).mono ?_); rintro e w' ⟨rfl, ⟨nd, rfl⟩⟩; refine ⟨_, rfl, ?_⟩) | (go_at_call 131; (with_reducible refine (spec_l25Chan.calls a1 true _ A5.out).mono ?_); rintro e w' ⟨rfl, ⟨nd, rfl⟩⟩) | ((with_reducible refine gate_dst (N := 26) rfl ?_); refine Kd.R_lit k37 _ 37 ?hg (N := 26) ?hd (xs := ([(⟨1, 0, 0, 0, a0⟩ : S37), (⟨1, 1, 0, 0, 1⟩ : S37), (⟨12, 0, 0, 0, 6⟩ : S37), (⟨5, 0, 0, 0, a1⟩ : S37), (⟨3, 0, 0, 1, 0⟩ : S37), (⟨11, 0, 0, 0, 2⟩ : S37), (⟨9, 0, 0, 0, a1⟩ : S37), (⟨13, 0, 0, 0, 0⟩ : S37)] : List (S37))) (inner := [.int .i64 1, .int .i64 0, .int .i64 0, .int .i64 0, .int .i64 a0, .int .i64 1, .int .i64 1, .int .i64 0, .int .i64 0, .int .i64 1, .int .i64 12, .int .i64 0, .int .i64 0, .int .i64 0, .int .i64 6, .int .i64 5, .int .i64 0, .int .i64 0, .int .i64 0, .int .i64 a1, .int .i64 3, .int .i64 0, .int .i64 0, .int .i64 1, .int .i64 0, .int .i64 11, .int .i64 0, .int .i64 0, .int .i64 0, .int .i64 2, .int .i64 9, .int .i64 0, .int .i64 0, .int .i64 0, .int .i64 a1, .int .i64 13, .int .i64 0, .int .i64 0, .int .i64 0, .int .i64 0]) (ok := fun _ => True) (okp := fun _ => True) ?hr ?hp (fun _ hk => hk) trivial (Below.refl _ _) (Nat.le_refl _) (by simp) ?_; (case hd => rfl); (case hg => rfl); (case hr => first | (go_simp; done) | (go_simp; rfl)); (case hp => exact (Reps.c5 (show Kd.M k37 _ _ _ (⟨1, 0, 0, 0, a0⟩ : S37) [.int .i64 1, .int .i64 0, .int .i64 0, .int .i64 0, .int .i64 a0] from (k37_mkM _ _ _ (⟨1, 0, 0, 0, a0⟩ : S37) )) (Reps.c5 (show Kd.M k37 _ _ _ (⟨1, 1, 0, 0, 1⟩ : S37) [.int .i64 1, .int .i64 1, .int .i64 0, .int .i64 0, .int .i64 1] from (k37_mkM _ _ _ (⟨1, 1, 0, 0, 1⟩ : S37) )) (Reps.c5 (show Kd.M k37 _ _ _ (⟨12, 0, 0, 0, 6⟩ : S37) [.int .i64 12, .int .i64 0, .int .i64 0, .int .i64 0, .int .i64 6] from (k37_mkM _ _ _ (⟨12, 0, 0, 0, 6⟩ : S37) )) (Reps.c5 (show Kd.M k37 _ _ _ (⟨5, 0, 0, 0, a1⟩ : S37) [.int .i64 5, .int .i64 0, .int .i64 0, .int .i64 0, .int .i64 a1] from (k37_mkM _ _ _ (⟨5, 0, 0, 0, a1⟩ : S37) )) (Reps.c5 (show Kd.M k37 _ _ _ (⟨3, 0, 0, 1, 0⟩ : S37) [.int .i64 3, .int .i64 0, .int .i64 0, .int .i64 1, .int .i64 0] from (k37_mkM _ _ _ (⟨3, 0, 0, 1, 0⟩ : S37) )) (Reps.c5 (show Kd.M k37 _ _ _ (⟨11, 0, 0, 0, 2⟩ : S37) [.int .i64 11, .int .i64 0, .int .i64 0, .int .i64 0, .int .i64 2] from (k37_mkM _ _ _ (⟨11, 0, 0, 0, 2⟩ : S37) )) (Reps.c5 (show Kd.M k37 _ _ _ (⟨9, 0, 0, 0, a1⟩ : S37) [.int .i64 9, .int .i64 0, .int .i64 0, .int .i64 0, .int .i64 a1] from (k37_mkM _ _ _ (⟨9, 0, 0, 0, a1⟩ : S37) )) (Reps.c5 (show Kd.M k37 _ _ _ (⟨13, 0, 0, 0, 0⟩ : S37) [.int .i64 13, .int .i64 0, .int .i64 0, .int .i64 0, .int .i64 0] from (k37_mkM _ _ _ (⟨13, 0, 0, 0, 0⟩ : S37) )) (Reps.none _ _)))))))))); intro v105 w7 ho8 hb hg_ hnew_; clear hg_ hnew_; (first | rw [← Ny104.out] at ho8 | (simp only [Int.reduceToNat] at ho8; rw [← Ny104.out] at ho8)); have n0_ := Aside0.mk (Kd.R_lower ho8 (below_size (by repeat (first | (with_reducible first | exact HB.out | apply below_alloc | apply pw_below_drewN | apply below_drew1) | exact HB.out)))); have n1_ := Aside0.mk (below_step (by repeat (first | (with_reducible first | exact HB.out | apply below_alloc | apply pw_below_drewN | apply below_drew1) | exact HB.out)) hb); clear HB; have HO106 := n0_; have HB := n1_; clear n0_ n1_; clear hb ho8))
   go_ret2
   exact ⟨_, by first | rfl | (simp [errW_none, errW_some] <;> rfl) | (simp [*, errW_none, errW_some] <;> rfl), by (with_reducible repeat (first | apply Kd.R_alloc | apply Kd.R_drewN | apply Kd.R_drew)); exact HO106.out, by repeat (first | (with_reducible first | exact HB.out | apply below_alloc | apply pw_below_drewN | apply below_drew1) | exact HB.out)⟩
  ·replace c6 := Bool.eq_false_iff.mpr c6
   subst c6
   have H1 : (some ((([] : List (S37))), false)) = some (r1, r2) := by rw [if_neg (show ¬ (false = true) by decide)] at H; exact H
   clear H
   have H := H1
   clear H1
   obtain ⟨y107, hy107⟩ : ∃ y_ : List (S37), y_ = (([] : List (S37))) := ⟨_, rfl⟩
   replace H : (some (y107, false)) = some (r1, r2) := by first | (rw [hy107]; with_reducible exact H) | (have H2_ := (Option.bind_some _ _).symm.trans H; rw [hy107]; with_reducible exact H2_) | (have H2_ := (Option.bind_some _ _).symm.trans H; with_reducible exact H2_) | with_reducible exact H | (rw [hy107]; exact H) | exact H
   have Ny107 := Aside0.mk hy107
   clear hy107
   simp only [Option.some.injEq, Prod.mk.injEq] at H
   obtain ⟨rfl, rfl⟩ := H
   go_enter Try.func44, Try.ntmps44
   go_wp2_with (first | ((with_reducible refine gate_callee (f := 118) rfl ?_); refine goesL_ (some 7) rfl rfl Try.func118 (by kernel_rfl) rfl #[.int .i64 a0, .int .i64 1, .int .i64 50] rfl (by (try simp only [List.map_toArray, List.map_cons, List.map_nil]); first | done | rfl | (simp only [List.length_drop, List.length_take]; rfl)) ?_; (with_reducible refine (spec_l1In.calls a0 1 50 true _ A3.out).mono ?_); rintro e w' ⟨rfl, ⟨nd, rfl⟩⟩; refine ⟨_, rfl, ?_⟩) | (go_at_call 131; (with_reducible refine (spec_l25Chan.calls a1 false _ A5.out).mono ?_); rintro e w' ⟨rfl, ⟨nd, rfl⟩⟩) | ((with_reducible refine gate_dst (N := 14) rfl ?_); refine Kd.R_lit k37 _ 37 ?hg (N := 14) ?hd (xs := ([] : List (S37))) (inner := []) (ok := fun _ => True) (okp := fun _ => True) ?hr ?hp (fun _ hk => hk) trivial (Below.refl _ _) (Nat.le_refl _) (by simp) ?_; (case hd => rfl); (case hg => rfl); (case hr => first | (go_simp; done) | (go_simp; rfl)); (case hp => exact (Reps.none _ _)); intro v108 w9 ho10 hb hg_ hnew_; clear hg_ hnew_; (first | rw [← Ny107.out] at ho10 | (simp only [Int.reduceToNat] at ho10; rw [← Ny107.out] at ho10)); have n0_ := Aside0.mk (Kd.R_lower ho10 (below_size (by repeat (first | (with_reducible first | exact HB.out | apply below_alloc | apply pw_below_drewN | apply below_drew1) | exact HB.out)))); have n1_ := Aside0.mk (below_step (by repeat (first | (with_reducible first | exact HB.out | apply below_alloc | apply pw_below_drewN | apply below_drew1) | exact HB.out)) hb); clear HB; have HO109 := n0_; have HB := n1_; clear n0_ n1_; clear hb ho10))
   go_ret2
   exact ⟨_, by first | rfl | (simp [errW_none, errW_some] <;> rfl) | (simp [*, errW_none, errW_some] <;> rfl), by (with_reducible repeat (first | apply Kd.R_alloc | apply Kd.R_drewN | apply Kd.R_drew)); exact HO109.out, by repeat (first | (with_reducible first | exact HB.out | apply below_alloc | apply pw_below_drewN | apply below_drew1) | exact HB.out)⟩
 ·replace c4 := Bool.eq_false_iff.mpr c4
  subst c4
  have H1 : (some ((([] : List (S37))), false)) = some (r1, r2) := by rw [if_neg (show ¬ (false = true) by decide)] at H; exact H
  clear H
  have H := H1
  clear H1
  obtain ⟨y110, hy110⟩ : ∃ y_ : List (S37), y_ = (([] : List (S37))) := ⟨_, rfl⟩
  replace H : (some (y110, false)) = some (r1, r2) := by first | (rw [hy110]; with_reducible exact H) | (have H2_ := (Option.bind_some _ _).symm.trans H; rw [hy110]; with_reducible exact H2_) | (have H2_ := (Option.bind_some _ _).symm.trans H; with_reducible exact H2_) | with_reducible exact H | (rw [hy110]; exact H) | exact H
  have Ny110 := Aside0.mk hy110
  clear hy110
  simp only [Option.some.injEq, Prod.mk.injEq] at H
  obtain ⟨rfl, rfl⟩ := H
  go_enter Try.func44, Try.ntmps44
  go_wp2_with (first | ((with_reducible refine gate_callee (f := 118) rfl ?_); refine goesL_ (some 7) rfl rfl Try.func118 (by kernel_rfl) rfl #[.int .i64 a0, .int .i64 1, .int .i64 50] rfl (by (try simp only [List.map_toArray, List.map_cons, List.map_nil]); first | done | rfl | (simp only [List.length_drop, List.length_take]; rfl)) ?_; (with_reducible refine (spec_l1In.calls a0 1 50 false _ A3.out).mono ?_); rintro e w' ⟨rfl, ⟨nd, rfl⟩⟩; refine ⟨_, rfl, ?_⟩) | ((with_reducible refine gate_dst (N := 14) rfl ?_); refine Kd.R_lit k37 _ 37 ?hg (N := 14) ?hd (xs := ([] : List (S37))) (inner := []) (ok := fun _ => True) (okp := fun _ => True) ?hr ?hp (fun _ hk => hk) trivial (Below.refl _ _) (Nat.le_refl _) (by simp) ?_; (case hd => rfl); (case hg => rfl); (case hr => first | (go_simp; done) | (go_simp; rfl)); (case hp => exact (Reps.none _ _)); intro v111 w11 ho12 hb hg_ hnew_; clear hg_ hnew_; (first | rw [← Ny110.out] at ho12 | (simp only [Int.reduceToNat] at ho12; rw [← Ny110.out] at ho12)); have n0_ := Aside0.mk (Kd.R_lower ho12 (below_size (by repeat (first | (with_reducible first | exact HB.out | apply below_alloc | apply pw_below_drewN | apply below_drew1) | exact HB.out)))); have n1_ := Aside0.mk (below_step (by repeat (first | (with_reducible first | exact HB.out | apply below_alloc | apply pw_below_drewN | apply below_drew1) | exact HB.out)) hb); clear HB; have HO112 := n0_; have HB := n1_; clear n0_ n1_; clear hb ho12))
  go_ret2
  exact ⟨_, by first | rfl | (simp [errW_none, errW_some] <;> rfl) | (simp [*, errW_none, errW_some] <;> rfl), by (with_reducible repeat (first | apply Kd.R_alloc | apply Kd.R_drewN | apply Kd.R_drew)); exact HO112.out, by repeat (first | (with_reducible first | exact HB.out | apply below_alloc | apply pw_below_drewN | apply below_drew1) | exact HB.out)⟩

/-! ### spec_PassBody: function 47 -/
def spec_PassBody.f (a0 : Int) (a1 : Int) : Option ((List (S37)) × Bool) := (spec_l25Chan.f a0).bind fun t113 => (if t113 = true then ((spec_l25Chan.f a1).bind fun t114 => (if t114 = true then (if a0 = a1 then (some ((([] : List (S37))), false)) else (some ((([(⟨6, 0, 0, 1, a0⟩ : S37), (⟨12, 0, 1, 0, 4⟩ : S37), (⟨5, 0, 0, 0, a1⟩ : S37), (⟨11, 0, 0, 0, 0⟩ : S37), (⟨9, 0, 0, 0, a1⟩ : S37), (⟨13, 0, 0, 0, 0⟩ : S37)] : List (S37))), true))) else (some ((([] : List (S37))), false)))) else (some ((([] : List (S37))), false)))
set_option maxHeartbeats 8000000 in
set_option maxRecDepth 100000 in
theorem spec_PassBody.calls (a0 : Int) (a1 : Int) (r1 : List (S37)) (r2 : Bool) (w : World) (h : spec_PassBody.f a0 a1 = some (r1, r2)) :
  Calls Try.prog 47 #[.int .i64 a0, .int .i64 a1] w fun e w' => ∃ v0_ : Value, e = .returned (.tuple #[v0_, .bool r2]) ∧ Kd.R k37 37 w' w.heap.size (fun _ => True) v0_ r1 ∧ Below w.heap.size w w' := by
 have hu37 := Try.underlying37
 have HB := Aside0.mk (Below.refl w.heap.size w)
 have H : ((spec_l25Chan.f a0).bind fun t113 => (if t113 = true then ((spec_l25Chan.f a1).bind fun t114 => (if t114 = true then (if a0 = a1 then (some ((([] : List (S37))), false)) else (some ((([(⟨6, 0, 0, 1, a0⟩ : S37), (⟨12, 0, 1, 0, 4⟩ : S37), (⟨5, 0, 0, 0, a1⟩ : S37), (⟨11, 0, 0, 0, 0⟩ : S37), (⟨9, 0, 0, 0, a1⟩ : S37), (⟨13, 0, 0, 0, 0⟩ : S37)] : List (S37))), true))) else (some ((([] : List (S37))), false)))) else (some ((([] : List (S37))), false)))) = some (r1, r2) := h
 clear h
 replace H := Option.bind_eq_some_iff.mp H
 obtain ⟨t113, A30, H⟩ := H
 replace H : (if t113 = true then ((spec_l25Chan.f a1).bind fun t114 => (if t114 = true then (if a0 = a1 then (some ((([] : List (S37))), false)) else (some ((([(⟨6, 0, 0, 1, a0⟩ : S37), (⟨12, 0, 1, 0, 4⟩ : S37), (⟨5, 0, 0, 0, a1⟩ : S37), (⟨11, 0, 0, 0, 0⟩ : S37), (⟨9, 0, 0, 0, a1⟩ : S37), (⟨13, 0, 0, 0, 0⟩ : S37)] : List (S37))), true))) else (some ((([] : List (S37))), false)))) else (some ((([] : List (S37))), false))) = some (r1, r2) := H
 have A3 := Aside0.mk A30
 clear A30
 by_cases c4 : t113 = true
 ·subst c4
  have H1 : ((spec_l25Chan.f a1).bind fun t114 => (if t114 = true then (if a0 = a1 then (some ((([] : List (S37))), false)) else (some ((([(⟨6, 0, 0, 1, a0⟩ : S37), (⟨12, 0, 1, 0, 4⟩ : S37), (⟨5, 0, 0, 0, a1⟩ : S37), (⟨11, 0, 0, 0, 0⟩ : S37), (⟨9, 0, 0, 0, a1⟩ : S37), (⟨13, 0, 0, 0, 0⟩ : S37)] : List (S37))), true))) else (some ((([] : List (S37))), false)))) = some (r1, r2) := by rw [if_pos rfl] at H; exact H
  clear H
  have H := H1
  clear H1
  replace H := Option.bind_eq_some_iff.mp H
  obtain ⟨t114, A50, H⟩ := H
  replace H : (if t114 = true then (if a0 = a1 then (some ((([] : List (S37))), false)) else (some ((([(⟨6, 0, 0, 1, a0⟩ : S37), (⟨12, 0, 1, 0, 4⟩ : S37), (⟨5, 0, 0, 0, a1⟩ : S37), (⟨11, 0, 0, 0, 0⟩ : S37), (⟨9, 0, 0, 0, a1⟩ : S37), (⟨13, 0, 0, 0, 0⟩ : S37)] : List (S37))), true))) else (some ((([] : List (S37))), false))) = some (r1, r2) := H
  have A5 := Aside0.mk A50
  clear A50
  by_cases c6 : t114 = true
  ·subst c6
   have H1 : (if a0 = a1 then (some ((([] : List (S37))), false)) else (some ((([(⟨6, 0, 0, 1, a0⟩ : S37), (⟨12, 0, 1, 0, 4⟩ : S37), (⟨5, 0, 0, 0, a1⟩ : S37), (⟨11, 0, 0, 0, 0⟩ : S37), (⟨9, 0, 0, 0, a1⟩ : S37), (⟨13, 0, 0, 0, 0⟩ : S37)] : List (S37))), true))) = some (r1, r2) := by rw [if_pos rfl] at H; exact H
   clear H
   have H := H1
   clear H1
   by_cases c7 : a0 = a1
   ·rw [if_pos c7] at H
    have c7b0 : (a0 == a1) = true := beq_iff_eq.mpr c7
    have c7b1 : (a0 != a1) = false := bne_eq_false_iff_eq.mpr c7
    clear c7
    obtain ⟨y115, hy115⟩ : ∃ y_ : List (S37), y_ = (([] : List (S37))) := ⟨_, rfl⟩
    replace H : (some (y115, false)) = some (r1, r2) := by first | (rw [hy115]; with_reducible exact H) | (have H2_ := (Option.bind_some _ _).symm.trans H; rw [hy115]; with_reducible exact H2_) | (have H2_ := (Option.bind_some _ _).symm.trans H; with_reducible exact H2_) | with_reducible exact H | (rw [hy115]; exact H) | exact H
    have Ny115 := Aside0.mk hy115
    clear hy115
    simp only [Option.some.injEq, Prod.mk.injEq] at H
    obtain ⟨rfl, rfl⟩ := H
    go_enter Try.func47, Try.ntmps47
    go_wp2_with (first | ((with_reducible refine gate_callee (f := 131) rfl ?_); refine goesL_ (some 7) rfl rfl Try.func131 (by kernel_rfl) rfl #[.int .i64 a0] rfl (by (try simp only [List.map_toArray, List.map_cons, List.map_nil]); first | done | rfl | (simp only [List.length_drop, List.length_take]; rfl)) ?_; (with_reducible refine (spec_l25Chan.calls a0 true _ A3.out).mono ?_); rintro e w' ⟨rfl, ⟨nd, rfl⟩⟩; refine ⟨_, rfl, ?_⟩) | (go_at_call 131; (with_reducible refine (spec_l25Chan.calls a1 true _ A5.out).mono ?_); rintro e w' ⟨rfl, ⟨nd, rfl⟩⟩) | ((with_reducible refine gate_dst (N := 19) rfl ?_); refine Kd.R_lit k37 _ 37 ?hg (N := 19) ?hd (xs := ([] : List (S37))) (inner := []) (ok := fun _ => True) (okp := fun _ => True) ?hr ?hp (fun _ hk => hk) trivial (Below.refl _ _) (Nat.le_refl _) (by simp) ?_; (case hd => rfl); (case hg => rfl); (case hr => first | (go_simp; done) | (go_simp; rfl)); (case hp => exact (Reps.none _ _)); intro v116 w8 ho9 hb hg_ hnew_; clear hg_ hnew_; (first | rw [← Ny115.out] at ho9 | (simp only [Int.reduceToNat] at ho9; rw [← Ny115.out] at ho9)); have n0_ := Aside0.mk (Kd.R_lower ho9 (below_size (by repeat (first | (with_reducible first | exact HB.out | apply below_alloc | apply pw_below_drewN | apply below_drew1) | exact HB.out)))); have n1_ := Aside0.mk (below_step (by repeat (first | (with_reducible first | exact HB.out | apply below_alloc | apply pw_below_drewN | apply below_drew1) | exact HB.out)) hb); clear HB; have HO117 := n0_; have HB := n1_; clear n0_ n1_; clear hb ho9))
    go_ret2
    exact ⟨_, by first | rfl | (simp [errW_none, errW_some] <;> rfl) | (simp [*, errW_none, errW_some] <;> rfl), by (with_reducible repeat (first | apply Kd.R_alloc | apply Kd.R_drewN | apply Kd.R_drew)); exact HO117.out, by repeat (first | (with_reducible first | exact HB.out | apply below_alloc | apply pw_below_drewN | apply below_drew1) | exact HB.out)⟩
   ·rw [if_neg c7] at H
    have c7b0 : (a0 == a1) = false := beq_eq_false_iff_ne.mpr c7
    have c7b1 : (a0 != a1) = true := bne_iff_ne.mpr c7
    obtain ⟨y118, hy118⟩ : ∃ y_ : List (S37), y_ = (([(⟨6, 0, 0, 1, a0⟩ : S37), (⟨12, 0, 1, 0, 4⟩ : S37), (⟨5, 0, 0, 0, a1⟩ : S37), (⟨11, 0, 0, 0, 0⟩ : S37), (⟨9, 0, 0, 0, a1⟩ : S37), (⟨13, 0, 0, 0, 0⟩ : S37)] : List (S37))) := ⟨_, rfl⟩
    replace H : (some (y118, true)) = some (r1, r2) := by first | (rw [hy118]; with_reducible exact H) | (have H2_ := (Option.bind_some _ _).symm.trans H; rw [hy118]; with_reducible exact H2_) | (have H2_ := (Option.bind_some _ _).symm.trans H; with_reducible exact H2_) | with_reducible exact H | (rw [hy118]; exact H) | exact H
    have Ny118 := Aside0.mk hy118
    clear hy118
    simp only [Option.some.injEq, Prod.mk.injEq] at H
    obtain ⟨rfl, rfl⟩ := H
    go_enter Try.func47, Try.ntmps47
    go_wp2_with (first | ((with_reducible refine gate_callee (f := 131) rfl ?_); refine goesL_ (some 7) rfl rfl Try.func131 (by kernel_rfl) rfl #[.int .i64 a0] rfl (by (try simp only [List.map_toArray, List.map_cons, List.map_nil]); first | done | rfl | (simp only [List.length_drop, List.length_take]; rfl)) ?_; (with_reducible refine (spec_l25Chan.calls a0 true _ A3.out).mono ?_); rintro e w' ⟨rfl, ⟨nd, rfl⟩⟩; refine ⟨_, rfl, ?_⟩) | (go_at_call 131; (with_reducible refine (spec_l25Chan.calls a1 true _ A5.out).mono ?_); rintro e w' ⟨rfl, ⟨nd, rfl⟩⟩) | ((with_reducible refine gate_dst (N := 29) rfl ?_); refine Kd.R_lit k37 _ 37 ?hg (N := 29) ?hd (xs := ([(⟨6, 0, 0, 1, a0⟩ : S37), (⟨12, 0, 1, 0, 4⟩ : S37), (⟨5, 0, 0, 0, a1⟩ : S37), (⟨11, 0, 0, 0, 0⟩ : S37), (⟨9, 0, 0, 0, a1⟩ : S37), (⟨13, 0, 0, 0, 0⟩ : S37)] : List (S37))) (inner := [.int .i64 6, .int .i64 0, .int .i64 0, .int .i64 1, .int .i64 a0, .int .i64 12, .int .i64 0, .int .i64 1, .int .i64 0, .int .i64 4, .int .i64 5, .int .i64 0, .int .i64 0, .int .i64 0, .int .i64 a1, .int .i64 11, .int .i64 0, .int .i64 0, .int .i64 0, .int .i64 0, .int .i64 9, .int .i64 0, .int .i64 0, .int .i64 0, .int .i64 a1, .int .i64 13, .int .i64 0, .int .i64 0, .int .i64 0, .int .i64 0]) (ok := fun _ => True) (okp := fun _ => True) ?hr ?hp (fun _ hk => hk) trivial (Below.refl _ _) (Nat.le_refl _) (by simp) ?_; (case hd => rfl); (case hg => rfl); (case hr => first | (go_simp; done) | (go_simp; rfl)); (case hp => exact (Reps.c5 (show Kd.M k37 _ _ _ (⟨6, 0, 0, 1, a0⟩ : S37) [.int .i64 6, .int .i64 0, .int .i64 0, .int .i64 1, .int .i64 a0] from (k37_mkM _ _ _ (⟨6, 0, 0, 1, a0⟩ : S37) )) (Reps.c5 (show Kd.M k37 _ _ _ (⟨12, 0, 1, 0, 4⟩ : S37) [.int .i64 12, .int .i64 0, .int .i64 1, .int .i64 0, .int .i64 4] from (k37_mkM _ _ _ (⟨12, 0, 1, 0, 4⟩ : S37) )) (Reps.c5 (show Kd.M k37 _ _ _ (⟨5, 0, 0, 0, a1⟩ : S37) [.int .i64 5, .int .i64 0, .int .i64 0, .int .i64 0, .int .i64 a1] from (k37_mkM _ _ _ (⟨5, 0, 0, 0, a1⟩ : S37) )) (Reps.c5 (show Kd.M k37 _ _ _ (⟨11, 0, 0, 0, 0⟩ : S37) [.int .i64 11, .int .i64 0, .int .i64 0, .int .i64 0, .int .i64 0] from (k37_mkM _ _ _ (⟨11, 0, 0, 0, 0⟩ : S37) )) (Reps.c5 (show Kd.M k37 _ _ _ (⟨9, 0, 0, 0, a1⟩ : S37) [.int .i64 9, .int .i64 0, .int .i64 0, .int .i64 0, .int .i64 a1] from (k37_mkM _ _ _ (⟨9, 0, 0, 0, a1⟩ : S37) )) (Reps.c5 (show Kd.M k37 _ _ _ (⟨13, 0, 0, 0, 0⟩ : S37) [.int .i64 13, .int .i64 0, .int .i64 0, .int .i64 0, .int .i64 0] from (k37_mkM _ _ _ (⟨13, 0, 0, 0, 0⟩ : S37) )) (Reps.none _ _)))))))); intro v119 w10 ho11 hb hg_ hnew_; clear hg_ hnew_; (first | rw [← Ny118.out] at ho11 | (simp only [Int.reduceToNat] at ho11; rw [← Ny118.out] at ho11)); have n0_ := Aside0.mk (Kd.R_lower ho11 (below_size (by repeat (first | (with_reducible first | exact HB.out | apply below_alloc | apply pw_below_drewN | apply below_drew1) | exact HB.out)))); have n1_ := Aside0.mk (below_step (by repeat (first | (with_reducible first | exact HB.out | apply below_alloc | apply pw_below_drewN | apply below_drew1) | exact HB.out)) hb); clear HB; have HO120 := n0_; have HB := n1_; clear n0_ n1_; clear hb ho11))
    go_ret2
    exact ⟨_, by first | rfl | (simp [errW_none, errW_some] <;> rfl) | (simp [*, errW_none, errW_some] <;> rfl), by (with_reducible repeat (first | apply Kd.R_alloc | apply Kd.R_drewN | apply Kd.R_drew)); exact HO120.out, by repeat (first | (with_reducible first | exact HB.out | apply below_alloc | apply pw_below_drewN | apply below_drew1) | exact HB.out)⟩
  ·replace c6 := Bool.eq_false_iff.mpr c6
   subst c6
   have H1 : (some ((([] : List (S37))), false)) = some (r1, r2) := by rw [if_neg (show ¬ (false = true) by decide)] at H; exact H
   clear H
   have H := H1
   clear H1
   obtain ⟨y121, hy121⟩ : ∃ y_ : List (S37), y_ = (([] : List (S37))) := ⟨_, rfl⟩
   replace H : (some (y121, false)) = some (r1, r2) := by first | (rw [hy121]; with_reducible exact H) | (have H2_ := (Option.bind_some _ _).symm.trans H; rw [hy121]; with_reducible exact H2_) | (have H2_ := (Option.bind_some _ _).symm.trans H; with_reducible exact H2_) | with_reducible exact H | (rw [hy121]; exact H) | exact H
   have Ny121 := Aside0.mk hy121
   clear hy121
   simp only [Option.some.injEq, Prod.mk.injEq] at H
   obtain ⟨rfl, rfl⟩ := H
   go_enter Try.func47, Try.ntmps47
   go_wp2_with (first | ((with_reducible refine gate_callee (f := 131) rfl ?_); refine goesL_ (some 7) rfl rfl Try.func131 (by kernel_rfl) rfl #[.int .i64 a0] rfl (by (try simp only [List.map_toArray, List.map_cons, List.map_nil]); first | done | rfl | (simp only [List.length_drop, List.length_take]; rfl)) ?_; (with_reducible refine (spec_l25Chan.calls a0 true _ A3.out).mono ?_); rintro e w' ⟨rfl, ⟨nd, rfl⟩⟩; refine ⟨_, rfl, ?_⟩) | (go_at_call 131; (with_reducible refine (spec_l25Chan.calls a1 false _ A5.out).mono ?_); rintro e w' ⟨rfl, ⟨nd, rfl⟩⟩) | ((with_reducible refine gate_dst (N := 19) rfl ?_); refine Kd.R_lit k37 _ 37 ?hg (N := 19) ?hd (xs := ([] : List (S37))) (inner := []) (ok := fun _ => True) (okp := fun _ => True) ?hr ?hp (fun _ hk => hk) trivial (Below.refl _ _) (Nat.le_refl _) (by simp) ?_; (case hd => rfl); (case hg => rfl); (case hr => first | (go_simp; done) | (go_simp; rfl)); (case hp => exact (Reps.none _ _)); intro v122 w12 ho13 hb hg_ hnew_; clear hg_ hnew_; (first | rw [← Ny121.out] at ho13 | (simp only [Int.reduceToNat] at ho13; rw [← Ny121.out] at ho13)); have n0_ := Aside0.mk (Kd.R_lower ho13 (below_size (by repeat (first | (with_reducible first | exact HB.out | apply below_alloc | apply pw_below_drewN | apply below_drew1) | exact HB.out)))); have n1_ := Aside0.mk (below_step (by repeat (first | (with_reducible first | exact HB.out | apply below_alloc | apply pw_below_drewN | apply below_drew1) | exact HB.out)) hb); clear HB; have HO123 := n0_; have HB := n1_; clear n0_ n1_; clear hb ho13))
   go_ret2
   exact ⟨_, by first | rfl | (simp [errW_none, errW_some] <;> rfl) | (simp [*, errW_none, errW_some] <;> rfl), by (with_reducible repeat (first | apply Kd.R_alloc | apply Kd.R_drewN | apply Kd.R_drew)); exact HO123.out, by repeat (first | (with_reducible first | exact HB.out | apply below_alloc | apply pw_below_drewN | apply below_drew1) | exact HB.out)⟩
 ·replace c4 := Bool.eq_false_iff.mpr c4
  subst c4
  have H1 : (some ((([] : List (S37))), false)) = some (r1, r2) := by rw [if_neg (show ¬ (false = true) by decide)] at H; exact H
  clear H
  have H := H1
  clear H1
  obtain ⟨y124, hy124⟩ : ∃ y_ : List (S37), y_ = (([] : List (S37))) := ⟨_, rfl⟩
  replace H : (some (y124, false)) = some (r1, r2) := by first | (rw [hy124]; with_reducible exact H) | (have H2_ := (Option.bind_some _ _).symm.trans H; rw [hy124]; with_reducible exact H2_) | (have H2_ := (Option.bind_some _ _).symm.trans H; with_reducible exact H2_) | with_reducible exact H | (rw [hy124]; exact H) | exact H
  have Ny124 := Aside0.mk hy124
  clear hy124
  simp only [Option.some.injEq, Prod.mk.injEq] at H
  obtain ⟨rfl, rfl⟩ := H
  go_enter Try.func47, Try.ntmps47
  go_wp2_with (first | ((with_reducible refine gate_callee (f := 131) rfl ?_); refine goesL_ (some 7) rfl rfl Try.func131 (by kernel_rfl) rfl #[.int .i64 a0] rfl (by (try simp only [List.map_toArray, List.map_cons, List.map_nil]); first | done | rfl | (simp only [List.length_drop, List.length_take]; rfl)) ?_; (with_reducible refine (spec_l25Chan.calls a0 false _ A3.out).mono ?_); rintro e w' ⟨rfl, ⟨nd, rfl⟩⟩; refine ⟨_, rfl, ?_⟩) | ((with_reducible refine gate_dst (N := 19) rfl ?_); refine Kd.R_lit k37 _ 37 ?hg (N := 19) ?hd (xs := ([] : List (S37))) (inner := []) (ok := fun _ => True) (okp := fun _ => True) ?hr ?hp (fun _ hk => hk) trivial (Below.refl _ _) (Nat.le_refl _) (by simp) ?_; (case hd => rfl); (case hg => rfl); (case hr => first | (go_simp; done) | (go_simp; rfl)); (case hp => exact (Reps.none _ _)); intro v125 w14 ho15 hb hg_ hnew_; clear hg_ hnew_; (first | rw [← Ny124.out] at ho15 | (simp only [Int.reduceToNat] at ho15; rw [← Ny124.out] at ho15)); have n0_ := Aside0.mk (Kd.R_lower ho15 (below_size (by repeat (first | (with_reducible first | exact HB.out | apply below_alloc | apply pw_below_drewN | apply below_drew1) | exact HB.out)))); have n1_ := Aside0.mk (below_step (by repeat (first | (with_reducible first | exact HB.out | apply below_alloc | apply pw_below_drewN | apply below_drew1) | exact HB.out)) hb); clear HB; have HO126 := n0_; have HB := n1_; clear n0_ n1_; clear hb ho15))
  go_ret2
  exact ⟨_, by first | rfl | (simp [errW_none, errW_some] <;> rfl) | (simp [*, errW_none, errW_some] <;> rfl), by (with_reducible repeat (first | apply Kd.R_alloc | apply Kd.R_drewN | apply Kd.R_drew)); exact HO126.out, by repeat (first | (with_reducible first | exact HB.out | apply below_alloc | apply pw_below_drewN | apply below_drew1) | exact HB.out)⟩

/-! ### spec_SumBody: function 50 -/
def spec_SumBody.f (a0 : Int) : Option ((List (S37)) × Bool) := (spec_l25Chan.f a0).bind fun t127 => (if t127 = true then (some ((([(⟨6, 0, 0, 1, a0⟩ : S37), (⟨12, 0, 1, 0, 4⟩ : S37), (⟨2, 2, 2, 0, 0⟩ : S37), (⟨11, 0, 0, 0, 0⟩ : S37), (⟨10, 0, 2, 0, 0⟩ : S37), (⟨13, 0, 0, 0, 0⟩ : S37)] : List (S37))), true)) else (some ((([] : List (S37))), false)))
set_option maxHeartbeats 8000000 in
set_option maxRecDepth 100000 in
theorem spec_SumBody.calls (a0 : Int) (r1 : List (S37)) (r2 : Bool) (w : World) (h : spec_SumBody.f a0 = some (r1, r2)) :
  Calls Try.prog 50 #[.int .i64 a0] w fun e w' => ∃ v0_ : Value, e = .returned (.tuple #[v0_, .bool r2]) ∧ Kd.R k37 37 w' w.heap.size (fun _ => True) v0_ r1 ∧ Below w.heap.size w w' := by
 have hu37 := Try.underlying37
 have HB := Aside0.mk (Below.refl w.heap.size w)
 have H : ((spec_l25Chan.f a0).bind fun t127 => (if t127 = true then (some ((([(⟨6, 0, 0, 1, a0⟩ : S37), (⟨12, 0, 1, 0, 4⟩ : S37), (⟨2, 2, 2, 0, 0⟩ : S37), (⟨11, 0, 0, 0, 0⟩ : S37), (⟨10, 0, 2, 0, 0⟩ : S37), (⟨13, 0, 0, 0, 0⟩ : S37)] : List (S37))), true)) else (some ((([] : List (S37))), false)))) = some (r1, r2) := h
 clear h
 replace H := Option.bind_eq_some_iff.mp H
 obtain ⟨t127, A20, H⟩ := H
 replace H : (if t127 = true then (some ((([(⟨6, 0, 0, 1, a0⟩ : S37), (⟨12, 0, 1, 0, 4⟩ : S37), (⟨2, 2, 2, 0, 0⟩ : S37), (⟨11, 0, 0, 0, 0⟩ : S37), (⟨10, 0, 2, 0, 0⟩ : S37), (⟨13, 0, 0, 0, 0⟩ : S37)] : List (S37))), true)) else (some ((([] : List (S37))), false))) = some (r1, r2) := H
 have A2 := Aside0.mk A20
 clear A20
 by_cases c3 : t127 = true
 ·subst c3
  have H1 : (some ((([(⟨6, 0, 0, 1, a0⟩ : S37), (⟨12, 0, 1, 0, 4⟩ : S37), (⟨2, 2, 2, 0, 0⟩ : S37), (⟨11, 0, 0, 0, 0⟩ : S37), (⟨10, 0, 2, 0, 0⟩ : S37), (⟨13, 0, 0, 0, 0⟩ : S37)] : List (S37))), true)) = some (r1, r2) := by rw [if_pos rfl] at H; exact H
  clear H
  have H := H1
  clear H1
  obtain ⟨y128, hy128⟩ : ∃ y_ : List (S37), y_ = (([(⟨6, 0, 0, 1, a0⟩ : S37), (⟨12, 0, 1, 0, 4⟩ : S37), (⟨2, 2, 2, 0, 0⟩ : S37), (⟨11, 0, 0, 0, 0⟩ : S37), (⟨10, 0, 2, 0, 0⟩ : S37), (⟨13, 0, 0, 0, 0⟩ : S37)] : List (S37))) := ⟨_, rfl⟩
  replace H : (some (y128, true)) = some (r1, r2) := by first | (rw [hy128]; with_reducible exact H) | (have H2_ := (Option.bind_some _ _).symm.trans H; rw [hy128]; with_reducible exact H2_) | (have H2_ := (Option.bind_some _ _).symm.trans H; with_reducible exact H2_) | with_reducible exact H | (rw [hy128]; exact H) | exact H
  have Ny128 := Aside0.mk hy128
  clear hy128
  simp only [Option.some.injEq, Prod.mk.injEq] at H
  obtain ⟨rfl, rfl⟩ := H
  go_enter Try.func50, Try.ntmps50
  go_wp2_with (first | ((with_reducible refine gate_callee (f := 131) rfl ?_); refine goesL_ (some 5) rfl rfl Try.func131 (by kernel_rfl) rfl #[.int .i64 a0] rfl (by (try simp only [List.map_toArray, List.map_cons, List.map_nil]); first | done | rfl | (simp only [List.length_drop, List.length_take]; rfl)) ?_; (with_reducible refine (spec_l25Chan.calls a0 true _ A2.out).mono ?_); rintro e w' ⟨rfl, ⟨nd, rfl⟩⟩; refine ⟨_, rfl, ?_⟩) | ((with_reducible refine gate_dst (N := 15) rfl ?_); refine Kd.R_lit k37 _ 37 ?hg (N := 15) ?hd (xs := ([(⟨6, 0, 0, 1, a0⟩ : S37), (⟨12, 0, 1, 0, 4⟩ : S37), (⟨2, 2, 2, 0, 0⟩ : S37), (⟨11, 0, 0, 0, 0⟩ : S37), (⟨10, 0, 2, 0, 0⟩ : S37), (⟨13, 0, 0, 0, 0⟩ : S37)] : List (S37))) (inner := [.int .i64 6, .int .i64 0, .int .i64 0, .int .i64 1, .int .i64 a0, .int .i64 12, .int .i64 0, .int .i64 1, .int .i64 0, .int .i64 4, .int .i64 2, .int .i64 2, .int .i64 2, .int .i64 0, .int .i64 0, .int .i64 11, .int .i64 0, .int .i64 0, .int .i64 0, .int .i64 0, .int .i64 10, .int .i64 0, .int .i64 2, .int .i64 0, .int .i64 0, .int .i64 13, .int .i64 0, .int .i64 0, .int .i64 0, .int .i64 0]) (ok := fun _ => True) (okp := fun _ => True) ?hr ?hp (fun _ hk => hk) trivial (Below.refl _ _) (Nat.le_refl _) (by simp) ?_; (case hd => rfl); (case hg => rfl); (case hr => first | (go_simp; done) | (go_simp; rfl)); (case hp => exact (Reps.c5 (show Kd.M k37 _ _ _ (⟨6, 0, 0, 1, a0⟩ : S37) [.int .i64 6, .int .i64 0, .int .i64 0, .int .i64 1, .int .i64 a0] from (k37_mkM _ _ _ (⟨6, 0, 0, 1, a0⟩ : S37) )) (Reps.c5 (show Kd.M k37 _ _ _ (⟨12, 0, 1, 0, 4⟩ : S37) [.int .i64 12, .int .i64 0, .int .i64 1, .int .i64 0, .int .i64 4] from (k37_mkM _ _ _ (⟨12, 0, 1, 0, 4⟩ : S37) )) (Reps.c5 (show Kd.M k37 _ _ _ (⟨2, 2, 2, 0, 0⟩ : S37) [.int .i64 2, .int .i64 2, .int .i64 2, .int .i64 0, .int .i64 0] from (k37_mkM _ _ _ (⟨2, 2, 2, 0, 0⟩ : S37) )) (Reps.c5 (show Kd.M k37 _ _ _ (⟨11, 0, 0, 0, 0⟩ : S37) [.int .i64 11, .int .i64 0, .int .i64 0, .int .i64 0, .int .i64 0] from (k37_mkM _ _ _ (⟨11, 0, 0, 0, 0⟩ : S37) )) (Reps.c5 (show Kd.M k37 _ _ _ (⟨10, 0, 2, 0, 0⟩ : S37) [.int .i64 10, .int .i64 0, .int .i64 2, .int .i64 0, .int .i64 0] from (k37_mkM _ _ _ (⟨10, 0, 2, 0, 0⟩ : S37) )) (Reps.c5 (show Kd.M k37 _ _ _ (⟨13, 0, 0, 0, 0⟩ : S37) [.int .i64 13, .int .i64 0, .int .i64 0, .int .i64 0, .int .i64 0] from (k37_mkM _ _ _ (⟨13, 0, 0, 0, 0⟩ : S37) )) (Reps.none _ _)))))))); intro v129 w4 ho5 hb hg_ hnew_; clear hg_ hnew_; (first | rw [← Ny128.out] at ho5 | (simp only [Int.reduceToNat] at ho5; rw [← Ny128.out] at ho5)); have n0_ := Aside0.mk (Kd.R_lower ho5 (below_size (by repeat (first | (with_reducible first | exact HB.out | apply below_alloc | apply pw_below_drewN | apply below_drew1) | exact HB.out)))); have n1_ := Aside0.mk (below_step (by repeat (first | (with_reducible first | exact HB.out | apply below_alloc | apply pw_below_drewN | apply below_drew1) | exact HB.out)) hb); clear HB; have HO130 := n0_; have HB := n1_; clear n0_ n1_; clear hb ho5))
  go_ret2
  exact ⟨_, by first | rfl | (simp [errW_none, errW_some] <;> rfl) | (simp [*, errW_none, errW_some] <;> rfl), by (with_reducible repeat (first | apply Kd.R_alloc | apply Kd.R_drewN | apply Kd.R_drew)); exact HO130.out, by repeat (first | (with_reducible first | exact HB.out | apply below_alloc | apply pw_below_drewN | apply below_drew1) | exact HB.out)⟩
 ·replace c3 := Bool.eq_false_iff.mpr c3
  subst c3
  have H1 : (some ((([] : List (S37))), false)) = some (r1, r2) := by rw [if_neg (show ¬ (false = true) by decide)] at H; exact H
  clear H
  have H := H1
  clear H1
  obtain ⟨y131, hy131⟩ : ∃ y_ : List (S37), y_ = (([] : List (S37))) := ⟨_, rfl⟩
  replace H : (some (y131, false)) = some (r1, r2) := by first | (rw [hy131]; with_reducible exact H) | (have H2_ := (Option.bind_some _ _).symm.trans H; rw [hy131]; with_reducible exact H2_) | (have H2_ := (Option.bind_some _ _).symm.trans H; with_reducible exact H2_) | with_reducible exact H | (rw [hy131]; exact H) | exact H
  have Ny131 := Aside0.mk hy131
  clear hy131
  simp only [Option.some.injEq, Prod.mk.injEq] at H
  obtain ⟨rfl, rfl⟩ := H
  go_enter Try.func50, Try.ntmps50
  go_wp2_with (first | ((with_reducible refine gate_callee (f := 131) rfl ?_); refine goesL_ (some 5) rfl rfl Try.func131 (by kernel_rfl) rfl #[.int .i64 a0] rfl (by (try simp only [List.map_toArray, List.map_cons, List.map_nil]); first | done | rfl | (simp only [List.length_drop, List.length_take]; rfl)) ?_; (with_reducible refine (spec_l25Chan.calls a0 false _ A2.out).mono ?_); rintro e w' ⟨rfl, ⟨nd, rfl⟩⟩; refine ⟨_, rfl, ?_⟩) | ((with_reducible refine gate_dst (N := 7) rfl ?_); refine Kd.R_lit k37 _ 37 ?hg (N := 7) ?hd (xs := ([] : List (S37))) (inner := []) (ok := fun _ => True) (okp := fun _ => True) ?hr ?hp (fun _ hk => hk) trivial (Below.refl _ _) (Nat.le_refl _) (by simp) ?_; (case hd => rfl); (case hg => rfl); (case hr => first | (go_simp; done) | (go_simp; rfl)); (case hp => exact (Reps.none _ _)); intro v132 w6 ho7 hb hg_ hnew_; clear hg_ hnew_; (first | rw [← Ny131.out] at ho7 | (simp only [Int.reduceToNat] at ho7; rw [← Ny131.out] at ho7)); have n0_ := Aside0.mk (Kd.R_lower ho7 (below_size (by repeat (first | (with_reducible first | exact HB.out | apply below_alloc | apply pw_below_drewN | apply below_drew1) | exact HB.out)))); have n1_ := Aside0.mk (below_step (by repeat (first | (with_reducible first | exact HB.out | apply below_alloc | apply pw_below_drewN | apply below_drew1) | exact HB.out)) hb); clear HB; have HO133 := n0_; have HB := n1_; clear n0_ n1_; clear hb ho7))
  go_ret2
  exact ⟨_, by first | rfl | (simp [errW_none, errW_some] <;> rfl) | (simp [*, errW_none, errW_some] <;> rfl), by (with_reducible repeat (first | apply Kd.R_alloc | apply Kd.R_drewN | apply Kd.R_drew)); exact HO133.out, by repeat (first | (with_reducible first | exact HB.out | apply below_alloc | apply pw_below_drewN | apply below_drew1) | exact HB.out)⟩

end Go.Proofs.Ytonlhgkpmjefkaa.XFnPipeBodies
