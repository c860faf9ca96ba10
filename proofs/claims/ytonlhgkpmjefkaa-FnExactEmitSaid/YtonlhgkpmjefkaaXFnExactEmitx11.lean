/- Each Go function that the law reaches as a Lean function, and that Go comes to just its answer; written by this session's xprint.py over the kit's printer. -/
import Derived.Test.YtonlhgkpmjefkaaXFnExactEmitx0
import Derived.Test.YtonlhgkpmjefkaaXFnExactEmitx8
namespace Go.Proofs.Ytonlhgkpmjefkaa.XFnExactEmit
open Go.RowKit Go.Proofs.YtonlhgkpmjefkaaW.PrintWords Go.Proofs.YtonlhgkpmjefkaaW.PrintLast Go.Proofs.YtonlhgkpmjefkaaW.PrintMore
attribute [local go_sem] max2_int min2_int max_two min_two max_three min_three max_four min_four   -- for this text's walks alone
set_option linter.unusedVariables false
set_option linter.unusedSimpArgs false

theorem att12_0_1 {p : Prop} (h : p := by exact toR_ (HO556.out)) : p := h
theorem att12_0_3 {p : Prop} (h : p := by exact toR_ (HO559.out)) : p := h
theorem att12_0_4 {p : Prop} (h : p := by exact toR_ (HO572.out)) : p := h
theorem att12_0_5 {p : Prop} (h : p := by exact toR_ (HO575.out)) : p := h
theorem att12_0_6 {p : Prop} (h : p := by exact toR_ (HO553.out)) : p := h
/-! ### spec_l10Close: function 114 -/
def spec_l10Close.f (a0 : Int) (a1 : Int) : Option ((List (S46))) := (spec_l10Lock.f a0 a1).bind fun t551 => ((spec_l10Shut.f a0 a1).bind fun t554 => (if t551.length + t554.length < 3518437208883 then ((some (t551 ++ t554 : List (S46))).bind fun y557 => ((spec_l10Set.f 7 1).bind fun bt560 => ((spec_l10Store.f (wrap64 (a0 + 3)) 7).bind fun bt565 => ((some (([(⟨bt560.1, bt560.2.1, bt560.2.2.1, bt560.2.2.2.1, bt560.2.2.2.2⟩ : S46), (⟨bt565.1, bt565.2.1, bt565.2.2.1, bt565.2.2.2.1, bt565.2.2.2.2⟩ : S46)] : List (S46)) : List (S46))).bind fun y570 => (if y557.length + y570.length < 3518437208883 then ((some (y557 ++ y570 : List (S46))).bind fun y573 => ((spec_l10Let.f a0).bind fun t576 => (if y573.length + t576.length < 3518437208883 then (some (y573 ++ t576)) else (none)))) else (none)))))) else (none)))
set_option maxHeartbeats 80000000 in
set_option maxRecDepth 100000 in
theorem spec_l10Close.calls (a0 : Int) (a1 : Int) (r : List (S46)) (w : World) (h : spec_l10Close.f a0 a1 = some r) :
  Calls Try.prog 114 #[.int .i64 a0, .int .i64 a1] w fun e w' => ∃ v0_ : Value, e = .returned (v0_) ∧ Kd.R k46 46 w' w.heap.size (fun _ => True) v0_ r ∧ Below w.heap.size w w' := by
 have HB := Aside0.mk (Below.refl w.heap.size w)
 have H : ((spec_l10Lock.f a0 a1).bind fun t551 => ((spec_l10Shut.f a0 a1).bind fun t554 => (if t551.length + t554.length < 3518437208883 then ((some (t551 ++ t554 : List (S46))).bind fun y557 => ((spec_l10Set.f 7 1).bind fun bt560 => ((spec_l10Store.f (wrap64 (a0 + 3)) 7).bind fun bt565 => ((some (([(⟨bt560.1, bt560.2.1, bt560.2.2.1, bt560.2.2.2.1, bt560.2.2.2.2⟩ : S46), (⟨bt565.1, bt565.2.1, bt565.2.2.1, bt565.2.2.2.1, bt565.2.2.2.2⟩ : S46)] : List (S46)) : List (S46))).bind fun y570 => (if y557.length + y570.length < 3518437208883 then ((some (y557 ++ y570 : List (S46))).bind fun y573 => ((spec_l10Let.f a0).bind fun t576 => (if y573.length + t576.length < 3518437208883 then (some (y573 ++ t576)) else (none)))) else (none)))))) else (none)))) = some r := h
 clear h
 replace H := Option.bind_eq_some_iff.mp H
 obtain ⟨t551, A30, H⟩ := H
 (try dsimp only at H)
 have A3 := Aside0.mk A30
 clear A30
 replace H := Option.bind_eq_some_iff.mp H
 obtain ⟨t554, A40, H⟩ := H
 (try dsimp only at H)
 have A4 := Aside0.mk A40
 clear A40
 by_cases c5 : t551.length + t554.length < 3518437208883
 ·rw [if_pos c5] at H
  have LMc5 := Aside0.mk c5
  clear c5
  obtain ⟨y557, hy557⟩ : ∃ y_ : List (S46), y_ = (t551 ++ t554) := ⟨_, rfl⟩
  replace H := yy_ H hy557
  have Ny557 := Aside0.mk hy557
  clear hy557
  replace H := Option.bind_eq_some_iff.mp H
  obtain ⟨⟨t560, t561, t562, t563, t564⟩, A60, H⟩ := H
  (try dsimp only at H)
  have A6 := Aside0.mk A60
  clear A60
  replace H := Option.bind_eq_some_iff.mp H
  obtain ⟨⟨t565, t566, t567, t568, t569⟩, A70, H⟩ := H
  (try dsimp only at H)
  have A7 := Aside0.mk A70
  clear A70
  obtain ⟨y570, hy570⟩ : ∃ y_ : List (S46), y_ = (([(⟨t560, t561, t562, t563, t564⟩ : S46), (⟨t565, t566, t567, t568, t569⟩ : S46)] : List (S46))) := ⟨_, rfl⟩
  replace H := yy_ H hy570
  have Ny570 := Aside0.mk hy570
  clear hy570
  by_cases c8 : y557.length + y570.length < 3518437208883
  ·rw [if_pos c8] at H
   have LMc8 := Aside0.mk c8
   clear c8
   obtain ⟨y573, hy573⟩ : ∃ y_ : List (S46), y_ = (y557 ++ y570) := ⟨_, rfl⟩
   replace H := yy_ H hy573
   have Ny573 := Aside0.mk hy573
   clear hy573
   replace H := Option.bind_eq_some_iff.mp H
   obtain ⟨t576, A90, H⟩ := H
   (try dsimp only at H)
   have A9 := Aside0.mk A90
   clear A90
   by_cases c10 : y573.length + t576.length < 3518437208883
   ·rw [if_pos c10] at H
    have LMc10 := Aside0.mk c10
    clear c10
    obtain ⟨y579, hy579⟩ : ∃ y_ : List (S46), y_ = (y573 ++ t576) := ⟨_, rfl⟩
    replace H : (some y579) = some r := by rw [hy579]; exact H
    have Ny579 := Aside0.mk hy579
    clear hy579
    obtain rfl := Option.some.inj H
    go_enter Try.func114, Try.ntmps114
    go_wp2_with (first | ((with_reducible refine gate_callee (f := 175) rfl ?_); refine goesL_ (some 8) rfl rfl Try.func175 (by kernel_rfl) rfl #[.int .i64 a0, .int .i64 a1] rfl atgM_ ?_; (with_reducible refine (spec_l10Lock.calls a0 a1 t551 _ A3.out).mono ?_); rintro e w11 ⟨v552, rfl, ho0, hb⟩; refine ⟨_, rfl, ?_⟩; refine swap2_ (Kd.R_lower ho0 (below_size atgB_)) (below_step atgB_ hb) ?_; clear HB; intro HO553 HB; (try clear hb); (try clear hb2); (try clear hk); (try clear hi); (try clear ho0)) | ((with_reducible refine gate_callee (f := 176) rfl ?_); refine goesL_ (some 11) rfl rfl Try.func176 (by kernel_rfl) rfl #[.int .i64 a0, .int .i64 a1] rfl atgM_ ?_; (with_reducible refine (spec_l10Shut.calls a0 a1 t554 _ A4.out).mono ?_); rintro e w12 ⟨v555, rfl, ho0, hb⟩; refine ⟨_, rfl, ?_⟩; refine swap3_ (Kd.R_elder' att12_0_6 (Kd.R_base ho0) hb) (Kd.R_lower (Kd.R_new' ho0 (Kd.R_lt att12_0_6)) (below_size atgB_)) (below_step atgB_ hb) ?_; clear HO553 HB; intro HO553 HO556 HB; (try clear hb); (try clear hb2); (try clear hk); (try clear hi); (try clear ho0); obtain ⟨Ao14, co14, eo14⟩ := Kd.R_slice HO556.out; subst eo14) | ((with_reducible refine gate_builtin (b := .append) (xs := #[.tmp 8, .tmp 11]) rfl ?_); at_builtin; refine Kd.R_append_rows k46 (w0 := w) w.heap.size rfl (.tmp 8) (.tmp 11) 40 46 (.agg #[(.int .i64 0), (.int .i64 0), (.int .i64 0), (.int .i64 0), (.int .i64 0)]) 40 rfl Try.underlying40 info46 rfl (by decide) (by omega) v552 t551 t554 _ _ _ (fun k_ => some k_ ≠ (.slice Ao14 t554.length co14 : Value).ownBlock) (fun _ => False) rfl rfl ?aO ?aR (fun _ _ h => h) (fun _ h => h.elim) ?aF ?aB ?aS ?aL ?_; (case aR => repeat (first | exact (Kd.R_reads' HO556.out).2.2 | (with_reducible refine Kd.C_alloc ?_ _) | (with_reducible refine Kd.C_drewN ?_ _) | (with_reducible refine Kd.C_drew ?_))); (case aB => exact atgB_); (case aF => exact (fun k_ hk => Kd.fresh' (Kd.R_lt att12_0_1) k_ hk)); (case aO => exact (by exact toR_ (Kd.R_mono HO553.out (fun _ hk => hk.2)))); (case aS => exact (below_size atgB_)); (case aL => have := LMc5.out; omega); intro v558 w13 ho hb hg hat; rw [← Ny557.out] at ho; refine swap3_ (Kd.R_after (ok := (fun _ => True)) att12_0_1 hg hat) (hb) (ho) ?_; clear HO556 HB HO553; intro HO556 HB HO559; clear ho hb hg hat) | ((with_reducible refine gate_callee (f := 107) rfl ?_); refine goesL_ (some 14) rfl rfl Try.func107 (by kernel_rfl) rfl #[.int .i64 7, .int .i64 1] rfl atgM_ ?_; (with_reducible refine (spec_l10Set.calls 7 1 t560 t561 t562 t563 t564 _ A6.out).mono ?_); rintro e w15 ⟨rfl, hb⟩; refine ⟨_, rfl, ?_⟩; refine swap3_ (Kd.R_below att12_0_1 hb) (Kd.R_below att12_0_3 hb) (below_step atgB_ hb) ?_; clear HO556 HO559 HB; intro HO556 HO559 HB; (try clear hb); (try clear hb2); (try clear hk); (try clear hi)) | ((with_reducible refine gate_callee (f := 178) rfl ?_); refine goesL_ (some 17) rfl rfl Try.func178 (by kernel_rfl) rfl #[.int .i64 (wrap64 (a0 + 3)), .int .i64 7] rfl atgM_ ?_; (with_reducible refine (spec_l10Store.calls (wrap64 (a0 + 3)) 7 t565 t566 t567 t568 t569 _ A7.out).mono ?_); rintro e w16 ⟨rfl, hb⟩; refine ⟨_, rfl, ?_⟩; refine swap3_ (Kd.R_below att12_0_1 hb) (Kd.R_below att12_0_3 hb) (below_step atgB_ hb) ?_; clear HO556 HO559 HB; intro HO556 HO559 HB; (try clear hb); (try clear hb2); (try clear hk); (try clear hi)) | ((with_reducible refine gate_dst (N := 18) rfl ?_); refine Kd.R_lit k46 _ 46 ?hg (N := 18) ?hd (xs := ([(⟨t560, t561, t562, t563, t564⟩ : S46), (⟨t565, t566, t567, t568, t569⟩ : S46)] : List (S46))) (inner := [.int .i64 t560, .int .i64 t561, .int .i64 t562, .int .i64 t563, .int .i64 t564, .int .i64 t565, .int .i64 t566, .int .i64 t567, .int .i64 t568, .int .i64 t569]) (ok := fun _ => True) (okp := fun _ => True) ?hr ?hp (fun _ hk => hk) trivial (Below.refl _ _) (Nat.le_refl _) (by simp) ?_; (case hd => rfl); (case hg => rfl); (case hr => first | (go_simp; done) | (go_simp; rfl)); (case hp => exact (Reps.c5 (show Kd.M k46 _ _ _ (⟨t560, t561, t562, t563, t564⟩ : S46) [.int .i64 t560, .int .i64 t561, .int .i64 t562, .int .i64 t563, .int .i64 t564] from (k46_mkM _ _ _ (⟨t560, t561, t562, t563, t564⟩ : S46) )) (Reps.c5 (show Kd.M k46 _ _ _ (⟨t565, t566, t567, t568, t569⟩ : S46) [.int .i64 t565, .int .i64 t566, .int .i64 t567, .int .i64 t568, .int .i64 t569] from (k46_mkM _ _ _ (⟨t565, t566, t567, t568, t569⟩ : S46) )) (Reps.none _ _)))); intro v571 w17 ho18 hb hg_ hnew_; clear hg_ hnew_; (first | rw [← Ny570.out] at ho18 | (simp only [Int.reduceToNat] at ho18; rw [← Ny570.out] at ho18)); refine swap4_ (Kd.R_elder' att12_0_1 (Kd.R_base ho18) hb) (Kd.R_elder' att12_0_3 (Kd.R_base ho18) hb) (Kd.R_lower (Kd.R_new' (Kd.R_new' ho18 (Kd.R_lt att12_0_1)) (Kd.R_lt att12_0_3)) (below_size atgB_)) (below_step atgB_ hb) ?_; clear HO556 HO559 HB; intro HO556 HO559 HO572 HB; clear hb ho18; obtain ⟨Ao20, co20, eo20⟩ := Kd.R_slice HO572.out; subst eo20) | ((with_reducible refine gate_builtin (b := .append) (xs := #[.tmp 13, .tmp 18]) rfl ?_); at_builtin; refine Kd.R_append_rows k46 (w0 := w) w.heap.size rfl (.tmp 13) (.tmp 18) 40 46 (.agg #[(.int .i64 0), (.int .i64 0), (.int .i64 0), (.int .i64 0), (.int .i64 0)]) 40 rfl Try.underlying40 info46 rfl (by decide) (by omega) v558 y557 y570 _ _ _ (fun k_ => some k_ ≠ (.slice Ao14 t554.length co14 : Value).ownBlock ∧ some k_ ≠ (.slice Ao20 y570.length co20 : Value).ownBlock) (fun _ => False) rfl rfl ?aO ?aR (fun _ _ h => h) (fun _ h => h.elim) ?aF ?aB ?aS ?aL ?_; (case aR => repeat (first | exact (Kd.R_reads' HO572.out).2.2 | (with_reducible refine Kd.C_alloc ?_ _) | (with_reducible refine Kd.C_drewN ?_ _) | (with_reducible refine Kd.C_drew ?_))); (case aB => exact atgB_); (case aF => exact (fun k_ hk => ⟨Kd.fresh' (Kd.R_lt att12_0_1) k_ hk, Kd.fresh' (Kd.R_lt att12_0_4) k_ hk⟩)); (case aO => exact att12_0_3); (case aS => exact (below_size atgB_)); (case aL => have := LMc8.out; omega); intro v574 w19 ho hb hg hat; rw [← Ny573.out] at ho; refine swap4_ (Kd.R_after (ok := (fun k_ => some k_ ≠ (.slice Ao20 y570.length co20 : Value).ownBlock)) (by exact toR_ (Kd.R_mono HO556.out (fun _ hk => ⟨hk.2, hk.1.2⟩))) hg hat) (Kd.R_after (ok := (fun k_ => some k_ ≠ (.slice Ao14 t554.length co14 : Value).ownBlock)) (by exact toR_ (Kd.R_mono HO572.out (fun _ hk => ⟨hk.1.2, hk.2⟩))) hg hat) (hb) (ho) ?_; clear HO556 HO572 HB HO559; intro HO556 HO572 HB HO575; clear ho hb hg hat) | ((with_reducible refine gate_callee (f := 179) rfl ?_); refine goesL_ (some 22) rfl rfl Try.func179 (by kernel_rfl) rfl #[.int .i64 a0] rfl atgM_ ?_; (with_reducible refine (spec_l10Let.calls a0 t576 _ A9.out).mono ?_); rintro e w21 ⟨v577, rfl, ho0, hb⟩; refine ⟨_, rfl, ?_⟩; refine swap5_ (Kd.R_elder' att12_0_1 (Kd.R_base ho0) hb) (Kd.R_elder' att12_0_4 (Kd.R_base ho0) hb) (Kd.R_elder' att12_0_5 (Kd.R_base ho0) hb) (Kd.R_lower (Kd.R_new' (Kd.R_new' (Kd.R_new' ho0 (Kd.R_lt att12_0_1)) (Kd.R_lt att12_0_4)) (Kd.R_lt att12_0_5)) (below_size atgB_)) (below_step atgB_ hb) ?_; clear HO556 HO572 HO575 HB; intro HO556 HO572 HO575 HO578 HB; (try clear hb); (try clear hb2); (try clear hk); (try clear hi); (try clear ho0); obtain ⟨Ao23, co23, eo23⟩ := Kd.R_slice HO578.out; subst eo23) | ((with_reducible refine gate_builtin (b := .append) (xs := #[.tmp 20, .tmp 22]) rfl ?_); at_builtin; refine Kd.R_append_rows k46 (w0 := w) w.heap.size rfl (.tmp 20) (.tmp 22) 40 46 (.agg #[(.int .i64 0), (.int .i64 0), (.int .i64 0), (.int .i64 0), (.int .i64 0)]) 40 rfl Try.underlying40 info46 rfl (by decide) (by omega) v574 y573 t576 _ _ _ (fun k_ => some k_ ≠ (.slice Ao14 t554.length co14 : Value).ownBlock ∧ some k_ ≠ (.slice Ao20 y570.length co20 : Value).ownBlock ∧ some k_ ≠ (.slice Ao23 t576.length co23 : Value).ownBlock) (fun _ => False) rfl rfl ?aO ?aR (fun _ _ h => h) (fun _ h => h.elim) ?aF ?aB ?aS ?aL ?_; (case aR => repeat (first | exact (Kd.R_reads' HO578.out).2.2 | (with_reducible refine Kd.C_alloc ?_ _) | (with_reducible refine Kd.C_drewN ?_ _) | (with_reducible refine Kd.C_drew ?_))); (case aB => exact atgB_); (case aF => exact (fun k_ hk => ⟨Kd.fresh' (Kd.R_lt att12_0_1) k_ hk, Kd.fresh' (Kd.R_lt att12_0_4) k_ hk, Kd.fresh' (Kd.R_lt (by exact toR_ (HO578.out))) k_ hk⟩)); (case aO => exact (by exact toR_ (Kd.R_mono HO575.out (fun _ hk => ⟨hk.1.1, ⟨hk.1.2, hk.2⟩⟩)))); (case aS => exact (below_size atgB_)); (case aL => have := LMc10.out; omega); intro v580 w22 ho hb hg hat; rw [← Ny579.out] at ho; refine swap5_ (Kd.R_after (ok := (fun k_ => some k_ ≠ (.slice Ao20 y570.length co20 : Value).ownBlock ∧ some k_ ≠ (.slice Ao23 t576.length co23 : Value).ownBlock)) (by exact toR_ (Kd.R_mono HO556.out (fun _ hk => ⟨⟨hk.1.1, hk.2⟩, hk.1.2⟩))) hg hat) (Kd.R_after (ok := (fun k_ => some k_ ≠ (.slice Ao14 t554.length co14 : Value).ownBlock ∧ some k_ ≠ (.slice Ao23 t576.length co23 : Value).ownBlock)) (by exact toR_ (Kd.R_mono HO572.out (fun _ hk => ⟨⟨hk.1.1, hk.2⟩, hk.1.2⟩))) hg hat) (Kd.R_after (ok := (fun k_ => some k_ ≠ (.slice Ao14 t554.length co14 : Value).ownBlock ∧ some k_ ≠ (.slice Ao20 y570.length co20 : Value).ownBlock)) (by exact toR_ (Kd.R_mono HO578.out (fun _ hk => ⟨⟨hk.1.1.2, hk.1.2⟩, hk.2⟩))) hg hat) (hb) (ho) ?_; clear HO556 HO572 HO578 HB HO575; intro HO556 HO572 HO578 HB HO581; clear ho hb hg hat))
    go_ret
    exact ⟨_, retT_, by exact toR_ (Kd.R_mono HO581.out (fun _ hk => trivial)), atgB_⟩
   ·rw [if_neg c10] at H
    exact absurd H (by simp)
  ·rw [if_neg c8] at H
   exact absurd H (by simp)
 ·rw [if_neg c5] at H
  exact absurd H (by simp)

end Go.Proofs.Ytonlhgkpmjefkaa.XFnExactEmit
