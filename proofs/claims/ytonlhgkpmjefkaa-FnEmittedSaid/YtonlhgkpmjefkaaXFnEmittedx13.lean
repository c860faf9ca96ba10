/- Each Go function that the law reaches as a Lean function, and that Go comes to just its answer; written by this session's xprint.py over the kit's printer. -/
import Derived.Test.YtonlhgkpmjefkaaXFnEmittedx0
import Derived.Test.YtonlhgkpmjefkaaXFnEmittedx11
import Derived.Test.YtonlhgkpmjefkaaXFnEmittedx12
namespace Go.Proofs.Ytonlhgkpmjefkaa.XFnEmitted
open Go.RowKit Go.Proofs.YtonlhgkpmjefkaaW.PrintWords Go.Proofs.YtonlhgkpmjefkaaW.PrintLast Go.Proofs.YtonlhgkpmjefkaaW.PrintMore
attribute [local go_sem] max2_int min2_int max_two min_two max_three min_three max_four min_four   -- for this text's walks alone
set_option linter.unusedVariables false
set_option linter.unusedSimpArgs false

theorem att14_0_1 {p : Prop} (h : p := by exact toR_ (HO355.out)) : p := h
theorem att14_0_3 {p : Prop} (h : p := by exact toR_ (HO358.out)) : p := h
theorem att14_0_4 {p : Prop} (h : p := by rintro w' ⟨s0, s1, s2, s3, s4⟩; go_simp; with_reducible rfl) : p := h
theorem att14_0_5 {p : Prop} (h : p := by exact toR_ (HO371.out)) : p := h
theorem att14_0_6 {p : Prop} (h : p := by exact toR_ (HO374.out)) : p := h
theorem att14_0_7 {p : Prop} (h : p := by exact toR_ (HO352.out)) : p := h
/-! ### spec_l10Take: function 113 -/
def sp_takeTL (x1 x3 b c fr : Int) : List S46 := ((((((((spLock b fr ++ [⟨5, 5, -1, 0, wrap64 (b + 2)⟩, ⟨11, 0, 5, 0, wrap64 (fr + 22)⟩, ⟨5, 4, -1, 0, wrap64 (b + 1)⟩, ⟨5, x1, 4, 0, wrap64 (b + 4)⟩]) ++ [⟨1, 7, 0, 0, 1⟩, ⟨2, 4, 4, 7, 0⟩, ⟨3, 5, 5, 7, 0⟩, ⟨1, 7, 0, 0, c⟩, ⟨4, 6, 4, 7, 0⟩, ⟨11, 0, 6, 0, wrap64 (fr + 15)⟩, ⟨10, 0, 0, 0, wrap64 (fr + 16)⟩, ⟨1, 4, 0, 0, 0⟩]) ++ [⟨6, 0, -1, 4, wrap64 (b + 1)⟩, ⟨6, 0, -1, 5, wrap64 (b + 2)⟩]) ++ spLet b) ++ [⟨1, x3, 0, 0, 1⟩, ⟨10, 0, 0, 0, wrap64 (fr + 32)⟩, ⟨5, 4, -1, 0, wrap64 (b + 3)⟩]) ++ spLet b) ++ [⟨11, 0, 4, 0, wrap64 (fr + 29)⟩, ⟨1, x1, 0, 0, 0⟩]) ++ [⟨1, x3, 0, 0, 2⟩, ⟨10, 0, 0, 0, wrap64 (fr + 32)⟩, ⟨1, x1, 0, 0, 0⟩, ⟨1, x3, 0, 0, 0⟩, ⟨10, 0, 0, 0, wrap64 (fr + 32)⟩])
set_option maxHeartbeats 16000000 in
set_option maxRecDepth 100000 in
theorem sp_takeT (x1 x2 x3 x4 b c fr : Int) (w0 : World) :
  Calls Try.prog 113 #[.agg #[.int .i64 8, .int .i64 x1, .int .i64 x2, .int .i64 x3, .int .i64 x4], .int .i64 b, .int .i64 c, .int .i64 fr] w0 fun e w' => ∃ v0_ : Value, e = .returned (v0_) ∧ Kd.R k46 46 w' w0.heap.size (fun _ => True) v0_ (sp_takeTL x1 x3 b c fr) ∧ Below w0.heap.size w0 w' := by
 have hu37 := Try.underlying37
 have hu46 := Try.underlying46
 have NUM := Aside0.mk (show spec_l4Bit.f false = some 0 from rfl)
 have SIZ := Aside0.mk (show spec_EmitSize.f 8 x1 x2 x3 x4 = some 32 from by simp [spec_EmitSize.f])
 have HB := Aside0.mk (Below.refl w0.heap.size w0)
 have OUT := Aside0.mk (Kd.R_nil k46 46 w0 w0.heap.size (fun _ => True))
 go_enter Try.func113, Try.ntmps113
 go_wp2_with (first | ((with_reducible refine gate_dst (N := 4) rfl ?_); refine box_event ?hg (N := 4) ?hd (cs := #[.int .i64 8, .int .i64 x1, .int .i64 x2, .int .i64 x3, .int .i64 x4]) (t := 37) ?hr ?_; (case hd => rfl); (case hg => rfl); (case hr => first | (go_simp; done) | (go_simp; rfl)); intro bx hg w1 hbox hb; replace HB := Aside0.mk (below_step HB.out hb); replace OUT := Aside0.mk (Kd.R_below OUT.out hb); have BX := Aside0.mk hbox; clear hb hbox hg; obtain ⟨b0, b1, b2, b3, b4⟩ := sp_box BX) | (go_at_call 27; (with_reducible refine (spec_EmitSize.calls _ _ _ _ _ _ _ SIZ.out).mono ?_); rintro e w' ⟨rfl, hb⟩; replace OUT := Aside0.mk (Kd.R_below OUT.out hb); replace BX := Aside0.mk (blk_below BX.out hb); replace HB := Aside0.mk (below_step HB.out hb); clear hb; (try clear b0 b1 b2 b3 b4); obtain ⟨b0, b1, b2, b3, b4⟩ := sp_box BX))
 (try clear b0 b1 b2 b3 b4)
 refine swap3_ (Kd.R_below OUT.out (below_drew1 (Below.refl _ _))) (blk_below BX.out (below_drew1 (Below.refl _ _))) (below_step HB.out (below_drew1 (Below.refl _ _))) ?_
 clear OUT BX HB
 intro OUT BX HB
 refine start_ (n := 20) (S := fun w' => w'.cell? ⟨bx, 0, none⟩ = some (.int .i64 8) ∧ w'.cell? ⟨bx, 1, none⟩ = some (.int .i64 x1) ∧ w'.cell? ⟨bx, 2, none⟩ = some (.int .i64 x2) ∧ w'.cell? ⟨bx, 3, none⟩ = some (.int .i64 x3) ∧ w'.cell? ⟨bx, 4, none⟩ = some (.int .i64 x4)) (ds := []) (tf_ 0 20) (by kernel_rfl) rfl rfl (sp_box BX) (fun hHeld => ?_)
 generalize World.drew _ = w1 at OUT BX HB hHeld ⊢
 refine pureP_ (i := 0) (N := some 15) (tf_ 1 19) (by kernel_rfl) (h := ?_)
 refine pureP_ (i := 1) (N := some 16) (tf_ 2 18) (by kernel_rfl) (h := ?_)
 refine pureP_ (i := 3) (N := some 18) #[true, true, false, true, false, false, false, false, false, false, false, false, false, false, false, false, false, false, false, false] (by kernel_rfl) (h := ?_)
 refine pureP_ (i := 4) (N := some 19) #[true, true, false, true, true, false, false, false, false, false, false, false, false, false, false, false, false, false, false, false] (by kernel_rfl) (h := ?_)
 refine pureP_ (i := 6) (N := some 21) #[true, true, false, true, true, false, true, false, false, false, false, false, false, false, false, false, false, false, false, false] (by kernel_rfl) (h := ?_)
 refine pureP_ (i := 7) (N := some 22) #[true, true, false, true, true, false, true, true, false, false, false, false, false, false, false, false, false, false, false, false] (by kernel_rfl) (h := ?_)
 refine pureP_ (i := 9) (N := some 24) #[true, true, false, true, true, false, true, true, false, true, false, false, false, false, false, false, false, false, false, false] (by kernel_rfl) (h := ?_)
 refine pureP_ (i := 10) (N := some 25) #[true, true, false, true, true, false, true, true, false, true, true, false, false, false, false, false, false, false, false, false] (by kernel_rfl) (h := ?_)
 refine pureP_ (i := 12) (N := some 27) #[true, true, false, true, true, false, true, true, false, true, true, false, true, false, false, false, false, false, false, false] (by kernel_rfl) (h := ?_)
 refine pureP_ (i := 14) (N := some 29) #[true, true, false, true, true, false, true, true, false, true, true, false, true, false, true, false, false, false, false, false] (by kernel_rfl) (h := ?_)
 refine pureP_ (i := 15) (N := some 30) #[true, true, false, true, true, false, true, true, false, true, true, false, true, false, true, true, false, false, false, false] (by kernel_rfl) (h := ?_)
 refine takeP_ (i := 13) (N := some 28) #[true, true, false, true, true, false, true, true, false, true, true, false, true, true, true, true, false, false, false, false] (by kernel_rfl) hHeld (hy := Or.inl ⟨by rfl, att14_0_4⟩) (h := ?_)
 refine pureP_ (i := 16) (N := some 31) #[true, true, false, true, true, false, true, true, false, true, true, false, true, true, true, true, true, false, false, false] (by kernel_rfl) (h := ?_)
 refine one_ (i := 2) (N := some 17) #[true, true, true, true, true, false, true, true, false, true, true, false, true, true, true, true, true, false, false, false] rfl rfl (by kernel_rfl) (by decide) (fun K hK => ?_)
 refine goes_ Try.func175 (by kernel_rfl) rfl #[.int .i64 b, .int .i64 fr] (by rfl) rfl rfl atgM_ ?_
 with_reducible refine (spec_l10Lock.calls _ _ _ _ (espec_l10Lock _ _)).mono ?_
 rintro e w' ⟨v_, rfl, hr, hb⟩
 refine ⟨_, rfl, ?_⟩
 have TM_ := Aside0.mk (Kd.R_lower hr HB.out.size)
 clear hr
 replace OUT := Aside0.mk (Kd.R_below OUT.out hb)
 replace BX := Aside0.mk (blk_below BX.out hb)
 replace HB := Aside0.mk (below_step HB.out hb)
 clear hb
 (try clear b0 b1 b2 b3 b4)
 obtain ⟨b0, b1, b2, b3, b4⟩ := sp_box BX
 clear OUT
 obtain ⟨y0, E0⟩ : ∃ y, Aside0 (y = spLock b fr) := ⟨_, ⟨rfl⟩⟩
 have L0 := Aside0.mk (show y0.length ≤ 10 from by rw [E0.out, spLock_len]; omega)
 have OUT := Aside0.mk (show Kd.R k46 46 _ w0.heap.size (fun _ => True) _ y0 from by rw [E0.out]; exact TM_.out)
 clear TM_
 obtain ⟨Ao, co, eo⟩ := Kd.R_slice OUT.out
 subst eo
 (try clear b0 b1 b2 b3 b4)
 refine hK.out _ _ (sp_box BX) (fun hHeld => ?_)
 clear hK K
 refine normS_ (N := some 17) (h := ?_)
 refine one_ (i := 5) (N := some 20) #[true, true, true, true, true, true, true, true, false, true, true, false, true, true, true, true, true, false, false, false] rfl rfl (by kernel_rfl) (by decide) (fun K hK => ?_)
 refine goes_ Try.func177 (by kernel_rfl) rfl #[.int .i64 5, .int .i64 (wrap64 (b + 2))] (by rfl) rfl rfl atgM_ ?_
 with_reducible refine (spec_l10Load.calls _ _ _ _ _ _ _ _ (espec_l10Load _ _)).mono ?_
 rintro e w' ⟨rfl, hb⟩
 refine ⟨_, rfl, ?_⟩
 replace OUT := Aside0.mk (Kd.R_below OUT.out hb)
 replace BX := Aside0.mk (blk_below BX.out hb)
 replace HB := Aside0.mk (below_step HB.out hb)
 clear hb
 (try clear b0 b1 b2 b3 b4)
 obtain ⟨b0, b1, b2, b3, b4⟩ := sp_box BX
 (try clear b0 b1 b2 b3 b4)
 refine hK.out _ _ (sp_box BX) (fun hHeld => ?_)
 clear hK K
 refine normS_ (N := some 20) (h := ?_)
 refine one_ (i := 8) (N := some 23) #[true, true, true, true, true, true, true, true, true, true, true, false, true, true, true, true, true, false, false, false] rfl rfl (by kernel_rfl) (by decide) (fun K hK => ?_)
 refine goes_ Try.func110 (by kernel_rfl) rfl #[.int .i64 5, .int .i64 (wrap64 (fr + 22))] (by rfl) rfl rfl atgM_ ?_
 with_reducible refine (spec_l10Zero.calls _ _ _ _ _ _ _ _ (espec_l10Zero _ _)).mono ?_
 rintro e w' ⟨rfl, hb⟩
 refine ⟨_, rfl, ?_⟩
 replace OUT := Aside0.mk (Kd.R_below OUT.out hb)
 replace BX := Aside0.mk (blk_below BX.out hb)
 replace HB := Aside0.mk (below_step HB.out hb)
 clear hb
 (try clear b0 b1 b2 b3 b4)
 obtain ⟨b0, b1, b2, b3, b4⟩ := sp_box BX
 (try clear b0 b1 b2 b3 b4)
 refine hK.out _ _ (sp_box BX) (fun hHeld => ?_)
 clear hK K
 refine normS_ (N := some 23) (h := ?_)
 refine one_ (i := 11) (N := some 26) (tf_ 17 3) rfl rfl (by kernel_rfl) (by decide) (fun K hK => ?_)
 refine goes_ Try.func177 (by kernel_rfl) rfl #[.int .i64 4, .int .i64 (wrap64 (b + 1))] (by rfl) rfl rfl atgM_ ?_
 with_reducible refine (spec_l10Load.calls _ _ _ _ _ _ _ _ (espec_l10Load _ _)).mono ?_
 rintro e w' ⟨rfl, hb⟩
 refine ⟨_, rfl, ?_⟩
 replace OUT := Aside0.mk (Kd.R_below OUT.out hb)
 replace BX := Aside0.mk (blk_below BX.out hb)
 replace HB := Aside0.mk (below_step HB.out hb)
 clear hb
 (try clear b0 b1 b2 b3 b4)
 obtain ⟨b0, b1, b2, b3, b4⟩ := sp_box BX
 (try clear b0 b1 b2 b3 b4)
 refine hK.out _ _ (sp_box BX) (fun hHeld => ?_)
 clear hK K
 refine normS_ (N := some 26) (h := ?_)
 refine one_ (i := 17) (N := some 32) (tf_ 18 2) rfl rfl (by kernel_rfl) (by decide) (fun K hK => ?_)
 refine Kd.R_lit_step k46 _ 46 ?hg (N := 32) ?hd (xs := ([(⟨5, 5, -1, 0, wrap64 (b + 2)⟩ : S46), (⟨11, 0, 5, 0, wrap64 (fr + 22)⟩ : S46), (⟨5, 4, -1, 0, wrap64 (b + 1)⟩ : S46), (⟨5, x1, 4, 0, wrap64 (b + 4)⟩ : S46)] : List S46)) (inner := [.int .i64 5, .int .i64 5, .int .i64 (-1), .int .i64 0, .int .i64 (wrap64 (b + 2)), .int .i64 11, .int .i64 0, .int .i64 5, .int .i64 0, .int .i64 (wrap64 (fr + 22)), .int .i64 5, .int .i64 4, .int .i64 (-1), .int .i64 0, .int .i64 (wrap64 (b + 1)), .int .i64 5, .int .i64 x1, .int .i64 4, .int .i64 0, .int .i64 (wrap64 (b + 4))]) (ok := fun _ => True) (okp := fun _ => True) ?hr ?hp (fun _ hk => hk) trivial (Below.refl _ _) (Nat.le_refl _) (by simp) ?_
 (case hd => rfl)
 (case hg => rfl)
 (case hr => first | (go_simp; done) | (go_simp; rfl))
 (case hp => exact (Reps.c5 (sp_M ..) (Reps.c5 (sp_M ..) (Reps.c5 (sp_M ..) (Reps.c5 (sp_M ..) (Reps.none _ _))))))
 intro vl wl hr hb hg_ hnew
 clear hg_ hnew
 have TMP := Aside0.mk (Kd.R_lower hr HB.out.size)
 clear hr
 replace OUT := Aside0.mk (Kd.R_below OUT.out hb)
 replace BX := Aside0.mk (blk_below BX.out hb)
 replace HB := Aside0.mk (below_step HB.out hb)
 clear hb
 (try clear b0 b1 b2 b3 b4)
 obtain ⟨b0, b1, b2, b3, b4⟩ := sp_box BX
 obtain ⟨At, ct, et⟩ := Kd.R_slice TMP.out
 subst et
 (try clear b0 b1 b2 b3 b4)
 refine hK.out _ _ (sp_box BX) (fun hHeld => ?_)
 clear hK K
 refine normS_ (N := some 32) (h := ?_)
 refine one_ (i := 18) (N := some 33) (tf_ 19 1) rfl rfl (by kernel_rfl) (by decide) (fun K hK => ?_)
 refine Kd.R_append_rows_step k46 (w0 := w0) w0.heap.size (by rfl) (.tmp 17) (.tmp 32) 40 46 (.agg #[(.int .i64 0), (.int .i64 0), (.int .i64 0), (.int .i64 0), (.int .i64 0)]) 40 rfl Try.underlying40 info46 rfl (by decide) (by omega) (.slice Ao y0.length co) y0 [⟨5, 5, -1, 0, wrap64 (b + 2)⟩, ⟨11, 0, 5, 0, wrap64 (fr + 22)⟩, ⟨5, 4, -1, 0, wrap64 (b + 1)⟩, ⟨5, x1, 4, 0, wrap64 (b + 4)⟩] _ _ _ (fun _ => True) (fun _ => False) rfl rfl ?aO ?aR (fun _ _ h => h) (fun _ h => h.elim) ?aF ?aB ?aS ?aL ?_
 (case aO => exact OUT.out)
 (case aR => exact (Kd.R_reads' TMP.out).2.2)
 (case aF => exact (fun _ _ => trivial))
 (case aB => exact HB.out)
 (case aS => exact HB.out.size)
 (case aL => have := L0.out; (try simp only [List.length_cons, List.length_nil, spShut_len, spLet_len]); omega)
 intro va wa ho hb hg hat
 replace BX := Aside0.mk (blk_grown BX.out hg (Kd.R_ne OUT.out BX.out (by decide)))
 obtain ⟨y1, E1⟩ : ∃ y, Aside0 (y = y0 ++ [⟨5, 5, -1, 0, wrap64 (b + 2)⟩, ⟨11, 0, 5, 0, wrap64 (fr + 22)⟩, ⟨5, 4, -1, 0, wrap64 (b + 1)⟩, ⟨5, x1, 4, 0, wrap64 (b + 4)⟩]) := ⟨_, ⟨rfl⟩⟩
 have L1 := Aside0.mk (show y1.length ≤ 20 from by rw [E1.out, List.length_append]; have := L0.out; (try simp only [List.length_cons, List.length_nil, spShut_len, spLet_len]); omega)
 replace OUT := Aside0.mk (show Kd.R k46 46 _ w0.heap.size (fun _ => True) _ y1 from by rw [E1.out]; exact ho)
 replace HB := Aside0.mk hb
 clear ho hb hg hat TMP
 (try clear b0 b1 b2 b3 b4)
 obtain ⟨b0, b1, b2, b3, b4⟩ := sp_box BX
 obtain ⟨Ao, co, eo⟩ := Kd.R_slice OUT.out
 subst eo
 (try clear b0 b1 b2 b3 b4)
 refine hK.out _ _ (sp_box BX) (fun hHeld => ?_)
 clear hK K
 refine normS_ (N := some 33) (h := ?_)
 refine pureP_ (i := 19) (N := some 10) (tf_ 20 0) (by kernel_rfl) (h := ?_)
 refine done_ (by kernel_rfl) ?_
 clear hHeld
 obtain ⟨b0, b1, b2, b3, b4⟩ := sp_box BX
 go_wp2_with (first | (go_at_call 107; (with_reducible refine (spec_l10Set.calls _ _ _ _ _ _ _ _ (espec_l10Set _ _)).mono ?_); rintro e w' ⟨rfl, hb⟩; replace OUT := Aside0.mk (Kd.R_below OUT.out hb); replace BX := Aside0.mk (blk_below BX.out hb); replace HB := Aside0.mk (below_step HB.out hb); clear hb; (try clear b0 b1 b2 b3 b4); obtain ⟨b0, b1, b2, b3, b4⟩ := sp_box BX) | (go_at_call 108; (with_reducible refine (spec_l10Three.calls _ _ _ _ _ _ _ _ _ _ (espec_l10Three _ _ _ _)).mono ?_); rintro e w' ⟨rfl, hb⟩; replace OUT := Aside0.mk (Kd.R_below OUT.out hb); replace BX := Aside0.mk (blk_below BX.out hb); replace HB := Aside0.mk (below_step HB.out hb); clear hb; (try clear b0 b1 b2 b3 b4); obtain ⟨b0, b1, b2, b3, b4⟩ := sp_box BX) | (go_at_call 110; (with_reducible refine (spec_l10Zero.calls _ _ _ _ _ _ _ _ (espec_l10Zero _ _)).mono ?_); rintro e w' ⟨rfl, hb⟩; replace OUT := Aside0.mk (Kd.R_below OUT.out hb); replace BX := Aside0.mk (blk_below BX.out hb); replace HB := Aside0.mk (below_step HB.out hb); clear hb; (try clear b0 b1 b2 b3 b4); obtain ⟨b0, b1, b2, b3, b4⟩ := sp_box BX) | (go_at_call 109; (with_reducible refine (spec_l10Jump.calls _ _ _ _ _ _ _ (espec_l10Jump _)).mono ?_); rintro e w' ⟨rfl, hb⟩; replace OUT := Aside0.mk (Kd.R_below OUT.out hb); replace BX := Aside0.mk (blk_below BX.out hb); replace HB := Aside0.mk (below_step HB.out hb); clear hb; (try clear b0 b1 b2 b3 b4); obtain ⟨b0, b1, b2, b3, b4⟩ := sp_box BX) | ((with_reducible refine gate_dst (N := 48) rfl ?_); refine Kd.R_lit k46 _ 46 ?hg (N := 48) ?hd (xs := ([(⟨1, 7, 0, 0, 1⟩ : S46), (⟨2, 4, 4, 7, 0⟩ : S46), (⟨3, 5, 5, 7, 0⟩ : S46), (⟨1, 7, 0, 0, c⟩ : S46), (⟨4, 6, 4, 7, 0⟩ : S46), (⟨11, 0, 6, 0, wrap64 (fr + 15)⟩ : S46), (⟨10, 0, 0, 0, wrap64 (fr + 16)⟩ : S46), (⟨1, 4, 0, 0, 0⟩ : S46)] : List S46)) (inner := [.int .i64 1, .int .i64 7, .int .i64 0, .int .i64 0, .int .i64 1, .int .i64 2, .int .i64 4, .int .i64 4, .int .i64 7, .int .i64 0, .int .i64 3, .int .i64 5, .int .i64 5, .int .i64 7, .int .i64 0, .int .i64 1, .int .i64 7, .int .i64 0, .int .i64 0, .int .i64 c, .int .i64 4, .int .i64 6, .int .i64 4, .int .i64 7, .int .i64 0, .int .i64 11, .int .i64 0, .int .i64 6, .int .i64 0, .int .i64 (wrap64 (fr + 15)), .int .i64 10, .int .i64 0, .int .i64 0, .int .i64 0, .int .i64 (wrap64 (fr + 16)), .int .i64 1, .int .i64 4, .int .i64 0, .int .i64 0, .int .i64 0]) (ok := fun _ => True) (okp := fun _ => True) ?hr ?hp (fun _ hk => hk) trivial (Below.refl _ _) (Nat.le_refl _) (by simp) ?_; (case hd => rfl); (case hg => rfl); (case hr => first | (go_simp; done) | (go_simp; rfl)); (case hp => exact (Reps.c5 (sp_M ..) (Reps.c5 (sp_M ..) (Reps.c5 (sp_M ..) (Reps.c5 (sp_M ..) (Reps.c5 (sp_M ..) (Reps.c5 (sp_M ..) (Reps.c5 (sp_M ..) (Reps.c5 (sp_M ..) (Reps.none _ _)))))))))); intro vl wl hr hb hg_ hnew; clear hg_ hnew; have TMP := Aside0.mk (Kd.R_lower hr HB.out.size); clear hr; replace OUT := Aside0.mk (Kd.R_below OUT.out hb); replace BX := Aside0.mk (blk_below BX.out hb); replace HB := Aside0.mk (below_step HB.out hb); clear hb; (try clear b0 b1 b2 b3 b4); obtain ⟨b0, b1, b2, b3, b4⟩ := sp_box BX; obtain ⟨At, ct, et⟩ := Kd.R_slice TMP.out; subst et) | ((with_reducible refine gate_builtin (b := .append) (xs := #[.tmp 34, .tmp 48]) rfl ?_); at_builtin; refine Kd.R_append_rows k46 (w0 := w0) w0.heap.size rfl (.tmp 34) (.tmp 48) 40 46 (.agg #[(.int .i64 0), (.int .i64 0), (.int .i64 0), (.int .i64 0), (.int .i64 0)]) 40 rfl Try.underlying40 info46 rfl (by decide) (by omega) (.slice Ao y1.length co) y1 [⟨1, 7, 0, 0, 1⟩, ⟨2, 4, 4, 7, 0⟩, ⟨3, 5, 5, 7, 0⟩, ⟨1, 7, 0, 0, c⟩, ⟨4, 6, 4, 7, 0⟩, ⟨11, 0, 6, 0, wrap64 (fr + 15)⟩, ⟨10, 0, 0, 0, wrap64 (fr + 16)⟩, ⟨1, 4, 0, 0, 0⟩] _ _ _ (fun _ => True) (fun _ => False) rfl rfl ?aO ?aR (fun _ _ h => h) (fun _ h => h.elim) ?aF ?aB ?aS ?aL ?_; (case aO => exact OUT.out); (case aR => exact (Kd.R_reads' TMP.out).2.2); (case aF => exact (fun _ _ => trivial)); (case aB => exact HB.out); (case aS => exact HB.out.size); (case aL => have := L1.out; (try simp only [List.length_cons, List.length_nil, spShut_len, spLet_len]); omega); intro va wa ho hb hg hat; replace BX := Aside0.mk (blk_grown BX.out hg (Kd.R_ne OUT.out BX.out (by decide))); obtain ⟨y2, E2⟩ : ∃ y, Aside0 (y = y1 ++ [⟨1, 7, 0, 0, 1⟩, ⟨2, 4, 4, 7, 0⟩, ⟨3, 5, 5, 7, 0⟩, ⟨1, 7, 0, 0, c⟩, ⟨4, 6, 4, 7, 0⟩, ⟨11, 0, 6, 0, wrap64 (fr + 15)⟩, ⟨10, 0, 0, 0, wrap64 (fr + 16)⟩, ⟨1, 4, 0, 0, 0⟩]) := ⟨_, ⟨rfl⟩⟩; have L2 := Aside0.mk (show y2.length ≤ 30 from by rw [E2.out, List.length_append]; have := L1.out; (try simp only [List.length_cons, List.length_nil, spShut_len, spLet_len]); omega); replace OUT := Aside0.mk (show Kd.R k46 46 _ w0.heap.size (fun _ => True) _ y2 from by rw [E2.out]; exact ho); replace HB := Aside0.mk hb; clear ho hb hg hat TMP; (try clear b0 b1 b2 b3 b4); obtain ⟨b0, b1, b2, b3, b4⟩ := sp_box BX; obtain ⟨Ao, co, eo⟩ := Kd.R_slice OUT.out; subst eo) | (go_at_call 178; (with_reducible refine (spec_l10Store.calls _ _ _ _ _ _ _ _ (espec_l10Store _ _)).mono ?_); rintro e w' ⟨rfl, hb⟩; replace OUT := Aside0.mk (Kd.R_below OUT.out hb); replace BX := Aside0.mk (blk_below BX.out hb); replace HB := Aside0.mk (below_step HB.out hb); clear hb; (try clear b0 b1 b2 b3 b4); obtain ⟨b0, b1, b2, b3, b4⟩ := sp_box BX) | ((with_reducible refine gate_dst (N := 57) rfl ?_); refine Kd.R_lit k46 _ 46 ?hg (N := 57) ?hd (xs := ([(⟨6, 0, -1, 4, wrap64 (b + 1)⟩ : S46), (⟨6, 0, -1, 5, wrap64 (b + 2)⟩ : S46)] : List S46)) (inner := [.int .i64 6, .int .i64 0, .int .i64 (-1), .int .i64 4, .int .i64 (wrap64 (b + 1)), .int .i64 6, .int .i64 0, .int .i64 (-1), .int .i64 5, .int .i64 (wrap64 (b + 2))]) (ok := fun _ => True) (okp := fun _ => True) ?hr ?hp (fun _ hk => hk) trivial (Below.refl _ _) (Nat.le_refl _) (by simp) ?_; (case hd => rfl); (case hg => rfl); (case hr => first | (go_simp; done) | (go_simp; rfl)); (case hp => exact (Reps.c5 (sp_M ..) (Reps.c5 (sp_M ..) (Reps.none _ _)))); intro vl wl hr hb hg_ hnew; clear hg_ hnew; have TMP := Aside0.mk (Kd.R_lower hr HB.out.size); clear hr; replace OUT := Aside0.mk (Kd.R_below OUT.out hb); replace BX := Aside0.mk (blk_below BX.out hb); replace HB := Aside0.mk (below_step HB.out hb); clear hb; (try clear b0 b1 b2 b3 b4); obtain ⟨b0, b1, b2, b3, b4⟩ := sp_box BX; obtain ⟨At, ct, et⟩ := Kd.R_slice TMP.out; subst et) | ((with_reducible refine gate_builtin (b := .append) (xs := #[.tmp 50, .tmp 57]) rfl ?_); at_builtin; refine Kd.R_append_rows k46 (w0 := w0) w0.heap.size rfl (.tmp 50) (.tmp 57) 40 46 (.agg #[(.int .i64 0), (.int .i64 0), (.int .i64 0), (.int .i64 0), (.int .i64 0)]) 40 rfl Try.underlying40 info46 rfl (by decide) (by omega) (.slice Ao y2.length co) y2 [⟨6, 0, -1, 4, wrap64 (b + 1)⟩, ⟨6, 0, -1, 5, wrap64 (b + 2)⟩] _ _ _ (fun _ => True) (fun _ => False) rfl rfl ?aO ?aR (fun _ _ h => h) (fun _ h => h.elim) ?aF ?aB ?aS ?aL ?_; (case aO => exact OUT.out); (case aR => exact (Kd.R_reads' TMP.out).2.2); (case aF => exact (fun _ _ => trivial)); (case aB => exact HB.out); (case aS => exact HB.out.size); (case aL => have := L2.out; (try simp only [List.length_cons, List.length_nil, spShut_len, spLet_len]); omega); intro va wa ho hb hg hat; replace BX := Aside0.mk (blk_grown BX.out hg (Kd.R_ne OUT.out BX.out (by decide))); obtain ⟨y3, E3⟩ : ∃ y, Aside0 (y = y2 ++ [⟨6, 0, -1, 4, wrap64 (b + 1)⟩, ⟨6, 0, -1, 5, wrap64 (b + 2)⟩]) := ⟨_, ⟨rfl⟩⟩; have L3 := Aside0.mk (show y3.length ≤ 40 from by rw [E3.out, List.length_append]; have := L2.out; (try simp only [List.length_cons, List.length_nil, spShut_len, spLet_len]); omega); replace OUT := Aside0.mk (show Kd.R k46 46 _ w0.heap.size (fun _ => True) _ y3 from by rw [E3.out]; exact ho); replace HB := Aside0.mk hb; clear ho hb hg hat TMP; (try clear b0 b1 b2 b3 b4); obtain ⟨b0, b1, b2, b3, b4⟩ := sp_box BX; obtain ⟨Ao, co, eo⟩ := Kd.R_slice OUT.out; subst eo) | (go_at_call 179; (with_reducible refine (spec_l10Let.calls _ _ _ (espec_l10Let _)).mono ?_); rintro e w' ⟨v_, rfl, hr, hb⟩; have TM_ := Aside0.mk (Kd.R_lower hr HB.out.size); clear hr; replace OUT := Aside0.mk (Kd.R_below OUT.out hb); replace BX := Aside0.mk (blk_below BX.out hb); replace HB := Aside0.mk (below_step HB.out hb); clear hb; (try clear b0 b1 b2 b3 b4); obtain ⟨b0, b1, b2, b3, b4⟩ := sp_box BX; have TMP := TM_; clear TM_; obtain ⟨At, ct, et⟩ := Kd.R_slice TMP.out; subst et) | ((with_reducible refine gate_builtin (b := .append) (xs := #[.tmp 59, .tmp 61]) rfl ?_); at_builtin; refine Kd.R_append_rows k46 (w0 := w0) w0.heap.size rfl (.tmp 59) (.tmp 61) 40 46 (.agg #[(.int .i64 0), (.int .i64 0), (.int .i64 0), (.int .i64 0), (.int .i64 0)]) 40 rfl Try.underlying40 info46 rfl (by decide) (by omega) (.slice Ao y3.length co) y3 (spLet b) _ _ _ (fun _ => True) (fun _ => False) rfl rfl ?aO ?aR (fun _ _ h => h) (fun _ h => h.elim) ?aF ?aB ?aS ?aL ?_; (case aO => exact OUT.out); (case aR => exact (Kd.R_reads' TMP.out).2.2); (case aF => exact (fun _ _ => trivial)); (case aB => exact HB.out); (case aS => exact HB.out.size); (case aL => have := L3.out; (try simp only [List.length_cons, List.length_nil, spShut_len, spLet_len]); omega); intro va wa ho hb hg hat; replace BX := Aside0.mk (blk_grown BX.out hg (Kd.R_ne OUT.out BX.out (by decide))); obtain ⟨y4, E4⟩ : ∃ y, Aside0 (y = y3 ++ spLet b) := ⟨_, ⟨rfl⟩⟩; have L4 := Aside0.mk (show y4.length ≤ 50 from by rw [E4.out, List.length_append]; have := L3.out; (try simp only [List.length_cons, List.length_nil, spShut_len, spLet_len]); omega); replace OUT := Aside0.mk (show Kd.R k46 46 _ w0.heap.size (fun _ => True) _ y4 from by rw [E4.out]; exact ho); replace HB := Aside0.mk hb; clear ho hb hg hat TMP; (try clear b0 b1 b2 b3 b4); obtain ⟨b0, b1, b2, b3, b4⟩ := sp_box BX; obtain ⟨Ao, co, eo⟩ := Kd.R_slice OUT.out; subst eo) | (go_at_call 177; (with_reducible refine (spec_l10Load.calls _ _ _ _ _ _ _ _ (espec_l10Load _ _)).mono ?_); rintro e w' ⟨rfl, hb⟩; replace OUT := Aside0.mk (Kd.R_below OUT.out hb); replace BX := Aside0.mk (blk_below BX.out hb); replace HB := Aside0.mk (below_step HB.out hb); clear hb; (try clear b0 b1 b2 b3 b4); obtain ⟨b0, b1, b2, b3, b4⟩ := sp_box BX) | ((with_reducible refine gate_dst (N := 72) rfl ?_); refine Kd.R_lit k46 _ 46 ?hg (N := 72) ?hd (xs := ([(⟨1, x3, 0, 0, 1⟩ : S46), (⟨10, 0, 0, 0, wrap64 (fr + 32)⟩ : S46), (⟨5, 4, -1, 0, wrap64 (b + 3)⟩ : S46)] : List S46)) (inner := [.int .i64 1, .int .i64 x3, .int .i64 0, .int .i64 0, .int .i64 1, .int .i64 10, .int .i64 0, .int .i64 0, .int .i64 0, .int .i64 (wrap64 (fr + 32)), .int .i64 5, .int .i64 4, .int .i64 (-1), .int .i64 0, .int .i64 (wrap64 (b + 3))]) (ok := fun _ => True) (okp := fun _ => True) ?hr ?hp (fun _ hk => hk) trivial (Below.refl _ _) (Nat.le_refl _) (by simp) ?_; (case hd => rfl); (case hg => rfl); (case hr => first | (go_simp; done) | (go_simp; rfl)); (case hp => exact (Reps.c5 (sp_M ..) (Reps.c5 (sp_M ..) (Reps.c5 (sp_M ..) (Reps.none _ _))))); intro vl wl hr hb hg_ hnew; clear hg_ hnew; have TMP := Aside0.mk (Kd.R_lower hr HB.out.size); clear hr; replace OUT := Aside0.mk (Kd.R_below OUT.out hb); replace BX := Aside0.mk (blk_below BX.out hb); replace HB := Aside0.mk (below_step HB.out hb); clear hb; (try clear b0 b1 b2 b3 b4); obtain ⟨b0, b1, b2, b3, b4⟩ := sp_box BX; obtain ⟨At, ct, et⟩ := Kd.R_slice TMP.out; subst et) | ((with_reducible refine gate_builtin (b := .append) (xs := #[.tmp 63, .tmp 72]) rfl ?_); at_builtin; refine Kd.R_append_rows k46 (w0 := w0) w0.heap.size rfl (.tmp 63) (.tmp 72) 40 46 (.agg #[(.int .i64 0), (.int .i64 0), (.int .i64 0), (.int .i64 0), (.int .i64 0)]) 40 rfl Try.underlying40 info46 rfl (by decide) (by omega) (.slice Ao y4.length co) y4 [⟨1, x3, 0, 0, 1⟩, ⟨10, 0, 0, 0, wrap64 (fr + 32)⟩, ⟨5, 4, -1, 0, wrap64 (b + 3)⟩] _ _ _ (fun _ => True) (fun _ => False) rfl rfl ?aO ?aR (fun _ _ h => h) (fun _ h => h.elim) ?aF ?aB ?aS ?aL ?_; (case aO => exact OUT.out); (case aR => exact (Kd.R_reads' TMP.out).2.2); (case aF => exact (fun _ _ => trivial)); (case aB => exact HB.out); (case aS => exact HB.out.size); (case aL => have := L4.out; (try simp only [List.length_cons, List.length_nil, spShut_len, spLet_len]); omega); intro va wa ho hb hg hat; replace BX := Aside0.mk (blk_grown BX.out hg (Kd.R_ne OUT.out BX.out (by decide))); obtain ⟨y5, E5⟩ : ∃ y, Aside0 (y = y4 ++ [⟨1, x3, 0, 0, 1⟩, ⟨10, 0, 0, 0, wrap64 (fr + 32)⟩, ⟨5, 4, -1, 0, wrap64 (b + 3)⟩]) := ⟨_, ⟨rfl⟩⟩; have L5 := Aside0.mk (show y5.length ≤ 60 from by rw [E5.out, List.length_append]; have := L4.out; (try simp only [List.length_cons, List.length_nil, spShut_len, spLet_len]); omega); replace OUT := Aside0.mk (show Kd.R k46 46 _ w0.heap.size (fun _ => True) _ y5 from by rw [E5.out]; exact ho); replace HB := Aside0.mk hb; clear ho hb hg hat TMP; (try clear b0 b1 b2 b3 b4); obtain ⟨b0, b1, b2, b3, b4⟩ := sp_box BX; obtain ⟨Ao, co, eo⟩ := Kd.R_slice OUT.out; subst eo) | ((with_reducible refine gate_builtin (b := .append) (xs := #[.tmp 74, .tmp 76]) rfl ?_); at_builtin; refine Kd.R_append_rows k46 (w0 := w0) w0.heap.size rfl (.tmp 74) (.tmp 76) 40 46 (.agg #[(.int .i64 0), (.int .i64 0), (.int .i64 0), (.int .i64 0), (.int .i64 0)]) 40 rfl Try.underlying40 info46 rfl (by decide) (by omega) (.slice Ao y5.length co) y5 (spLet b) _ _ _ (fun _ => True) (fun _ => False) rfl rfl ?aO ?aR (fun _ _ h => h) (fun _ h => h.elim) ?aF ?aB ?aS ?aL ?_; (case aO => exact OUT.out); (case aR => exact (Kd.R_reads' TMP.out).2.2); (case aF => exact (fun _ _ => trivial)); (case aB => exact HB.out); (case aS => exact HB.out.size); (case aL => have := L5.out; (try simp only [List.length_cons, List.length_nil, spShut_len, spLet_len]); omega); intro va wa ho hb hg hat; replace BX := Aside0.mk (blk_grown BX.out hg (Kd.R_ne OUT.out BX.out (by decide))); obtain ⟨y6, E6⟩ : ∃ y, Aside0 (y = y5 ++ spLet b) := ⟨_, ⟨rfl⟩⟩; have L6 := Aside0.mk (show y6.length ≤ 70 from by rw [E6.out, List.length_append]; have := L5.out; (try simp only [List.length_cons, List.length_nil, spShut_len, spLet_len]); omega); replace OUT := Aside0.mk (show Kd.R k46 46 _ w0.heap.size (fun _ => True) _ y6 from by rw [E6.out]; exact ho); replace HB := Aside0.mk hb; clear ho hb hg hat TMP; (try clear b0 b1 b2 b3 b4); obtain ⟨b0, b1, b2, b3, b4⟩ := sp_box BX; obtain ⟨Ao, co, eo⟩ := Kd.R_slice OUT.out; subst eo))
 (try clear b0 b1 b2 b3 b4)
 refine swap3_ (Kd.R_below OUT.out (below_drew1 (Below.refl _ _))) (blk_below BX.out (below_drew1 (Below.refl _ _))) (below_step HB.out (below_drew1 (Below.refl _ _))) ?_
 clear OUT BX HB
 intro OUT BX HB
 refine start_ (n := 10) (S := fun w' => w'.cell? ⟨bx, 0, none⟩ = some (.int .i64 8) ∧ w'.cell? ⟨bx, 1, none⟩ = some (.int .i64 x1) ∧ w'.cell? ⟨bx, 2, none⟩ = some (.int .i64 x2) ∧ w'.cell? ⟨bx, 3, none⟩ = some (.int .i64 x3) ∧ w'.cell? ⟨bx, 4, none⟩ = some (.int .i64 x4)) (ds := []) (tf_ 0 10) (by kernel_rfl) rfl rfl (sp_box BX) (fun hHeld => ?_)
 generalize World.drew _ = w1 at OUT BX HB hHeld ⊢
 refine pureP_ (i := 0) (N := some 78) (tf_ 1 9) (by kernel_rfl) (h := ?_)
 refine pureP_ (i := 1) (N := some 79) (tf_ 2 8) (by kernel_rfl) (h := ?_)
 refine pureP_ (i := 2) (N := some 80) (tf_ 3 7) (by kernel_rfl) (h := ?_)
 refine pureP_ (i := 4) (N := some 82) #[true, true, true, false, true, false, false, false, false, false] (by kernel_rfl) (h := ?_)
 refine takeP_ (i := 5) (N := some 83) #[true, true, true, false, true, true, false, false, false, false] (by kernel_rfl) hHeld (hy := Or.inl ⟨by rfl, att14_0_4⟩) (h := ?_)
 refine one_ (i := 3) (N := some 81) (tf_ 6 4) rfl rfl (by kernel_rfl) (by decide) (fun K hK => ?_)
 refine goes_ Try.func110 (by kernel_rfl) rfl #[.int .i64 4, .int .i64 (wrap64 (fr + 29))] (by rfl) rfl rfl atgM_ ?_
 with_reducible refine (spec_l10Zero.calls _ _ _ _ _ _ _ _ (espec_l10Zero _ _)).mono ?_
 rintro e w' ⟨rfl, hb⟩
 refine ⟨_, rfl, ?_⟩
 replace OUT := Aside0.mk (Kd.R_below OUT.out hb)
 replace BX := Aside0.mk (blk_below BX.out hb)
 replace HB := Aside0.mk (below_step HB.out hb)
 clear hb
 (try clear b0 b1 b2 b3 b4)
 obtain ⟨b0, b1, b2, b3, b4⟩ := sp_box BX
 (try clear b0 b1 b2 b3 b4)
 refine hK.out _ _ (sp_box BX) (fun hHeld => ?_)
 clear hK K
 refine normS_ (N := some 81) (h := ?_)
 refine one_ (i := 6) (N := some 84) (tf_ 7 3) rfl rfl (by kernel_rfl) (by decide) (fun K hK => ?_)
 refine goes_ Try.func107 (by kernel_rfl) rfl #[.int .i64 x1, .int .i64 0] (by rfl) rfl rfl atgM_ ?_
 with_reducible refine (spec_l10Set.calls _ _ _ _ _ _ _ _ (espec_l10Set _ _)).mono ?_
 rintro e w' ⟨rfl, hb⟩
 refine ⟨_, rfl, ?_⟩
 replace OUT := Aside0.mk (Kd.R_below OUT.out hb)
 replace BX := Aside0.mk (blk_below BX.out hb)
 replace HB := Aside0.mk (below_step HB.out hb)
 clear hb
 (try clear b0 b1 b2 b3 b4)
 obtain ⟨b0, b1, b2, b3, b4⟩ := sp_box BX
 (try clear b0 b1 b2 b3 b4)
 refine hK.out _ _ (sp_box BX) (fun hHeld => ?_)
 clear hK K
 refine normS_ (N := some 84) (h := ?_)
 refine one_ (i := 7) (N := some 85) (tf_ 8 2) rfl rfl (by kernel_rfl) (by decide) (fun K hK => ?_)
 refine Kd.R_lit_step k46 _ 46 ?hg (N := 85) ?hd (xs := ([(⟨11, 0, 4, 0, wrap64 (fr + 29)⟩ : S46), (⟨1, x1, 0, 0, 0⟩ : S46)] : List S46)) (inner := [.int .i64 11, .int .i64 0, .int .i64 4, .int .i64 0, .int .i64 (wrap64 (fr + 29)), .int .i64 1, .int .i64 x1, .int .i64 0, .int .i64 0, .int .i64 0]) (ok := fun _ => True) (okp := fun _ => True) ?hr ?hp (fun _ hk => hk) trivial (Below.refl _ _) (Nat.le_refl _) (by simp) ?_
 (case hd => rfl)
 (case hg => rfl)
 (case hr => first | (go_simp; done) | (go_simp; rfl))
 (case hp => exact (Reps.c5 (sp_M ..) (Reps.c5 (sp_M ..) (Reps.none _ _))))
 intro vl wl hr hb hg_ hnew
 clear hg_ hnew
 have TMP := Aside0.mk (Kd.R_lower hr HB.out.size)
 clear hr
 replace OUT := Aside0.mk (Kd.R_below OUT.out hb)
 replace BX := Aside0.mk (blk_below BX.out hb)
 replace HB := Aside0.mk (below_step HB.out hb)
 clear hb
 (try clear b0 b1 b2 b3 b4)
 obtain ⟨b0, b1, b2, b3, b4⟩ := sp_box BX
 obtain ⟨At, ct, et⟩ := Kd.R_slice TMP.out
 subst et
 (try clear b0 b1 b2 b3 b4)
 refine hK.out _ _ (sp_box BX) (fun hHeld => ?_)
 clear hK K
 refine normS_ (N := some 85) (h := ?_)
 refine one_ (i := 8) (N := some 86) (tf_ 9 1) rfl rfl (by kernel_rfl) (by decide) (fun K hK => ?_)
 refine Kd.R_append_rows_step k46 (w0 := w0) w0.heap.size (by rfl) (.tmp 78) (.tmp 85) 40 46 (.agg #[(.int .i64 0), (.int .i64 0), (.int .i64 0), (.int .i64 0), (.int .i64 0)]) 40 rfl Try.underlying40 info46 rfl (by decide) (by omega) (.slice Ao y6.length co) y6 [⟨11, 0, 4, 0, wrap64 (fr + 29)⟩, ⟨1, x1, 0, 0, 0⟩] _ _ _ (fun _ => True) (fun _ => False) rfl rfl ?aO ?aR (fun _ _ h => h) (fun _ h => h.elim) ?aF ?aB ?aS ?aL ?_
 (case aO => exact OUT.out)
 (case aR => exact (Kd.R_reads' TMP.out).2.2)
 (case aF => exact (fun _ _ => trivial))
 (case aB => exact HB.out)
 (case aS => exact HB.out.size)
 (case aL => have := L6.out; (try simp only [List.length_cons, List.length_nil, spShut_len, spLet_len]); omega)
 intro va wa ho hb hg hat
 replace BX := Aside0.mk (blk_grown BX.out hg (Kd.R_ne OUT.out BX.out (by decide)))
 obtain ⟨y7, E7⟩ : ∃ y, Aside0 (y = y6 ++ [⟨11, 0, 4, 0, wrap64 (fr + 29)⟩, ⟨1, x1, 0, 0, 0⟩]) := ⟨_, ⟨rfl⟩⟩
 have L7 := Aside0.mk (show y7.length ≤ 80 from by rw [E7.out, List.length_append]; have := L6.out; (try simp only [List.length_cons, List.length_nil, spShut_len, spLet_len]); omega)
 replace OUT := Aside0.mk (show Kd.R k46 46 _ w0.heap.size (fun _ => True) _ y7 from by rw [E7.out]; exact ho)
 replace HB := Aside0.mk hb
 clear ho hb hg hat TMP
 (try clear b0 b1 b2 b3 b4)
 obtain ⟨b0, b1, b2, b3, b4⟩ := sp_box BX
 obtain ⟨Ao, co, eo⟩ := Kd.R_slice OUT.out
 subst eo
 (try clear b0 b1 b2 b3 b4)
 refine hK.out _ _ (sp_box BX) (fun hHeld => ?_)
 clear hK K
 refine normS_ (N := some 86) (h := ?_)
 refine pureP_ (i := 9) (N := some 10) (tf_ 10 0) (by kernel_rfl) (h := ?_)
 refine done_ (by kernel_rfl) ?_
 clear hHeld
 obtain ⟨b0, b1, b2, b3, b4⟩ := sp_box BX
 try go_wp2
 (try clear b0 b1 b2 b3 b4)
 refine swap3_ (Kd.R_below OUT.out (below_drew1 (Below.refl _ _))) (blk_below BX.out (below_drew1 (Below.refl _ _))) (below_step HB.out (below_drew1 (Below.refl _ _))) ?_
 clear OUT BX HB
 intro OUT BX HB
 refine start_ (n := 17) (S := fun w' => w'.cell? ⟨bx, 0, none⟩ = some (.int .i64 8) ∧ w'.cell? ⟨bx, 1, none⟩ = some (.int .i64 x1) ∧ w'.cell? ⟨bx, 2, none⟩ = some (.int .i64 x2) ∧ w'.cell? ⟨bx, 3, none⟩ = some (.int .i64 x3) ∧ w'.cell? ⟨bx, 4, none⟩ = some (.int .i64 x4)) (ds := []) (tf_ 0 17) (by kernel_rfl) rfl rfl (sp_box BX) (fun hHeld => ?_)
 generalize World.drew _ = w1 at OUT BX HB hHeld ⊢
 refine pureP_ (i := 0) (N := some 100) (tf_ 1 16) (by kernel_rfl) (h := ?_)
 refine pureP_ (i := 1) (N := some 101) (tf_ 2 15) (by kernel_rfl) (h := ?_)
 refine pureP_ (i := 4) (N := some 104) #[true, true, false, false, true, false, false, false, false, false, false, false, false, false, false, false, false] (by kernel_rfl) (h := ?_)
 refine pureP_ (i := 6) (N := some 106) #[true, true, false, false, true, false, true, false, false, false, false, false, false, false, false, false, false] (by kernel_rfl) (h := ?_)
 refine pureP_ (i := 9) (N := some 109) #[true, true, false, false, true, false, true, false, false, true, false, false, false, false, false, false, false] (by kernel_rfl) (h := ?_)
 refine pureP_ (i := 12) (N := some 112) #[true, true, false, false, true, false, true, false, false, true, false, false, true, false, false, false, false] (by kernel_rfl) (h := ?_)
 refine takeP_ (i := 2) (N := some 102) #[true, true, true, false, true, false, true, false, false, true, false, false, true, false, false, false, false] (by kernel_rfl) hHeld (hy := Or.inl ⟨by rfl, att14_0_4⟩) (h := ?_)
 refine takeP_ (i := 7) (N := some 107) #[true, true, true, false, true, false, true, true, false, true, false, false, true, false, false, false, false] (by kernel_rfl) hHeld (hy := Or.inl ⟨by rfl, att14_0_4⟩) (h := ?_)
 refine takeP_ (i := 10) (N := some 110) #[true, true, true, false, true, false, true, true, false, true, true, false, true, false, false, false, false] (by kernel_rfl) hHeld (hy := Or.inl ⟨by rfl, att14_0_4⟩) (h := ?_)
 refine one_ (i := 3) (N := some 103) #[true, true, true, true, true, false, true, true, false, true, true, false, true, false, false, false, false] rfl rfl (by kernel_rfl) (by decide) (fun K hK => ?_)
 refine goes_ Try.func107 (by kernel_rfl) rfl #[.int .i64 x3, .int .i64 2] (by rfl) rfl rfl atgM_ ?_
 with_reducible refine (spec_l10Set.calls _ _ _ _ _ _ _ _ (espec_l10Set _ _)).mono ?_
 rintro e w' ⟨rfl, hb⟩
 refine ⟨_, rfl, ?_⟩
 replace OUT := Aside0.mk (Kd.R_below OUT.out hb)
 replace BX := Aside0.mk (blk_below BX.out hb)
 replace HB := Aside0.mk (below_step HB.out hb)
 clear hb
 (try clear b0 b1 b2 b3 b4)
 obtain ⟨b0, b1, b2, b3, b4⟩ := sp_box BX
 (try clear b0 b1 b2 b3 b4)
 refine hK.out _ _ (sp_box BX) (fun hHeld => ?_)
 clear hK K
 refine normS_ (N := some 103) (h := ?_)
 refine one_ (i := 5) (N := some 105) #[true, true, true, true, true, true, true, true, false, true, true, false, true, false, false, false, false] rfl rfl (by kernel_rfl) (by decide) (fun K hK => ?_)
 refine goes_ Try.func109 (by kernel_rfl) rfl #[.int .i64 (wrap64 (fr + 32))] (by rfl) rfl rfl atgM_ ?_
 with_reducible refine (spec_l10Jump.calls _ _ _ _ _ _ _ (espec_l10Jump _)).mono ?_
 rintro e w' ⟨rfl, hb⟩
 refine ⟨_, rfl, ?_⟩
 replace OUT := Aside0.mk (Kd.R_below OUT.out hb)
 replace BX := Aside0.mk (blk_below BX.out hb)
 replace HB := Aside0.mk (below_step HB.out hb)
 clear hb
 (try clear b0 b1 b2 b3 b4)
 obtain ⟨b0, b1, b2, b3, b4⟩ := sp_box BX
 (try clear b0 b1 b2 b3 b4)
 refine hK.out _ _ (sp_box BX) (fun hHeld => ?_)
 clear hK K
 refine normS_ (N := some 105) (h := ?_)
 refine one_ (i := 8) (N := some 108) #[true, true, true, true, true, true, true, true, true, true, true, false, true, false, false, false, false] rfl rfl (by kernel_rfl) (by decide) (fun K hK => ?_)
 refine goes_ Try.func107 (by kernel_rfl) rfl #[.int .i64 x1, .int .i64 0] (by rfl) rfl rfl atgM_ ?_
 with_reducible refine (spec_l10Set.calls _ _ _ _ _ _ _ _ (espec_l10Set _ _)).mono ?_
 rintro e w' ⟨rfl, hb⟩
 refine ⟨_, rfl, ?_⟩
 replace OUT := Aside0.mk (Kd.R_below OUT.out hb)
 replace BX := Aside0.mk (blk_below BX.out hb)
 replace HB := Aside0.mk (below_step HB.out hb)
 clear hb
 (try clear b0 b1 b2 b3 b4)
 obtain ⟨b0, b1, b2, b3, b4⟩ := sp_box BX
 (try clear b0 b1 b2 b3 b4)
 refine hK.out _ _ (sp_box BX) (fun hHeld => ?_)
 clear hK K
 refine normS_ (N := some 108) (h := ?_)
 refine one_ (i := 11) (N := some 111) (tf_ 13 4) rfl rfl (by kernel_rfl) (by decide) (fun K hK => ?_)
 refine goes_ Try.func107 (by kernel_rfl) rfl #[.int .i64 x3, .int .i64 0] (by rfl) rfl rfl atgM_ ?_
 with_reducible refine (spec_l10Set.calls _ _ _ _ _ _ _ _ (espec_l10Set _ _)).mono ?_
 rintro e w' ⟨rfl, hb⟩
 refine ⟨_, rfl, ?_⟩
 replace OUT := Aside0.mk (Kd.R_below OUT.out hb)
 replace BX := Aside0.mk (blk_below BX.out hb)
 replace HB := Aside0.mk (below_step HB.out hb)
 clear hb
 (try clear b0 b1 b2 b3 b4)
 obtain ⟨b0, b1, b2, b3, b4⟩ := sp_box BX
 (try clear b0 b1 b2 b3 b4)
 refine hK.out _ _ (sp_box BX) (fun hHeld => ?_)
 clear hK K
 refine normS_ (N := some 111) (h := ?_)
 refine one_ (i := 13) (N := some 113) (tf_ 14 3) rfl rfl (by kernel_rfl) (by decide) (fun K hK => ?_)
 refine goes_ Try.func109 (by kernel_rfl) rfl #[.int .i64 (wrap64 (fr + 32))] (by rfl) rfl rfl atgM_ ?_
 with_reducible refine (spec_l10Jump.calls _ _ _ _ _ _ _ (espec_l10Jump _)).mono ?_
 rintro e w' ⟨rfl, hb⟩
 refine ⟨_, rfl, ?_⟩
 replace OUT := Aside0.mk (Kd.R_below OUT.out hb)
 replace BX := Aside0.mk (blk_below BX.out hb)
 replace HB := Aside0.mk (below_step HB.out hb)
 clear hb
 (try clear b0 b1 b2 b3 b4)
 obtain ⟨b0, b1, b2, b3, b4⟩ := sp_box BX
 (try clear b0 b1 b2 b3 b4)
 refine hK.out _ _ (sp_box BX) (fun hHeld => ?_)
 clear hK K
 refine normS_ (N := some 113) (h := ?_)
 refine one_ (i := 14) (N := some 114) (tf_ 15 2) rfl rfl (by kernel_rfl) (by decide) (fun K hK => ?_)
 refine Kd.R_lit_step k46 _ 46 ?hg (N := 114) ?hd (xs := ([(⟨1, x3, 0, 0, 2⟩ : S46), (⟨10, 0, 0, 0, wrap64 (fr + 32)⟩ : S46), (⟨1, x1, 0, 0, 0⟩ : S46), (⟨1, x3, 0, 0, 0⟩ : S46), (⟨10, 0, 0, 0, wrap64 (fr + 32)⟩ : S46)] : List S46)) (inner := [.int .i64 1, .int .i64 x3, .int .i64 0, .int .i64 0, .int .i64 2, .int .i64 10, .int .i64 0, .int .i64 0, .int .i64 0, .int .i64 (wrap64 (fr + 32)), .int .i64 1, .int .i64 x1, .int .i64 0, .int .i64 0, .int .i64 0, .int .i64 1, .int .i64 x3, .int .i64 0, .int .i64 0, .int .i64 0, .int .i64 10, .int .i64 0, .int .i64 0, .int .i64 0, .int .i64 (wrap64 (fr + 32))]) (ok := fun _ => True) (okp := fun _ => True) ?hr ?hp (fun _ hk => hk) trivial (Below.refl _ _) (Nat.le_refl _) (by simp) ?_
 (case hd => rfl)
 (case hg => rfl)
 (case hr => first | (go_simp; done) | (go_simp; rfl))
 (case hp => exact (Reps.c5 (sp_M ..) (Reps.c5 (sp_M ..) (Reps.c5 (sp_M ..) (Reps.c5 (sp_M ..) (Reps.c5 (sp_M ..) (Reps.none _ _)))))))
 intro vl wl hr hb hg_ hnew
 clear hg_ hnew
 have TMP := Aside0.mk (Kd.R_lower hr HB.out.size)
 clear hr
 replace OUT := Aside0.mk (Kd.R_below OUT.out hb)
 replace BX := Aside0.mk (blk_below BX.out hb)
 replace HB := Aside0.mk (below_step HB.out hb)
 clear hb
 (try clear b0 b1 b2 b3 b4)
 obtain ⟨b0, b1, b2, b3, b4⟩ := sp_box BX
 obtain ⟨At, ct, et⟩ := Kd.R_slice TMP.out
 subst et
 (try clear b0 b1 b2 b3 b4)
 refine hK.out _ _ (sp_box BX) (fun hHeld => ?_)
 clear hK K
 refine normS_ (N := some 114) (h := ?_)
 refine one_ (i := 15) (N := some 115) (tf_ 16 1) rfl rfl (by kernel_rfl) (by decide) (fun K hK => ?_)
 refine Kd.R_append_rows_step k46 (w0 := w0) w0.heap.size (by rfl) (.tmp 100) (.tmp 114) 40 46 (.agg #[(.int .i64 0), (.int .i64 0), (.int .i64 0), (.int .i64 0), (.int .i64 0)]) 40 rfl Try.underlying40 info46 rfl (by decide) (by omega) (.slice Ao y7.length co) y7 [⟨1, x3, 0, 0, 2⟩, ⟨10, 0, 0, 0, wrap64 (fr + 32)⟩, ⟨1, x1, 0, 0, 0⟩, ⟨1, x3, 0, 0, 0⟩, ⟨10, 0, 0, 0, wrap64 (fr + 32)⟩] _ _ _ (fun _ => True) (fun _ => False) rfl rfl ?aO ?aR (fun _ _ h => h) (fun _ h => h.elim) ?aF ?aB ?aS ?aL ?_
 (case aO => exact OUT.out)
 (case aR => exact (Kd.R_reads' TMP.out).2.2)
 (case aF => exact (fun _ _ => trivial))
 (case aB => exact HB.out)
 (case aS => exact HB.out.size)
 (case aL => have := L7.out; (try simp only [List.length_cons, List.length_nil, spShut_len, spLet_len]); omega)
 intro va wa ho hb hg hat
 replace BX := Aside0.mk (blk_grown BX.out hg (Kd.R_ne OUT.out BX.out (by decide)))
 obtain ⟨y8, E8⟩ : ∃ y, Aside0 (y = y7 ++ [⟨1, x3, 0, 0, 2⟩, ⟨10, 0, 0, 0, wrap64 (fr + 32)⟩, ⟨1, x1, 0, 0, 0⟩, ⟨1, x3, 0, 0, 0⟩, ⟨10, 0, 0, 0, wrap64 (fr + 32)⟩]) := ⟨_, ⟨rfl⟩⟩
 have L8 := Aside0.mk (show y8.length ≤ 90 from by rw [E8.out, List.length_append]; have := L7.out; (try simp only [List.length_cons, List.length_nil, spShut_len, spLet_len]); omega)
 replace OUT := Aside0.mk (show Kd.R k46 46 _ w0.heap.size (fun _ => True) _ y8 from by rw [E8.out]; exact ho)
 replace HB := Aside0.mk hb
 clear ho hb hg hat TMP
 (try clear b0 b1 b2 b3 b4)
 obtain ⟨b0, b1, b2, b3, b4⟩ := sp_box BX
 obtain ⟨Ao, co, eo⟩ := Kd.R_slice OUT.out
 subst eo
 (try clear b0 b1 b2 b3 b4)
 refine hK.out _ _ (sp_box BX) (fun hHeld => ?_)
 clear hK K
 refine normS_ (N := some 115) (h := ?_)
 refine pureP_ (i := 16) (N := some 8) (tf_ 17 0) (by kernel_rfl) (h := ?_)
 refine done_ (by kernel_rfl) ?_
 clear hHeld
 obtain ⟨b0, b1, b2, b3, b4⟩ := sp_box BX
 try go_wp2
 go_ret
 exact ⟨_, rfl, (show y8 = sp_takeTL x1 x3 b c fr from by unfold sp_takeTL; rw [E8.out, E7.out, E6.out, E5.out, E4.out, E3.out, E2.out, E1.out, E0.out]) ▸ OUT.out, HB.out⟩
def sp_takeFL (x1 x3 b c fr : Int) : List S46 := ((((((((spLock b fr ++ [⟨5, 5, -1, 0, wrap64 (b + 2)⟩, ⟨11, 0, 5, 0, wrap64 (fr + 22)⟩, ⟨5, 4, -1, 0, wrap64 (b + 1)⟩, ⟨5, x1, 4, 0, wrap64 (b + 4)⟩]) ++ [⟨1, 7, 0, 0, 1⟩, ⟨2, 4, 4, 7, 0⟩, ⟨3, 5, 5, 7, 0⟩, ⟨1, 7, 0, 0, c⟩, ⟨4, 6, 4, 7, 0⟩, ⟨11, 0, 6, 0, wrap64 (fr + 15)⟩, ⟨10, 0, 0, 0, wrap64 (fr + 16)⟩, ⟨1, 4, 0, 0, 0⟩]) ++ [⟨6, 0, -1, 4, wrap64 (b + 1)⟩, ⟨6, 0, -1, 5, wrap64 (b + 2)⟩]) ++ spLet b) ++ [⟨1, x3, 0, 0, 1⟩, ⟨10, 0, 0, 0, wrap64 (fr + 30)⟩, ⟨5, 4, -1, 0, wrap64 (b + 3)⟩]) ++ spLet b) ++ [⟨11, 0, 4, 0, wrap64 (fr + 29)⟩, ⟨1, x1, 0, 0, 0⟩]) ++ [⟨1, x3, 0, 0, 0⟩, ⟨10, 0, 0, 0, wrap64 (fr + 30)⟩, ⟨10, 0, 0, 0, fr⟩])
set_option maxHeartbeats 16000000 in
set_option maxRecDepth 100000 in
theorem sp_takeF (x1 x2 x3 x4 b c fr : Int) (w0 : World) :
  Calls Try.prog 113 #[.agg #[.int .i64 6, .int .i64 x1, .int .i64 x2, .int .i64 x3, .int .i64 x4], .int .i64 b, .int .i64 c, .int .i64 fr] w0 fun e w' => ∃ v0_ : Value, e = .returned (v0_) ∧ Kd.R k46 46 w' w0.heap.size (fun _ => True) v0_ (sp_takeFL x1 x3 b c fr) ∧ Below w0.heap.size w0 w' := by
 have hu37 := Try.underlying37
 have hu46 := Try.underlying46
 have NUM := Aside0.mk (show spec_l4Bit.f false = some 0 from rfl)
 have SIZ := Aside0.mk (show spec_EmitSize.f 6 x1 x2 x3 x4 = some 30 from by simp [spec_EmitSize.f])
 have HB := Aside0.mk (Below.refl w0.heap.size w0)
 have OUT := Aside0.mk (Kd.R_nil k46 46 w0 w0.heap.size (fun _ => True))
 go_enter Try.func113, Try.ntmps113
 go_wp2_with (first | ((with_reducible refine gate_dst (N := 4) rfl ?_); refine box_event ?hg (N := 4) ?hd (cs := #[.int .i64 6, .int .i64 x1, .int .i64 x2, .int .i64 x3, .int .i64 x4]) (t := 37) ?hr ?_; (case hd => rfl); (case hg => rfl); (case hr => first | (go_simp; done) | (go_simp; rfl)); intro bx hg w1 hbox hb; replace HB := Aside0.mk (below_step HB.out hb); replace OUT := Aside0.mk (Kd.R_below OUT.out hb); have BX := Aside0.mk hbox; clear hb hbox hg; obtain ⟨b0, b1, b2, b3, b4⟩ := sp_box BX) | (go_at_call 27; (with_reducible refine (spec_EmitSize.calls _ _ _ _ _ _ _ SIZ.out).mono ?_); rintro e w' ⟨rfl, hb⟩; replace OUT := Aside0.mk (Kd.R_below OUT.out hb); replace BX := Aside0.mk (blk_below BX.out hb); replace HB := Aside0.mk (below_step HB.out hb); clear hb; (try clear b0 b1 b2 b3 b4); obtain ⟨b0, b1, b2, b3, b4⟩ := sp_box BX))
 (try clear b0 b1 b2 b3 b4)
 refine swap3_ (Kd.R_below OUT.out (below_drew1 (Below.refl _ _))) (blk_below BX.out (below_drew1 (Below.refl _ _))) (below_step HB.out (below_drew1 (Below.refl _ _))) ?_
 clear OUT BX HB
 intro OUT BX HB
 refine start_ (n := 20) (S := fun w' => w'.cell? ⟨bx, 0, none⟩ = some (.int .i64 6) ∧ w'.cell? ⟨bx, 1, none⟩ = some (.int .i64 x1) ∧ w'.cell? ⟨bx, 2, none⟩ = some (.int .i64 x2) ∧ w'.cell? ⟨bx, 3, none⟩ = some (.int .i64 x3) ∧ w'.cell? ⟨bx, 4, none⟩ = some (.int .i64 x4)) (ds := []) (tf_ 0 20) (by kernel_rfl) rfl rfl (sp_box BX) (fun hHeld => ?_)
 generalize World.drew _ = w1 at OUT BX HB hHeld ⊢
 refine pureP_ (i := 0) (N := some 15) (tf_ 1 19) (by kernel_rfl) (h := ?_)
 refine pureP_ (i := 1) (N := some 16) (tf_ 2 18) (by kernel_rfl) (h := ?_)
 refine pureP_ (i := 3) (N := some 18) #[true, true, false, true, false, false, false, false, false, false, false, false, false, false, false, false, false, false, false, false] (by kernel_rfl) (h := ?_)
 refine pureP_ (i := 4) (N := some 19) #[true, true, false, true, true, false, false, false, false, false, false, false, false, false, false, false, false, false, false, false] (by kernel_rfl) (h := ?_)
 refine pureP_ (i := 6) (N := some 21) #[true, true, false, true, true, false, true, false, false, false, false, false, false, false, false, false, false, false, false, false] (by kernel_rfl) (h := ?_)
 refine pureP_ (i := 7) (N := some 22) #[true, true, false, true, true, false, true, true, false, false, false, false, false, false, false, false, false, false, false, false] (by kernel_rfl) (h := ?_)
 refine pureP_ (i := 9) (N := some 24) #[true, true, false, true, true, false, true, true, false, true, false, false, false, false, false, false, false, false, false, false] (by kernel_rfl) (h := ?_)
 refine pureP_ (i := 10) (N := some 25) #[true, true, false, true, true, false, true, true, false, true, true, false, false, false, false, false, false, false, false, false] (by kernel_rfl) (h := ?_)
 refine pureP_ (i := 12) (N := some 27) #[true, true, false, true, true, false, true, true, false, true, true, false, true, false, false, false, false, false, false, false] (by kernel_rfl) (h := ?_)
 refine pureP_ (i := 14) (N := some 29) #[true, true, false, true, true, false, true, true, false, true, true, false, true, false, true, false, false, false, false, false] (by kernel_rfl) (h := ?_)
 refine pureP_ (i := 15) (N := some 30) #[true, true, false, true, true, false, true, true, false, true, true, false, true, false, true, true, false, false, false, false] (by kernel_rfl) (h := ?_)
 refine takeP_ (i := 13) (N := some 28) #[true, true, false, true, true, false, true, true, false, true, true, false, true, true, true, true, false, false, false, false] (by kernel_rfl) hHeld (hy := Or.inl ⟨by rfl, att14_0_4⟩) (h := ?_)
 refine pureP_ (i := 16) (N := some 31) #[true, true, false, true, true, false, true, true, false, true, true, false, true, true, true, true, true, false, false, false] (by kernel_rfl) (h := ?_)
 refine one_ (i := 2) (N := some 17) #[true, true, true, true, true, false, true, true, false, true, true, false, true, true, true, true, true, false, false, false] rfl rfl (by kernel_rfl) (by decide) (fun K hK => ?_)
 refine goes_ Try.func175 (by kernel_rfl) rfl #[.int .i64 b, .int .i64 fr] (by rfl) rfl rfl atgM_ ?_
 with_reducible refine (spec_l10Lock.calls _ _ _ _ (espec_l10Lock _ _)).mono ?_
 rintro e w' ⟨v_, rfl, hr, hb⟩
 refine ⟨_, rfl, ?_⟩
 have TM_ := Aside0.mk (Kd.R_lower hr HB.out.size)
 clear hr
 replace OUT := Aside0.mk (Kd.R_below OUT.out hb)
 replace BX := Aside0.mk (blk_below BX.out hb)
 replace HB := Aside0.mk (below_step HB.out hb)
 clear hb
 (try clear b0 b1 b2 b3 b4)
 obtain ⟨b0, b1, b2, b3, b4⟩ := sp_box BX
 clear OUT
 obtain ⟨y0, E0⟩ : ∃ y, Aside0 (y = spLock b fr) := ⟨_, ⟨rfl⟩⟩
 have L0 := Aside0.mk (show y0.length ≤ 10 from by rw [E0.out, spLock_len]; omega)
 have OUT := Aside0.mk (show Kd.R k46 46 _ w0.heap.size (fun _ => True) _ y0 from by rw [E0.out]; exact TM_.out)
 clear TM_
 obtain ⟨Ao, co, eo⟩ := Kd.R_slice OUT.out
 subst eo
 (try clear b0 b1 b2 b3 b4)
 refine hK.out _ _ (sp_box BX) (fun hHeld => ?_)
 clear hK K
 refine normS_ (N := some 17) (h := ?_)
 refine one_ (i := 5) (N := some 20) #[true, true, true, true, true, true, true, true, false, true, true, false, true, true, true, true, true, false, false, false] rfl rfl (by kernel_rfl) (by decide) (fun K hK => ?_)
 refine goes_ Try.func177 (by kernel_rfl) rfl #[.int .i64 5, .int .i64 (wrap64 (b + 2))] (by rfl) rfl rfl atgM_ ?_
 with_reducible refine (spec_l10Load.calls _ _ _ _ _ _ _ _ (espec_l10Load _ _)).mono ?_
 rintro e w' ⟨rfl, hb⟩
 refine ⟨_, rfl, ?_⟩
 replace OUT := Aside0.mk (Kd.R_below OUT.out hb)
 replace BX := Aside0.mk (blk_below BX.out hb)
 replace HB := Aside0.mk (below_step HB.out hb)
 clear hb
 (try clear b0 b1 b2 b3 b4)
 obtain ⟨b0, b1, b2, b3, b4⟩ := sp_box BX
 (try clear b0 b1 b2 b3 b4)
 refine hK.out _ _ (sp_box BX) (fun hHeld => ?_)
 clear hK K
 refine normS_ (N := some 20) (h := ?_)
 refine one_ (i := 8) (N := some 23) #[true, true, true, true, true, true, true, true, true, true, true, false, true, true, true, true, true, false, false, false] rfl rfl (by kernel_rfl) (by decide) (fun K hK => ?_)
 refine goes_ Try.func110 (by kernel_rfl) rfl #[.int .i64 5, .int .i64 (wrap64 (fr + 22))] (by rfl) rfl rfl atgM_ ?_
 with_reducible refine (spec_l10Zero.calls _ _ _ _ _ _ _ _ (espec_l10Zero _ _)).mono ?_
 rintro e w' ⟨rfl, hb⟩
 refine ⟨_, rfl, ?_⟩
 replace OUT := Aside0.mk (Kd.R_below OUT.out hb)
 replace BX := Aside0.mk (blk_below BX.out hb)
 replace HB := Aside0.mk (below_step HB.out hb)
 clear hb
 (try clear b0 b1 b2 b3 b4)
 obtain ⟨b0, b1, b2, b3, b4⟩ := sp_box BX
 (try clear b0 b1 b2 b3 b4)
 refine hK.out _ _ (sp_box BX) (fun hHeld => ?_)
 clear hK K
 refine normS_ (N := some 23) (h := ?_)
 refine one_ (i := 11) (N := some 26) (tf_ 17 3) rfl rfl (by kernel_rfl) (by decide) (fun K hK => ?_)
 refine goes_ Try.func177 (by kernel_rfl) rfl #[.int .i64 4, .int .i64 (wrap64 (b + 1))] (by rfl) rfl rfl atgM_ ?_
 with_reducible refine (spec_l10Load.calls _ _ _ _ _ _ _ _ (espec_l10Load _ _)).mono ?_
 rintro e w' ⟨rfl, hb⟩
 refine ⟨_, rfl, ?_⟩
 replace OUT := Aside0.mk (Kd.R_below OUT.out hb)
 replace BX := Aside0.mk (blk_below BX.out hb)
 replace HB := Aside0.mk (below_step HB.out hb)
 clear hb
 (try clear b0 b1 b2 b3 b4)
 obtain ⟨b0, b1, b2, b3, b4⟩ := sp_box BX
 (try clear b0 b1 b2 b3 b4)
 refine hK.out _ _ (sp_box BX) (fun hHeld => ?_)
 clear hK K
 refine normS_ (N := some 26) (h := ?_)
 refine one_ (i := 17) (N := some 32) (tf_ 18 2) rfl rfl (by kernel_rfl) (by decide) (fun K hK => ?_)
 refine Kd.R_lit_step k46 _ 46 ?hg (N := 32) ?hd (xs := ([(⟨5, 5, -1, 0, wrap64 (b + 2)⟩ : S46), (⟨11, 0, 5, 0, wrap64 (fr + 22)⟩ : S46), (⟨5, 4, -1, 0, wrap64 (b + 1)⟩ : S46), (⟨5, x1, 4, 0, wrap64 (b + 4)⟩ : S46)] : List S46)) (inner := [.int .i64 5, .int .i64 5, .int .i64 (-1), .int .i64 0, .int .i64 (wrap64 (b + 2)), .int .i64 11, .int .i64 0, .int .i64 5, .int .i64 0, .int .i64 (wrap64 (fr + 22)), .int .i64 5, .int .i64 4, .int .i64 (-1), .int .i64 0, .int .i64 (wrap64 (b + 1)), .int .i64 5, .int .i64 x1, .int .i64 4, .int .i64 0, .int .i64 (wrap64 (b + 4))]) (ok := fun _ => True) (okp := fun _ => True) ?hr ?hp (fun _ hk => hk) trivial (Below.refl _ _) (Nat.le_refl _) (by simp) ?_
 (case hd => rfl)
 (case hg => rfl)
 (case hr => first | (go_simp; done) | (go_simp; rfl))
 (case hp => exact (Reps.c5 (sp_M ..) (Reps.c5 (sp_M ..) (Reps.c5 (sp_M ..) (Reps.c5 (sp_M ..) (Reps.none _ _))))))
 intro vl wl hr hb hg_ hnew
 clear hg_ hnew
 have TMP := Aside0.mk (Kd.R_lower hr HB.out.size)
 clear hr
 replace OUT := Aside0.mk (Kd.R_below OUT.out hb)
 replace BX := Aside0.mk (blk_below BX.out hb)
 replace HB := Aside0.mk (below_step HB.out hb)
 clear hb
 (try clear b0 b1 b2 b3 b4)
 obtain ⟨b0, b1, b2, b3, b4⟩ := sp_box BX
 obtain ⟨At, ct, et⟩ := Kd.R_slice TMP.out
 subst et
 (try clear b0 b1 b2 b3 b4)
 refine hK.out _ _ (sp_box BX) (fun hHeld => ?_)
 clear hK K
 refine normS_ (N := some 32) (h := ?_)
 refine one_ (i := 18) (N := some 33) (tf_ 19 1) rfl rfl (by kernel_rfl) (by decide) (fun K hK => ?_)
 refine Kd.R_append_rows_step k46 (w0 := w0) w0.heap.size (by rfl) (.tmp 17) (.tmp 32) 40 46 (.agg #[(.int .i64 0), (.int .i64 0), (.int .i64 0), (.int .i64 0), (.int .i64 0)]) 40 rfl Try.underlying40 info46 rfl (by decide) (by omega) (.slice Ao y0.length co) y0 [⟨5, 5, -1, 0, wrap64 (b + 2)⟩, ⟨11, 0, 5, 0, wrap64 (fr + 22)⟩, ⟨5, 4, -1, 0, wrap64 (b + 1)⟩, ⟨5, x1, 4, 0, wrap64 (b + 4)⟩] _ _ _ (fun _ => True) (fun _ => False) rfl rfl ?aO ?aR (fun _ _ h => h) (fun _ h => h.elim) ?aF ?aB ?aS ?aL ?_
 (case aO => exact OUT.out)
 (case aR => exact (Kd.R_reads' TMP.out).2.2)
 (case aF => exact (fun _ _ => trivial))
 (case aB => exact HB.out)
 (case aS => exact HB.out.size)
 (case aL => have := L0.out; (try simp only [List.length_cons, List.length_nil, spShut_len, spLet_len]); omega)
 intro va wa ho hb hg hat
 replace BX := Aside0.mk (blk_grown BX.out hg (Kd.R_ne OUT.out BX.out (by decide)))
 obtain ⟨y1, E1⟩ : ∃ y, Aside0 (y = y0 ++ [⟨5, 5, -1, 0, wrap64 (b + 2)⟩, ⟨11, 0, 5, 0, wrap64 (fr + 22)⟩, ⟨5, 4, -1, 0, wrap64 (b + 1)⟩, ⟨5, x1, 4, 0, wrap64 (b + 4)⟩]) := ⟨_, ⟨rfl⟩⟩
 have L1 := Aside0.mk (show y1.length ≤ 20 from by rw [E1.out, List.length_append]; have := L0.out; (try simp only [List.length_cons, List.length_nil, spShut_len, spLet_len]); omega)
 replace OUT := Aside0.mk (show Kd.R k46 46 _ w0.heap.size (fun _ => True) _ y1 from by rw [E1.out]; exact ho)
 replace HB := Aside0.mk hb
 clear ho hb hg hat TMP
 (try clear b0 b1 b2 b3 b4)
 obtain ⟨b0, b1, b2, b3, b4⟩ := sp_box BX
 obtain ⟨Ao, co, eo⟩ := Kd.R_slice OUT.out
 subst eo
 (try clear b0 b1 b2 b3 b4)
 refine hK.out _ _ (sp_box BX) (fun hHeld => ?_)
 clear hK K
 refine normS_ (N := some 33) (h := ?_)
 refine pureP_ (i := 19) (N := some 10) (tf_ 20 0) (by kernel_rfl) (h := ?_)
 refine done_ (by kernel_rfl) ?_
 clear hHeld
 obtain ⟨b0, b1, b2, b3, b4⟩ := sp_box BX
 go_wp2_with (first | (go_at_call 107; (with_reducible refine (spec_l10Set.calls _ _ _ _ _ _ _ _ (espec_l10Set _ _)).mono ?_); rintro e w' ⟨rfl, hb⟩; replace OUT := Aside0.mk (Kd.R_below OUT.out hb); replace BX := Aside0.mk (blk_below BX.out hb); replace HB := Aside0.mk (below_step HB.out hb); clear hb; (try clear b0 b1 b2 b3 b4); obtain ⟨b0, b1, b2, b3, b4⟩ := sp_box BX) | (go_at_call 108; (with_reducible refine (spec_l10Three.calls _ _ _ _ _ _ _ _ _ _ (espec_l10Three _ _ _ _)).mono ?_); rintro e w' ⟨rfl, hb⟩; replace OUT := Aside0.mk (Kd.R_below OUT.out hb); replace BX := Aside0.mk (blk_below BX.out hb); replace HB := Aside0.mk (below_step HB.out hb); clear hb; (try clear b0 b1 b2 b3 b4); obtain ⟨b0, b1, b2, b3, b4⟩ := sp_box BX) | (go_at_call 110; (with_reducible refine (spec_l10Zero.calls _ _ _ _ _ _ _ _ (espec_l10Zero _ _)).mono ?_); rintro e w' ⟨rfl, hb⟩; replace OUT := Aside0.mk (Kd.R_below OUT.out hb); replace BX := Aside0.mk (blk_below BX.out hb); replace HB := Aside0.mk (below_step HB.out hb); clear hb; (try clear b0 b1 b2 b3 b4); obtain ⟨b0, b1, b2, b3, b4⟩ := sp_box BX) | (go_at_call 109; (with_reducible refine (spec_l10Jump.calls _ _ _ _ _ _ _ (espec_l10Jump _)).mono ?_); rintro e w' ⟨rfl, hb⟩; replace OUT := Aside0.mk (Kd.R_below OUT.out hb); replace BX := Aside0.mk (blk_below BX.out hb); replace HB := Aside0.mk (below_step HB.out hb); clear hb; (try clear b0 b1 b2 b3 b4); obtain ⟨b0, b1, b2, b3, b4⟩ := sp_box BX) | ((with_reducible refine gate_dst (N := 48) rfl ?_); refine Kd.R_lit k46 _ 46 ?hg (N := 48) ?hd (xs := ([(⟨1, 7, 0, 0, 1⟩ : S46), (⟨2, 4, 4, 7, 0⟩ : S46), (⟨3, 5, 5, 7, 0⟩ : S46), (⟨1, 7, 0, 0, c⟩ : S46), (⟨4, 6, 4, 7, 0⟩ : S46), (⟨11, 0, 6, 0, wrap64 (fr + 15)⟩ : S46), (⟨10, 0, 0, 0, wrap64 (fr + 16)⟩ : S46), (⟨1, 4, 0, 0, 0⟩ : S46)] : List S46)) (inner := [.int .i64 1, .int .i64 7, .int .i64 0, .int .i64 0, .int .i64 1, .int .i64 2, .int .i64 4, .int .i64 4, .int .i64 7, .int .i64 0, .int .i64 3, .int .i64 5, .int .i64 5, .int .i64 7, .int .i64 0, .int .i64 1, .int .i64 7, .int .i64 0, .int .i64 0, .int .i64 c, .int .i64 4, .int .i64 6, .int .i64 4, .int .i64 7, .int .i64 0, .int .i64 11, .int .i64 0, .int .i64 6, .int .i64 0, .int .i64 (wrap64 (fr + 15)), .int .i64 10, .int .i64 0, .int .i64 0, .int .i64 0, .int .i64 (wrap64 (fr + 16)), .int .i64 1, .int .i64 4, .int .i64 0, .int .i64 0, .int .i64 0]) (ok := fun _ => True) (okp := fun _ => True) ?hr ?hp (fun _ hk => hk) trivial (Below.refl _ _) (Nat.le_refl _) (by simp) ?_; (case hd => rfl); (case hg => rfl); (case hr => first | (go_simp; done) | (go_simp; rfl)); (case hp => exact (Reps.c5 (sp_M ..) (Reps.c5 (sp_M ..) (Reps.c5 (sp_M ..) (Reps.c5 (sp_M ..) (Reps.c5 (sp_M ..) (Reps.c5 (sp_M ..) (Reps.c5 (sp_M ..) (Reps.c5 (sp_M ..) (Reps.none _ _)))))))))); intro vl wl hr hb hg_ hnew; clear hg_ hnew; have TMP := Aside0.mk (Kd.R_lower hr HB.out.size); clear hr; replace OUT := Aside0.mk (Kd.R_below OUT.out hb); replace BX := Aside0.mk (blk_below BX.out hb); replace HB := Aside0.mk (below_step HB.out hb); clear hb; (try clear b0 b1 b2 b3 b4); obtain ⟨b0, b1, b2, b3, b4⟩ := sp_box BX; obtain ⟨At, ct, et⟩ := Kd.R_slice TMP.out; subst et) | ((with_reducible refine gate_builtin (b := .append) (xs := #[.tmp 34, .tmp 48]) rfl ?_); at_builtin; refine Kd.R_append_rows k46 (w0 := w0) w0.heap.size rfl (.tmp 34) (.tmp 48) 40 46 (.agg #[(.int .i64 0), (.int .i64 0), (.int .i64 0), (.int .i64 0), (.int .i64 0)]) 40 rfl Try.underlying40 info46 rfl (by decide) (by omega) (.slice Ao y1.length co) y1 [⟨1, 7, 0, 0, 1⟩, ⟨2, 4, 4, 7, 0⟩, ⟨3, 5, 5, 7, 0⟩, ⟨1, 7, 0, 0, c⟩, ⟨4, 6, 4, 7, 0⟩, ⟨11, 0, 6, 0, wrap64 (fr + 15)⟩, ⟨10, 0, 0, 0, wrap64 (fr + 16)⟩, ⟨1, 4, 0, 0, 0⟩] _ _ _ (fun _ => True) (fun _ => False) rfl rfl ?aO ?aR (fun _ _ h => h) (fun _ h => h.elim) ?aF ?aB ?aS ?aL ?_; (case aO => exact OUT.out); (case aR => exact (Kd.R_reads' TMP.out).2.2); (case aF => exact (fun _ _ => trivial)); (case aB => exact HB.out); (case aS => exact HB.out.size); (case aL => have := L1.out; (try simp only [List.length_cons, List.length_nil, spShut_len, spLet_len]); omega); intro va wa ho hb hg hat; replace BX := Aside0.mk (blk_grown BX.out hg (Kd.R_ne OUT.out BX.out (by decide))); obtain ⟨y2, E2⟩ : ∃ y, Aside0 (y = y1 ++ [⟨1, 7, 0, 0, 1⟩, ⟨2, 4, 4, 7, 0⟩, ⟨3, 5, 5, 7, 0⟩, ⟨1, 7, 0, 0, c⟩, ⟨4, 6, 4, 7, 0⟩, ⟨11, 0, 6, 0, wrap64 (fr + 15)⟩, ⟨10, 0, 0, 0, wrap64 (fr + 16)⟩, ⟨1, 4, 0, 0, 0⟩]) := ⟨_, ⟨rfl⟩⟩; have L2 := Aside0.mk (show y2.length ≤ 30 from by rw [E2.out, List.length_append]; have := L1.out; (try simp only [List.length_cons, List.length_nil, spShut_len, spLet_len]); omega); replace OUT := Aside0.mk (show Kd.R k46 46 _ w0.heap.size (fun _ => True) _ y2 from by rw [E2.out]; exact ho); replace HB := Aside0.mk hb; clear ho hb hg hat TMP; (try clear b0 b1 b2 b3 b4); obtain ⟨b0, b1, b2, b3, b4⟩ := sp_box BX; obtain ⟨Ao, co, eo⟩ := Kd.R_slice OUT.out; subst eo) | (go_at_call 178; (with_reducible refine (spec_l10Store.calls _ _ _ _ _ _ _ _ (espec_l10Store _ _)).mono ?_); rintro e w' ⟨rfl, hb⟩; replace OUT := Aside0.mk (Kd.R_below OUT.out hb); replace BX := Aside0.mk (blk_below BX.out hb); replace HB := Aside0.mk (below_step HB.out hb); clear hb; (try clear b0 b1 b2 b3 b4); obtain ⟨b0, b1, b2, b3, b4⟩ := sp_box BX) | ((with_reducible refine gate_dst (N := 57) rfl ?_); refine Kd.R_lit k46 _ 46 ?hg (N := 57) ?hd (xs := ([(⟨6, 0, -1, 4, wrap64 (b + 1)⟩ : S46), (⟨6, 0, -1, 5, wrap64 (b + 2)⟩ : S46)] : List S46)) (inner := [.int .i64 6, .int .i64 0, .int .i64 (-1), .int .i64 4, .int .i64 (wrap64 (b + 1)), .int .i64 6, .int .i64 0, .int .i64 (-1), .int .i64 5, .int .i64 (wrap64 (b + 2))]) (ok := fun _ => True) (okp := fun _ => True) ?hr ?hp (fun _ hk => hk) trivial (Below.refl _ _) (Nat.le_refl _) (by simp) ?_; (case hd => rfl); (case hg => rfl); (case hr => first | (go_simp; done) | (go_simp; rfl)); (case hp => exact (Reps.c5 (sp_M ..) (Reps.c5 (sp_M ..) (Reps.none _ _)))); intro vl wl hr hb hg_ hnew; clear hg_ hnew; have TMP := Aside0.mk (Kd.R_lower hr HB.out.size); clear hr; replace OUT := Aside0.mk (Kd.R_below OUT.out hb); replace BX := Aside0.mk (blk_below BX.out hb); replace HB := Aside0.mk (below_step HB.out hb); clear hb; (try clear b0 b1 b2 b3 b4); obtain ⟨b0, b1, b2, b3, b4⟩ := sp_box BX; obtain ⟨At, ct, et⟩ := Kd.R_slice TMP.out; subst et) | ((with_reducible refine gate_builtin (b := .append) (xs := #[.tmp 50, .tmp 57]) rfl ?_); at_builtin; refine Kd.R_append_rows k46 (w0 := w0) w0.heap.size rfl (.tmp 50) (.tmp 57) 40 46 (.agg #[(.int .i64 0), (.int .i64 0), (.int .i64 0), (.int .i64 0), (.int .i64 0)]) 40 rfl Try.underlying40 info46 rfl (by decide) (by omega) (.slice Ao y2.length co) y2 [⟨6, 0, -1, 4, wrap64 (b + 1)⟩, ⟨6, 0, -1, 5, wrap64 (b + 2)⟩] _ _ _ (fun _ => True) (fun _ => False) rfl rfl ?aO ?aR (fun _ _ h => h) (fun _ h => h.elim) ?aF ?aB ?aS ?aL ?_; (case aO => exact OUT.out); (case aR => exact (Kd.R_reads' TMP.out).2.2); (case aF => exact (fun _ _ => trivial)); (case aB => exact HB.out); (case aS => exact HB.out.size); (case aL => have := L2.out; (try simp only [List.length_cons, List.length_nil, spShut_len, spLet_len]); omega); intro va wa ho hb hg hat; replace BX := Aside0.mk (blk_grown BX.out hg (Kd.R_ne OUT.out BX.out (by decide))); obtain ⟨y3, E3⟩ : ∃ y, Aside0 (y = y2 ++ [⟨6, 0, -1, 4, wrap64 (b + 1)⟩, ⟨6, 0, -1, 5, wrap64 (b + 2)⟩]) := ⟨_, ⟨rfl⟩⟩; have L3 := Aside0.mk (show y3.length ≤ 40 from by rw [E3.out, List.length_append]; have := L2.out; (try simp only [List.length_cons, List.length_nil, spShut_len, spLet_len]); omega); replace OUT := Aside0.mk (show Kd.R k46 46 _ w0.heap.size (fun _ => True) _ y3 from by rw [E3.out]; exact ho); replace HB := Aside0.mk hb; clear ho hb hg hat TMP; (try clear b0 b1 b2 b3 b4); obtain ⟨b0, b1, b2, b3, b4⟩ := sp_box BX; obtain ⟨Ao, co, eo⟩ := Kd.R_slice OUT.out; subst eo) | (go_at_call 179; (with_reducible refine (spec_l10Let.calls _ _ _ (espec_l10Let _)).mono ?_); rintro e w' ⟨v_, rfl, hr, hb⟩; have TM_ := Aside0.mk (Kd.R_lower hr HB.out.size); clear hr; replace OUT := Aside0.mk (Kd.R_below OUT.out hb); replace BX := Aside0.mk (blk_below BX.out hb); replace HB := Aside0.mk (below_step HB.out hb); clear hb; (try clear b0 b1 b2 b3 b4); obtain ⟨b0, b1, b2, b3, b4⟩ := sp_box BX; have TMP := TM_; clear TM_; obtain ⟨At, ct, et⟩ := Kd.R_slice TMP.out; subst et) | ((with_reducible refine gate_builtin (b := .append) (xs := #[.tmp 59, .tmp 61]) rfl ?_); at_builtin; refine Kd.R_append_rows k46 (w0 := w0) w0.heap.size rfl (.tmp 59) (.tmp 61) 40 46 (.agg #[(.int .i64 0), (.int .i64 0), (.int .i64 0), (.int .i64 0), (.int .i64 0)]) 40 rfl Try.underlying40 info46 rfl (by decide) (by omega) (.slice Ao y3.length co) y3 (spLet b) _ _ _ (fun _ => True) (fun _ => False) rfl rfl ?aO ?aR (fun _ _ h => h) (fun _ h => h.elim) ?aF ?aB ?aS ?aL ?_; (case aO => exact OUT.out); (case aR => exact (Kd.R_reads' TMP.out).2.2); (case aF => exact (fun _ _ => trivial)); (case aB => exact HB.out); (case aS => exact HB.out.size); (case aL => have := L3.out; (try simp only [List.length_cons, List.length_nil, spShut_len, spLet_len]); omega); intro va wa ho hb hg hat; replace BX := Aside0.mk (blk_grown BX.out hg (Kd.R_ne OUT.out BX.out (by decide))); obtain ⟨y4, E4⟩ : ∃ y, Aside0 (y = y3 ++ spLet b) := ⟨_, ⟨rfl⟩⟩; have L4 := Aside0.mk (show y4.length ≤ 50 from by rw [E4.out, List.length_append]; have := L3.out; (try simp only [List.length_cons, List.length_nil, spShut_len, spLet_len]); omega); replace OUT := Aside0.mk (show Kd.R k46 46 _ w0.heap.size (fun _ => True) _ y4 from by rw [E4.out]; exact ho); replace HB := Aside0.mk hb; clear ho hb hg hat TMP; (try clear b0 b1 b2 b3 b4); obtain ⟨b0, b1, b2, b3, b4⟩ := sp_box BX; obtain ⟨Ao, co, eo⟩ := Kd.R_slice OUT.out; subst eo) | (go_at_call 177; (with_reducible refine (spec_l10Load.calls _ _ _ _ _ _ _ _ (espec_l10Load _ _)).mono ?_); rintro e w' ⟨rfl, hb⟩; replace OUT := Aside0.mk (Kd.R_below OUT.out hb); replace BX := Aside0.mk (blk_below BX.out hb); replace HB := Aside0.mk (below_step HB.out hb); clear hb; (try clear b0 b1 b2 b3 b4); obtain ⟨b0, b1, b2, b3, b4⟩ := sp_box BX) | ((with_reducible refine gate_dst (N := 72) rfl ?_); refine Kd.R_lit k46 _ 46 ?hg (N := 72) ?hd (xs := ([(⟨1, x3, 0, 0, 1⟩ : S46), (⟨10, 0, 0, 0, wrap64 (fr + 30)⟩ : S46), (⟨5, 4, -1, 0, wrap64 (b + 3)⟩ : S46)] : List S46)) (inner := [.int .i64 1, .int .i64 x3, .int .i64 0, .int .i64 0, .int .i64 1, .int .i64 10, .int .i64 0, .int .i64 0, .int .i64 0, .int .i64 (wrap64 (fr + 30)), .int .i64 5, .int .i64 4, .int .i64 (-1), .int .i64 0, .int .i64 (wrap64 (b + 3))]) (ok := fun _ => True) (okp := fun _ => True) ?hr ?hp (fun _ hk => hk) trivial (Below.refl _ _) (Nat.le_refl _) (by simp) ?_; (case hd => rfl); (case hg => rfl); (case hr => first | (go_simp; done) | (go_simp; rfl)); (case hp => exact (Reps.c5 (sp_M ..) (Reps.c5 (sp_M ..) (Reps.c5 (sp_M ..) (Reps.none _ _))))); intro vl wl hr hb hg_ hnew; clear hg_ hnew; have TMP := Aside0.mk (Kd.R_lower hr HB.out.size); clear hr; replace OUT := Aside0.mk (Kd.R_below OUT.out hb); replace BX := Aside0.mk (blk_below BX.out hb); replace HB := Aside0.mk (below_step HB.out hb); clear hb; (try clear b0 b1 b2 b3 b4); obtain ⟨b0, b1, b2, b3, b4⟩ := sp_box BX; obtain ⟨At, ct, et⟩ := Kd.R_slice TMP.out; subst et) | ((with_reducible refine gate_builtin (b := .append) (xs := #[.tmp 63, .tmp 72]) rfl ?_); at_builtin; refine Kd.R_append_rows k46 (w0 := w0) w0.heap.size rfl (.tmp 63) (.tmp 72) 40 46 (.agg #[(.int .i64 0), (.int .i64 0), (.int .i64 0), (.int .i64 0), (.int .i64 0)]) 40 rfl Try.underlying40 info46 rfl (by decide) (by omega) (.slice Ao y4.length co) y4 [⟨1, x3, 0, 0, 1⟩, ⟨10, 0, 0, 0, wrap64 (fr + 30)⟩, ⟨5, 4, -1, 0, wrap64 (b + 3)⟩] _ _ _ (fun _ => True) (fun _ => False) rfl rfl ?aO ?aR (fun _ _ h => h) (fun _ h => h.elim) ?aF ?aB ?aS ?aL ?_; (case aO => exact OUT.out); (case aR => exact (Kd.R_reads' TMP.out).2.2); (case aF => exact (fun _ _ => trivial)); (case aB => exact HB.out); (case aS => exact HB.out.size); (case aL => have := L4.out; (try simp only [List.length_cons, List.length_nil, spShut_len, spLet_len]); omega); intro va wa ho hb hg hat; replace BX := Aside0.mk (blk_grown BX.out hg (Kd.R_ne OUT.out BX.out (by decide))); obtain ⟨y5, E5⟩ : ∃ y, Aside0 (y = y4 ++ [⟨1, x3, 0, 0, 1⟩, ⟨10, 0, 0, 0, wrap64 (fr + 30)⟩, ⟨5, 4, -1, 0, wrap64 (b + 3)⟩]) := ⟨_, ⟨rfl⟩⟩; have L5 := Aside0.mk (show y5.length ≤ 60 from by rw [E5.out, List.length_append]; have := L4.out; (try simp only [List.length_cons, List.length_nil, spShut_len, spLet_len]); omega); replace OUT := Aside0.mk (show Kd.R k46 46 _ w0.heap.size (fun _ => True) _ y5 from by rw [E5.out]; exact ho); replace HB := Aside0.mk hb; clear ho hb hg hat TMP; (try clear b0 b1 b2 b3 b4); obtain ⟨b0, b1, b2, b3, b4⟩ := sp_box BX; obtain ⟨Ao, co, eo⟩ := Kd.R_slice OUT.out; subst eo) | ((with_reducible refine gate_builtin (b := .append) (xs := #[.tmp 74, .tmp 76]) rfl ?_); at_builtin; refine Kd.R_append_rows k46 (w0 := w0) w0.heap.size rfl (.tmp 74) (.tmp 76) 40 46 (.agg #[(.int .i64 0), (.int .i64 0), (.int .i64 0), (.int .i64 0), (.int .i64 0)]) 40 rfl Try.underlying40 info46 rfl (by decide) (by omega) (.slice Ao y5.length co) y5 (spLet b) _ _ _ (fun _ => True) (fun _ => False) rfl rfl ?aO ?aR (fun _ _ h => h) (fun _ h => h.elim) ?aF ?aB ?aS ?aL ?_; (case aO => exact OUT.out); (case aR => exact (Kd.R_reads' TMP.out).2.2); (case aF => exact (fun _ _ => trivial)); (case aB => exact HB.out); (case aS => exact HB.out.size); (case aL => have := L5.out; (try simp only [List.length_cons, List.length_nil, spShut_len, spLet_len]); omega); intro va wa ho hb hg hat; replace BX := Aside0.mk (blk_grown BX.out hg (Kd.R_ne OUT.out BX.out (by decide))); obtain ⟨y6, E6⟩ : ∃ y, Aside0 (y = y5 ++ spLet b) := ⟨_, ⟨rfl⟩⟩; have L6 := Aside0.mk (show y6.length ≤ 70 from by rw [E6.out, List.length_append]; have := L5.out; (try simp only [List.length_cons, List.length_nil, spShut_len, spLet_len]); omega); replace OUT := Aside0.mk (show Kd.R k46 46 _ w0.heap.size (fun _ => True) _ y6 from by rw [E6.out]; exact ho); replace HB := Aside0.mk hb; clear ho hb hg hat TMP; (try clear b0 b1 b2 b3 b4); obtain ⟨b0, b1, b2, b3, b4⟩ := sp_box BX; obtain ⟨Ao, co, eo⟩ := Kd.R_slice OUT.out; subst eo))
 (try clear b0 b1 b2 b3 b4)
 refine swap3_ (Kd.R_below OUT.out (below_drew1 (Below.refl _ _))) (blk_below BX.out (below_drew1 (Below.refl _ _))) (below_step HB.out (below_drew1 (Below.refl _ _))) ?_
 clear OUT BX HB
 intro OUT BX HB
 refine start_ (n := 10) (S := fun w' => w'.cell? ⟨bx, 0, none⟩ = some (.int .i64 6) ∧ w'.cell? ⟨bx, 1, none⟩ = some (.int .i64 x1) ∧ w'.cell? ⟨bx, 2, none⟩ = some (.int .i64 x2) ∧ w'.cell? ⟨bx, 3, none⟩ = some (.int .i64 x3) ∧ w'.cell? ⟨bx, 4, none⟩ = some (.int .i64 x4)) (ds := []) (tf_ 0 10) (by kernel_rfl) rfl rfl (sp_box BX) (fun hHeld => ?_)
 generalize World.drew _ = w1 at OUT BX HB hHeld ⊢
 refine pureP_ (i := 0) (N := some 78) (tf_ 1 9) (by kernel_rfl) (h := ?_)
 refine pureP_ (i := 1) (N := some 79) (tf_ 2 8) (by kernel_rfl) (h := ?_)
 refine pureP_ (i := 2) (N := some 80) (tf_ 3 7) (by kernel_rfl) (h := ?_)
 refine pureP_ (i := 4) (N := some 82) #[true, true, true, false, true, false, false, false, false, false] (by kernel_rfl) (h := ?_)
 refine takeP_ (i := 5) (N := some 83) #[true, true, true, false, true, true, false, false, false, false] (by kernel_rfl) hHeld (hy := Or.inl ⟨by rfl, att14_0_4⟩) (h := ?_)
 refine one_ (i := 3) (N := some 81) (tf_ 6 4) rfl rfl (by kernel_rfl) (by decide) (fun K hK => ?_)
 refine goes_ Try.func110 (by kernel_rfl) rfl #[.int .i64 4, .int .i64 (wrap64 (fr + 29))] (by rfl) rfl rfl atgM_ ?_
 with_reducible refine (spec_l10Zero.calls _ _ _ _ _ _ _ _ (espec_l10Zero _ _)).mono ?_
 rintro e w' ⟨rfl, hb⟩
 refine ⟨_, rfl, ?_⟩
 replace OUT := Aside0.mk (Kd.R_below OUT.out hb)
 replace BX := Aside0.mk (blk_below BX.out hb)
 replace HB := Aside0.mk (below_step HB.out hb)
 clear hb
 (try clear b0 b1 b2 b3 b4)
 obtain ⟨b0, b1, b2, b3, b4⟩ := sp_box BX
 (try clear b0 b1 b2 b3 b4)
 refine hK.out _ _ (sp_box BX) (fun hHeld => ?_)
 clear hK K
 refine normS_ (N := some 81) (h := ?_)
 refine one_ (i := 6) (N := some 84) (tf_ 7 3) rfl rfl (by kernel_rfl) (by decide) (fun K hK => ?_)
 refine goes_ Try.func107 (by kernel_rfl) rfl #[.int .i64 x1, .int .i64 0] (by rfl) rfl rfl atgM_ ?_
 with_reducible refine (spec_l10Set.calls _ _ _ _ _ _ _ _ (espec_l10Set _ _)).mono ?_
 rintro e w' ⟨rfl, hb⟩
 refine ⟨_, rfl, ?_⟩
 replace OUT := Aside0.mk (Kd.R_below OUT.out hb)
 replace BX := Aside0.mk (blk_below BX.out hb)
 replace HB := Aside0.mk (below_step HB.out hb)
 clear hb
 (try clear b0 b1 b2 b3 b4)
 obtain ⟨b0, b1, b2, b3, b4⟩ := sp_box BX
 (try clear b0 b1 b2 b3 b4)
 refine hK.out _ _ (sp_box BX) (fun hHeld => ?_)
 clear hK K
 refine normS_ (N := some 84) (h := ?_)
 refine one_ (i := 7) (N := some 85) (tf_ 8 2) rfl rfl (by kernel_rfl) (by decide) (fun K hK => ?_)
 refine Kd.R_lit_step k46 _ 46 ?hg (N := 85) ?hd (xs := ([(⟨11, 0, 4, 0, wrap64 (fr + 29)⟩ : S46), (⟨1, x1, 0, 0, 0⟩ : S46)] : List S46)) (inner := [.int .i64 11, .int .i64 0, .int .i64 4, .int .i64 0, .int .i64 (wrap64 (fr + 29)), .int .i64 1, .int .i64 x1, .int .i64 0, .int .i64 0, .int .i64 0]) (ok := fun _ => True) (okp := fun _ => True) ?hr ?hp (fun _ hk => hk) trivial (Below.refl _ _) (Nat.le_refl _) (by simp) ?_
 (case hd => rfl)
 (case hg => rfl)
 (case hr => first | (go_simp; done) | (go_simp; rfl))
 (case hp => exact (Reps.c5 (sp_M ..) (Reps.c5 (sp_M ..) (Reps.none _ _))))
 intro vl wl hr hb hg_ hnew
 clear hg_ hnew
 have TMP := Aside0.mk (Kd.R_lower hr HB.out.size)
 clear hr
 replace OUT := Aside0.mk (Kd.R_below OUT.out hb)
 replace BX := Aside0.mk (blk_below BX.out hb)
 replace HB := Aside0.mk (below_step HB.out hb)
 clear hb
 (try clear b0 b1 b2 b3 b4)
 obtain ⟨b0, b1, b2, b3, b4⟩ := sp_box BX
 obtain ⟨At, ct, et⟩ := Kd.R_slice TMP.out
 subst et
 (try clear b0 b1 b2 b3 b4)
 refine hK.out _ _ (sp_box BX) (fun hHeld => ?_)
 clear hK K
 refine normS_ (N := some 85) (h := ?_)
 refine one_ (i := 8) (N := some 86) (tf_ 9 1) rfl rfl (by kernel_rfl) (by decide) (fun K hK => ?_)
 refine Kd.R_append_rows_step k46 (w0 := w0) w0.heap.size (by rfl) (.tmp 78) (.tmp 85) 40 46 (.agg #[(.int .i64 0), (.int .i64 0), (.int .i64 0), (.int .i64 0), (.int .i64 0)]) 40 rfl Try.underlying40 info46 rfl (by decide) (by omega) (.slice Ao y6.length co) y6 [⟨11, 0, 4, 0, wrap64 (fr + 29)⟩, ⟨1, x1, 0, 0, 0⟩] _ _ _ (fun _ => True) (fun _ => False) rfl rfl ?aO ?aR (fun _ _ h => h) (fun _ h => h.elim) ?aF ?aB ?aS ?aL ?_
 (case aO => exact OUT.out)
 (case aR => exact (Kd.R_reads' TMP.out).2.2)
 (case aF => exact (fun _ _ => trivial))
 (case aB => exact HB.out)
 (case aS => exact HB.out.size)
 (case aL => have := L6.out; (try simp only [List.length_cons, List.length_nil, spShut_len, spLet_len]); omega)
 intro va wa ho hb hg hat
 replace BX := Aside0.mk (blk_grown BX.out hg (Kd.R_ne OUT.out BX.out (by decide)))
 obtain ⟨y7, E7⟩ : ∃ y, Aside0 (y = y6 ++ [⟨11, 0, 4, 0, wrap64 (fr + 29)⟩, ⟨1, x1, 0, 0, 0⟩]) := ⟨_, ⟨rfl⟩⟩
 have L7 := Aside0.mk (show y7.length ≤ 80 from by rw [E7.out, List.length_append]; have := L6.out; (try simp only [List.length_cons, List.length_nil, spShut_len, spLet_len]); omega)
 replace OUT := Aside0.mk (show Kd.R k46 46 _ w0.heap.size (fun _ => True) _ y7 from by rw [E7.out]; exact ho)
 replace HB := Aside0.mk hb
 clear ho hb hg hat TMP
 (try clear b0 b1 b2 b3 b4)
 obtain ⟨b0, b1, b2, b3, b4⟩ := sp_box BX
 obtain ⟨Ao, co, eo⟩ := Kd.R_slice OUT.out
 subst eo
 (try clear b0 b1 b2 b3 b4)
 refine hK.out _ _ (sp_box BX) (fun hHeld => ?_)
 clear hK K
 refine normS_ (N := some 86) (h := ?_)
 refine pureP_ (i := 9) (N := some 10) (tf_ 10 0) (by kernel_rfl) (h := ?_)
 refine done_ (by kernel_rfl) ?_
 clear hHeld
 obtain ⟨b0, b1, b2, b3, b4⟩ := sp_box BX
 go_wp2_with (first | (go_at_call 107; (with_reducible refine (spec_l10Set.calls _ _ _ _ _ _ _ _ (espec_l10Set _ _)).mono ?_); rintro e w' ⟨rfl, hb⟩; replace OUT := Aside0.mk (Kd.R_below OUT.out hb); replace BX := Aside0.mk (blk_below BX.out hb); replace HB := Aside0.mk (below_step HB.out hb); clear hb; (try clear b0 b1 b2 b3 b4); obtain ⟨b0, b1, b2, b3, b4⟩ := sp_box BX) | (go_at_call 109; (with_reducible refine (spec_l10Jump.calls _ _ _ _ _ _ _ (espec_l10Jump _)).mono ?_); rintro e w' ⟨rfl, hb⟩; replace OUT := Aside0.mk (Kd.R_below OUT.out hb); replace BX := Aside0.mk (blk_below BX.out hb); replace HB := Aside0.mk (below_step HB.out hb); clear hb; (try clear b0 b1 b2 b3 b4); obtain ⟨b0, b1, b2, b3, b4⟩ := sp_box BX) | ((with_reducible refine gate_dst (N := 98) rfl ?_); refine Kd.R_lit k46 _ 46 ?hg (N := 98) ?hd (xs := ([(⟨1, x3, 0, 0, 0⟩ : S46), (⟨10, 0, 0, 0, wrap64 (fr + 30)⟩ : S46), (⟨10, 0, 0, 0, fr⟩ : S46)] : List S46)) (inner := [.int .i64 1, .int .i64 x3, .int .i64 0, .int .i64 0, .int .i64 0, .int .i64 10, .int .i64 0, .int .i64 0, .int .i64 0, .int .i64 (wrap64 (fr + 30)), .int .i64 10, .int .i64 0, .int .i64 0, .int .i64 0, .int .i64 fr]) (ok := fun _ => True) (okp := fun _ => True) ?hr ?hp (fun _ hk => hk) trivial (Below.refl _ _) (Nat.le_refl _) (by simp) ?_; (case hd => rfl); (case hg => rfl); (case hr => first | (go_simp; done) | (go_simp; rfl)); (case hp => exact (Reps.c5 (sp_M ..) (Reps.c5 (sp_M ..) (Reps.c5 (sp_M ..) (Reps.none _ _))))); intro vl wl hr hb hg_ hnew; clear hg_ hnew; have TMP := Aside0.mk (Kd.R_lower hr HB.out.size); clear hr; replace OUT := Aside0.mk (Kd.R_below OUT.out hb); replace BX := Aside0.mk (blk_below BX.out hb); replace HB := Aside0.mk (below_step HB.out hb); clear hb; (try clear b0 b1 b2 b3 b4); obtain ⟨b0, b1, b2, b3, b4⟩ := sp_box BX; obtain ⟨At, ct, et⟩ := Kd.R_slice TMP.out; subst et) | ((with_reducible refine gate_builtin (b := .append) (xs := #[.tmp 90, .tmp 98]) rfl ?_); at_builtin; refine Kd.R_append_rows k46 (w0 := w0) w0.heap.size rfl (.tmp 90) (.tmp 98) 40 46 (.agg #[(.int .i64 0), (.int .i64 0), (.int .i64 0), (.int .i64 0), (.int .i64 0)]) 40 rfl Try.underlying40 info46 rfl (by decide) (by omega) (.slice Ao y7.length co) y7 [⟨1, x3, 0, 0, 0⟩, ⟨10, 0, 0, 0, wrap64 (fr + 30)⟩, ⟨10, 0, 0, 0, fr⟩] _ _ _ (fun _ => True) (fun _ => False) rfl rfl ?aO ?aR (fun _ _ h => h) (fun _ h => h.elim) ?aF ?aB ?aS ?aL ?_; (case aO => exact OUT.out); (case aR => exact (Kd.R_reads' TMP.out).2.2); (case aF => exact (fun _ _ => trivial)); (case aB => exact HB.out); (case aS => exact HB.out.size); (case aL => have := L7.out; (try simp only [List.length_cons, List.length_nil, spShut_len, spLet_len]); omega); intro va wa ho hb hg hat; replace BX := Aside0.mk (blk_grown BX.out hg (Kd.R_ne OUT.out BX.out (by decide))); obtain ⟨y8, E8⟩ : ∃ y, Aside0 (y = y7 ++ [⟨1, x3, 0, 0, 0⟩, ⟨10, 0, 0, 0, wrap64 (fr + 30)⟩, ⟨10, 0, 0, 0, fr⟩]) := ⟨_, ⟨rfl⟩⟩; have L8 := Aside0.mk (show y8.length ≤ 90 from by rw [E8.out, List.length_append]; have := L7.out; (try simp only [List.length_cons, List.length_nil, spShut_len, spLet_len]); omega); replace OUT := Aside0.mk (show Kd.R k46 46 _ w0.heap.size (fun _ => True) _ y8 from by rw [E8.out]; exact ho); replace HB := Aside0.mk hb; clear ho hb hg hat TMP; (try clear b0 b1 b2 b3 b4); obtain ⟨b0, b1, b2, b3, b4⟩ := sp_box BX; obtain ⟨Ao, co, eo⟩ := Kd.R_slice OUT.out; subst eo))
 go_ret
 exact ⟨_, rfl, (show y8 = sp_takeFL x1 x3 b c fr from by unfold sp_takeFL; rw [E8.out, E7.out, E6.out, E5.out, E4.out, E3.out, E2.out, E1.out, E0.out]) ▸ OUT.out, HB.out⟩
def spec_l10Take.f (x0 x1 x2 x3 x4 b c fr : Int) : Option (List S46) := if x0 = 8 then some (sp_takeTL x1 x3 b c fr) else (if x0 = 6 then some (sp_takeFL x1 x3 b c fr) else none)
theorem spec_l10Take.calls (x0 x1 x2 x3 x4 b c fr : Int) (r : List S46) (w : World) (h : spec_l10Take.f x0 x1 x2 x3 x4 b c fr = some r) :
  Calls Try.prog 113 #[.agg #[.int .i64 x0, .int .i64 x1, .int .i64 x2, .int .i64 x3, .int .i64 x4], .int .i64 b, .int .i64 c, .int .i64 fr] w fun e w' => ∃ v0_ : Value, e = .returned (v0_) ∧ Kd.R k46 46 w' w.heap.size (fun _ => True) v0_ r ∧ Below w.heap.size w w' := by
 unfold spec_l10Take.f at h
 by_cases c1 : x0 = 8
 ·subst c1
  rw [if_pos rfl] at h
  obtain rfl := Option.some.inj h
  exact sp_takeT x1 x2 x3 x4 b c fr w
 ·rw [if_neg c1] at h
  by_cases c2 : x0 = 6
  ·subst c2
   rw [if_pos rfl] at h
   obtain rfl := Option.some.inj h
   exact sp_takeF x1 x2 x3 x4 b c fr w
  ·rw [if_neg c2] at h
   cases h

/-! ### spec_l10Close: function 114 -/
def spec_l10Close.f (a0 : Int) (a1 : Int) : Option ((List (S46))) := (spec_l10Lock.f a0 a1).bind fun t350 => ((spec_l10Shut.f a0 a1).bind fun t353 => (if t350.length + t353.length < 3518437208883 then ((some (t350 ++ t353 : List (S46))).bind fun y356 => ((spec_l10Set.f 7 1).bind fun bt359 => ((spec_l10Store.f (wrap64 (a0 + 3)) 7).bind fun bt364 => ((some (([(⟨bt359.1, bt359.2.1, bt359.2.2.1, bt359.2.2.2.1, bt359.2.2.2.2⟩ : S46), (⟨bt364.1, bt364.2.1, bt364.2.2.1, bt364.2.2.2.1, bt364.2.2.2.2⟩ : S46)] : List (S46)) : List (S46))).bind fun y369 => (if y356.length + y369.length < 3518437208883 then ((some (y356 ++ y369 : List (S46))).bind fun y372 => ((spec_l10Let.f a0).bind fun t375 => (if y372.length + t375.length < 3518437208883 then (some (y372 ++ t375)) else (none)))) else (none)))))) else (none)))
set_option maxHeartbeats 80000000 in
set_option maxRecDepth 100000 in
theorem spec_l10Close.calls (a0 : Int) (a1 : Int) (r : List (S46)) (w : World) (h : spec_l10Close.f a0 a1 = some r) :
  Calls Try.prog 114 #[.int .i64 a0, .int .i64 a1] w fun e w' => ∃ v0_ : Value, e = .returned (v0_) ∧ Kd.R k46 46 w' w.heap.size (fun _ => True) v0_ r ∧ Below w.heap.size w w' := by
 have HB := Aside0.mk (Below.refl w.heap.size w)
 have H : ((spec_l10Lock.f a0 a1).bind fun t350 => ((spec_l10Shut.f a0 a1).bind fun t353 => (if t350.length + t353.length < 3518437208883 then ((some (t350 ++ t353 : List (S46))).bind fun y356 => ((spec_l10Set.f 7 1).bind fun bt359 => ((spec_l10Store.f (wrap64 (a0 + 3)) 7).bind fun bt364 => ((some (([(⟨bt359.1, bt359.2.1, bt359.2.2.1, bt359.2.2.2.1, bt359.2.2.2.2⟩ : S46), (⟨bt364.1, bt364.2.1, bt364.2.2.1, bt364.2.2.2.1, bt364.2.2.2.2⟩ : S46)] : List (S46)) : List (S46))).bind fun y369 => (if y356.length + y369.length < 3518437208883 then ((some (y356 ++ y369 : List (S46))).bind fun y372 => ((spec_l10Let.f a0).bind fun t375 => (if y372.length + t375.length < 3518437208883 then (some (y372 ++ t375)) else (none)))) else (none)))))) else (none)))) = some r := h
 clear h
 replace H := Option.bind_eq_some_iff.mp H
 obtain ⟨t350, A30, H⟩ := H
 (try dsimp only at H)
 have A3 := Aside0.mk A30
 clear A30
 replace H := Option.bind_eq_some_iff.mp H
 obtain ⟨t353, A40, H⟩ := H
 (try dsimp only at H)
 have A4 := Aside0.mk A40
 clear A40
 by_cases c5 : t350.length + t353.length < 3518437208883
 ·rw [if_pos c5] at H
  have LMc5 := Aside0.mk c5
  clear c5
  obtain ⟨y356, hy356⟩ : ∃ y_ : List (S46), y_ = (t350 ++ t353) := ⟨_, rfl⟩
  replace H := yy_ H hy356
  have Ny356 := Aside0.mk hy356
  clear hy356
  replace H := Option.bind_eq_some_iff.mp H
  obtain ⟨⟨t359, t360, t361, t362, t363⟩, A60, H⟩ := H
  (try dsimp only at H)
  have A6 := Aside0.mk A60
  clear A60
  replace H := Option.bind_eq_some_iff.mp H
  obtain ⟨⟨t364, t365, t366, t367, t368⟩, A70, H⟩ := H
  (try dsimp only at H)
  have A7 := Aside0.mk A70
  clear A70
  obtain ⟨y369, hy369⟩ : ∃ y_ : List (S46), y_ = (([(⟨t359, t360, t361, t362, t363⟩ : S46), (⟨t364, t365, t366, t367, t368⟩ : S46)] : List (S46))) := ⟨_, rfl⟩
  replace H := yy_ H hy369
  have Ny369 := Aside0.mk hy369
  clear hy369
  by_cases c8 : y356.length + y369.length < 3518437208883
  ·rw [if_pos c8] at H
   have LMc8 := Aside0.mk c8
   clear c8
   obtain ⟨y372, hy372⟩ : ∃ y_ : List (S46), y_ = (y356 ++ y369) := ⟨_, rfl⟩
   replace H := yy_ H hy372
   have Ny372 := Aside0.mk hy372
   clear hy372
   replace H := Option.bind_eq_some_iff.mp H
   obtain ⟨t375, A90, H⟩ := H
   (try dsimp only at H)
   have A9 := Aside0.mk A90
   clear A90
   by_cases c10 : y372.length + t375.length < 3518437208883
   ·rw [if_pos c10] at H
    have LMc10 := Aside0.mk c10
    clear c10
    obtain ⟨y378, hy378⟩ : ∃ y_ : List (S46), y_ = (y372 ++ t375) := ⟨_, rfl⟩
    replace H : (some y378) = some r := by rw [hy378]; exact H
    have Ny378 := Aside0.mk hy378
    clear hy378
    obtain rfl := Option.some.inj H
    go_enter Try.func114, Try.ntmps114
    go_wp2_with (first | ((with_reducible refine gate_callee (f := 175) rfl ?_); refine goesL_ (some 8) rfl rfl Try.func175 (by kernel_rfl) rfl #[.int .i64 a0, .int .i64 a1] rfl atgM_ ?_; (with_reducible refine (spec_l10Lock.calls a0 a1 t350 _ A3.out).mono ?_); rintro e w11 ⟨v351, rfl, ho0, hb⟩; refine ⟨_, rfl, ?_⟩; refine swap2_ (Kd.R_lower ho0 (below_size atgB_)) (below_step atgB_ hb) ?_; clear HB; intro HO352 HB; (try clear hb); (try clear hb2); (try clear hk); (try clear hi); (try clear ho0)) | ((with_reducible refine gate_callee (f := 176) rfl ?_); refine goesL_ (some 11) rfl rfl Try.func176 (by kernel_rfl) rfl #[.int .i64 a0, .int .i64 a1] rfl atgM_ ?_; (with_reducible refine (spec_l10Shut.calls a0 a1 t353 _ A4.out).mono ?_); rintro e w12 ⟨v354, rfl, ho0, hb⟩; refine ⟨_, rfl, ?_⟩; refine swap3_ (Kd.R_elder' att14_0_7 (Kd.R_base ho0) hb) (Kd.R_lower (Kd.R_new' ho0 (Kd.R_lt att14_0_7)) (below_size atgB_)) (below_step atgB_ hb) ?_; clear HO352 HB; intro HO352 HO355 HB; (try clear hb); (try clear hb2); (try clear hk); (try clear hi); (try clear ho0); obtain ⟨Ao14, co14, eo14⟩ := Kd.R_slice HO355.out; subst eo14) | ((with_reducible refine gate_builtin (b := .append) (xs := #[.tmp 8, .tmp 11]) rfl ?_); at_builtin; refine Kd.R_append_rows k46 (w0 := w) w.heap.size rfl (.tmp 8) (.tmp 11) 40 46 (.agg #[(.int .i64 0), (.int .i64 0), (.int .i64 0), (.int .i64 0), (.int .i64 0)]) 40 rfl Try.underlying40 info46 rfl (by decide) (by omega) v351 t350 t353 _ _ _ (fun k_ => some k_ ≠ (.slice Ao14 t353.length co14 : Value).ownBlock) (fun _ => False) rfl rfl ?aO ?aR (fun _ _ h => h) (fun _ h => h.elim) ?aF ?aB ?aS ?aL ?_; (case aR => repeat (first | exact (Kd.R_reads' HO355.out).2.2 | (with_reducible refine Kd.C_alloc ?_ _) | (with_reducible refine Kd.C_drewN ?_ _) | (with_reducible refine Kd.C_drew ?_))); (case aB => exact atgB_); (case aF => exact (fun k_ hk => Kd.fresh' (Kd.R_lt att14_0_1) k_ hk)); (case aO => exact (by exact toR_ (Kd.R_mono HO352.out (fun _ hk => hk.2)))); (case aS => exact (below_size atgB_)); (case aL => have := LMc5.out; omega); intro v357 w13 ho hb hg hat; rw [← Ny356.out] at ho; refine swap3_ (Kd.R_after (ok := (fun _ => True)) att14_0_1 hg hat) (hb) (ho) ?_; clear HO355 HB HO352; intro HO355 HB HO358; clear ho hb hg hat) | ((with_reducible refine gate_callee (f := 107) rfl ?_); refine goesL_ (some 14) rfl rfl Try.func107 (by kernel_rfl) rfl #[.int .i64 7, .int .i64 1] rfl atgM_ ?_; (with_reducible refine (spec_l10Set.calls 7 1 t359 t360 t361 t362 t363 _ A6.out).mono ?_); rintro e w15 ⟨rfl, hb⟩; refine ⟨_, rfl, ?_⟩; refine swap3_ (Kd.R_below att14_0_1 hb) (Kd.R_below att14_0_3 hb) (below_step atgB_ hb) ?_; clear HO355 HO358 HB; intro HO355 HO358 HB; (try clear hb); (try clear hb2); (try clear hk); (try clear hi)) | ((with_reducible refine gate_callee (f := 178) rfl ?_); refine goesL_ (some 17) rfl rfl Try.func178 (by kernel_rfl) rfl #[.int .i64 (wrap64 (a0 + 3)), .int .i64 7] rfl atgM_ ?_; (with_reducible refine (spec_l10Store.calls (wrap64 (a0 + 3)) 7 t364 t365 t366 t367 t368 _ A7.out).mono ?_); rintro e w16 ⟨rfl, hb⟩; refine ⟨_, rfl, ?_⟩; refine swap3_ (Kd.R_below att14_0_1 hb) (Kd.R_below att14_0_3 hb) (below_step atgB_ hb) ?_; clear HO355 HO358 HB; intro HO355 HO358 HB; (try clear hb); (try clear hb2); (try clear hk); (try clear hi)) | ((with_reducible refine gate_dst (N := 18) rfl ?_); refine Kd.R_lit k46 _ 46 ?hg (N := 18) ?hd (xs := ([(⟨t359, t360, t361, t362, t363⟩ : S46), (⟨t364, t365, t366, t367, t368⟩ : S46)] : List (S46))) (inner := [.int .i64 t359, .int .i64 t360, .int .i64 t361, .int .i64 t362, .int .i64 t363, .int .i64 t364, .int .i64 t365, .int .i64 t366, .int .i64 t367, .int .i64 t368]) (ok := fun _ => True) (okp := fun _ => True) ?hr ?hp (fun _ hk => hk) trivial (Below.refl _ _) (Nat.le_refl _) (by simp) ?_; (case hd => rfl); (case hg => rfl); (case hr => first | (go_simp; done) | (go_simp; rfl)); (case hp => exact (Reps.c5 (show Kd.M k46 _ _ _ (⟨t359, t360, t361, t362, t363⟩ : S46) [.int .i64 t359, .int .i64 t360, .int .i64 t361, .int .i64 t362, .int .i64 t363] from (k46_mkM _ _ _ (⟨t359, t360, t361, t362, t363⟩ : S46) )) (Reps.c5 (show Kd.M k46 _ _ _ (⟨t364, t365, t366, t367, t368⟩ : S46) [.int .i64 t364, .int .i64 t365, .int .i64 t366, .int .i64 t367, .int .i64 t368] from (k46_mkM _ _ _ (⟨t364, t365, t366, t367, t368⟩ : S46) )) (Reps.none _ _)))); intro v370 w17 ho18 hb hg_ hnew_; clear hg_ hnew_; (first | rw [← Ny369.out] at ho18 | (simp only [Int.reduceToNat] at ho18; rw [← Ny369.out] at ho18)); refine swap4_ (Kd.R_elder' att14_0_1 (Kd.R_base ho18) hb) (Kd.R_elder' att14_0_3 (Kd.R_base ho18) hb) (Kd.R_lower (Kd.R_new' (Kd.R_new' ho18 (Kd.R_lt att14_0_1)) (Kd.R_lt att14_0_3)) (below_size atgB_)) (below_step atgB_ hb) ?_; clear HO355 HO358 HB; intro HO355 HO358 HO371 HB; clear hb ho18; obtain ⟨Ao20, co20, eo20⟩ := Kd.R_slice HO371.out; subst eo20) | ((with_reducible refine gate_builtin (b := .append) (xs := #[.tmp 13, .tmp 18]) rfl ?_); at_builtin; refine Kd.R_append_rows k46 (w0 := w) w.heap.size rfl (.tmp 13) (.tmp 18) 40 46 (.agg #[(.int .i64 0), (.int .i64 0), (.int .i64 0), (.int .i64 0), (.int .i64 0)]) 40 rfl Try.underlying40 info46 rfl (by decide) (by omega) v357 y356 y369 _ _ _ (fun k_ => some k_ ≠ (.slice Ao14 t353.length co14 : Value).ownBlock ∧ some k_ ≠ (.slice Ao20 y369.length co20 : Value).ownBlock) (fun _ => False) rfl rfl ?aO ?aR (fun _ _ h => h) (fun _ h => h.elim) ?aF ?aB ?aS ?aL ?_; (case aR => repeat (first | exact (Kd.R_reads' HO371.out).2.2 | (with_reducible refine Kd.C_alloc ?_ _) | (with_reducible refine Kd.C_drewN ?_ _) | (with_reducible refine Kd.C_drew ?_))); (case aB => exact atgB_); (case aF => exact (fun k_ hk => ⟨Kd.fresh' (Kd.R_lt att14_0_1) k_ hk, Kd.fresh' (Kd.R_lt att14_0_5) k_ hk⟩)); (case aO => exact att14_0_3); (case aS => exact (below_size atgB_)); (case aL => have := LMc8.out; omega); intro v373 w19 ho hb hg hat; rw [← Ny372.out] at ho; refine swap4_ (Kd.R_after (ok := (fun k_ => some k_ ≠ (.slice Ao20 y369.length co20 : Value).ownBlock)) (by exact toR_ (Kd.R_mono HO355.out (fun _ hk => ⟨hk.2, hk.1.2⟩))) hg hat) (Kd.R_after (ok := (fun k_ => some k_ ≠ (.slice Ao14 t353.length co14 : Value).ownBlock)) (by exact toR_ (Kd.R_mono HO371.out (fun _ hk => ⟨hk.1.2, hk.2⟩))) hg hat) (hb) (ho) ?_; clear HO355 HO371 HB HO358; intro HO355 HO371 HB HO374; clear ho hb hg hat) | ((with_reducible refine gate_callee (f := 179) rfl ?_); refine goesL_ (some 22) rfl rfl Try.func179 (by kernel_rfl) rfl #[.int .i64 a0] rfl atgM_ ?_; (with_reducible refine (spec_l10Let.calls a0 t375 _ A9.out).mono ?_); rintro e w21 ⟨v376, rfl, ho0, hb⟩; refine ⟨_, rfl, ?_⟩; refine swap5_ (Kd.R_elder' att14_0_1 (Kd.R_base ho0) hb) (Kd.R_elder' att14_0_5 (Kd.R_base ho0) hb) (Kd.R_elder' att14_0_6 (Kd.R_base ho0) hb) (Kd.R_lower (Kd.R_new' (Kd.R_new' (Kd.R_new' ho0 (Kd.R_lt att14_0_1)) (Kd.R_lt att14_0_5)) (Kd.R_lt att14_0_6)) (below_size atgB_)) (below_step atgB_ hb) ?_; clear HO355 HO371 HO374 HB; intro HO355 HO371 HO374 HO377 HB; (try clear hb); (try clear hb2); (try clear hk); (try clear hi); (try clear ho0); obtain ⟨Ao23, co23, eo23⟩ := Kd.R_slice HO377.out; subst eo23) | ((with_reducible refine gate_builtin (b := .append) (xs := #[.tmp 20, .tmp 22]) rfl ?_); at_builtin; refine Kd.R_append_rows k46 (w0 := w) w.heap.size rfl (.tmp 20) (.tmp 22) 40 46 (.agg #[(.int .i64 0), (.int .i64 0), (.int .i64 0), (.int .i64 0), (.int .i64 0)]) 40 rfl Try.underlying40 info46 rfl (by decide) (by omega) v373 y372 t375 _ _ _ (fun k_ => some k_ ≠ (.slice Ao14 t353.length co14 : Value).ownBlock ∧ some k_ ≠ (.slice Ao20 y369.length co20 : Value).ownBlock ∧ some k_ ≠ (.slice Ao23 t375.length co23 : Value).ownBlock) (fun _ => False) rfl rfl ?aO ?aR (fun _ _ h => h) (fun _ h => h.elim) ?aF ?aB ?aS ?aL ?_; (case aR => repeat (first | exact (Kd.R_reads' HO377.out).2.2 | (with_reducible refine Kd.C_alloc ?_ _) | (with_reducible refine Kd.C_drewN ?_ _) | (with_reducible refine Kd.C_drew ?_))); (case aB => exact atgB_); (case aF => exact (fun k_ hk => ⟨Kd.fresh' (Kd.R_lt att14_0_1) k_ hk, Kd.fresh' (Kd.R_lt att14_0_5) k_ hk, Kd.fresh' (Kd.R_lt (by exact toR_ (HO377.out))) k_ hk⟩)); (case aO => exact (by exact toR_ (Kd.R_mono HO374.out (fun _ hk => ⟨hk.1.1, ⟨hk.1.2, hk.2⟩⟩)))); (case aS => exact (below_size atgB_)); (case aL => have := LMc10.out; omega); intro v379 w22 ho hb hg hat; rw [← Ny378.out] at ho; refine swap5_ (Kd.R_after (ok := (fun k_ => some k_ ≠ (.slice Ao20 y369.length co20 : Value).ownBlock ∧ some k_ ≠ (.slice Ao23 t375.length co23 : Value).ownBlock)) (by exact toR_ (Kd.R_mono HO355.out (fun _ hk => ⟨⟨hk.1.1, hk.2⟩, hk.1.2⟩))) hg hat) (Kd.R_after (ok := (fun k_ => some k_ ≠ (.slice Ao14 t353.length co14 : Value).ownBlock ∧ some k_ ≠ (.slice Ao23 t375.length co23 : Value).ownBlock)) (by exact toR_ (Kd.R_mono HO371.out (fun _ hk => ⟨⟨hk.1.1, hk.2⟩, hk.1.2⟩))) hg hat) (Kd.R_after (ok := (fun k_ => some k_ ≠ (.slice Ao14 t353.length co14 : Value).ownBlock ∧ some k_ ≠ (.slice Ao20 y369.length co20 : Value).ownBlock)) (by exact toR_ (Kd.R_mono HO377.out (fun _ hk => ⟨⟨hk.1.1.2, hk.1.2⟩, hk.2⟩))) hg hat) (hb) (ho) ?_; clear HO355 HO371 HO377 HB HO374; intro HO355 HO371 HO377 HB HO380; clear ho hb hg hat))
    go_ret
    exact ⟨_, retT_, by exact toR_ (Kd.R_mono HO380.out (fun _ hk => trivial)), atgB_⟩
   ·rw [if_neg c10] at H
    exact absurd H (by simp)
  ·rw [if_neg c8] at H
   exact absurd H (by simp)
 ·rw [if_neg c5] at H
  exact absurd H (by simp)

end Go.Proofs.Ytonlhgkpmjefkaa.XFnEmitted
