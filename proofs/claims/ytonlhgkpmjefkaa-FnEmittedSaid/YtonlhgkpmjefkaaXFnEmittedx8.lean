/- Each Go function that the law reaches as a Lean function, and that Go comes to just its answer; written by this session's xprint.py over the kit's printer. -/
import Derived.Test.YtonlhgkpmjefkaaXFnEmittedx0
import Derived.Test.YtonlhgkpmjefkaaXFnEmittedx5
import Derived.Test.YtonlhgkpmjefkaaXFnEmittedx6
import Derived.Test.YtonlhgkpmjefkaaXFnEmittedx7
namespace Go.Proofs.Ytonlhgkpmjefkaa.XFnEmitted
open Go.RowKit Go.Proofs.YtonlhgkpmjefkaaW.PrintWords Go.Proofs.YtonlhgkpmjefkaaW.PrintLast Go.Proofs.YtonlhgkpmjefkaaW.PrintMore
attribute [local go_sem] max2_int min2_int max_two min_two max_three min_three max_four min_four   -- for this text's walks alone
set_option linter.unusedVariables false
set_option linter.unusedSimpArgs false

theorem att9_0_0 {p : Prop} (h : p := by rintro w' ⟨s0, s1, s2, s3, s4, s5, s6, s7, s8⟩; go_simp; with_reducible rfl) : p := h
theorem att9_0_1 {p : Prop} (h : p := by rintro w' ⟨s0, s1, s2, s3⟩; go_simp; with_reducible rfl) : p := h
theorem att9_0_2 {p : Prop} (h : p := by rw [hg]; exact HB.out.size) : p := h
/-! ### impl_Emit: function 22 -/
/-- The emitter: its list so far, where it begins, Base and room. -/
def Em (w0 w : World) (g : Nat) (xs : List S46) (fr ba ro : Int) : Prop :=
 ∃ v : Value, w.heap[g]? = some (.cells #[v, .int .i64 fr, .int .i64 ba, .int .i64 ro] 126 (0, 0)) ∧ Kd.R k46 46 w w0.heap.size (fun k => k ≠ g) v xs ∧ Below w0.heap.size w0 w ∧ w0.heap.size ≤ g
/-- What is neither the emitter nor a row of steps stays. -/
def Fr (g : Nat) (w w' : World) : Prop := w.heap.size ≤ w'.heap.size ∧ ∀ k cs t, w.heap[k]? = some (.cells cs t (0, 0)) → t ≠ 46 → k ≠ g → w'.heap[k]? = some (.cells cs t (0, 0))
theorem Fr.trans {g : Nat} {w w1 w2 : World} (h : Fr g w w1) (h2 : Fr g w1 w2) : Fr g w w2 := ⟨Nat.le_trans h.1 h2.1, fun k cs t hk ht hg => h2.2 k cs t (h.2 k cs t hk ht hg) ht hg⟩
theorem Fr.below {g : Nat} {w w1 : World} (h : Below w.heap.size w w1) : Fr g w w1 := ⟨h.size, fun k cs t hk _ _ => blk_below hk h⟩
theorem Fr.grown {g b : Nat} {ok : Nat → Prop} {v : Value} {xs : List S46} {w w1 : World} (hr : Kd.R k46 46 w b ok v xs) (hs : w.heap.size ≤ w1.heap.size) (h : w.grownBy w1 v.ownBlock) : Fr g w w1 := ⟨hs, fun k cs t hk ht _ => blk_grown hk h (fun e => by
 obtain ⟨cells, hc⟩ := Kd.R_typed hr k e.symm
 rw [hk] at hc
 simp at hc
 exact ht hc.2)⟩
theorem Fr.set (g : Nat) (w : World) (u : Value) : Fr g w (w.setCell ⟨g, 0, none⟩ u) := ⟨by simp [World.setCell], fun k cs t hk _ hg => (Below.heap_setCell w ⟨g, 0, none⟩ u k hg).trans hk⟩
theorem Em.below {w0 w w' : World} {g : Nat} {xs : List S46} {fr ba ro : Int} (h : Em w0 w g xs fr ba ro) (hb : Below w.heap.size w w') : Em w0 w' g xs fr ba ro := by
 obtain ⟨v, h1, h2, h3, h4⟩ := h
 exact ⟨v, (hb.block g (blk_lt h1)).trans h1, Kd.R_below h2 hb, below_step h3 hb, h4⟩
theorem Em.fin {w0 w1 : World} {g c : Nat} {A : Option Addr} {xs : List S46} {s : S46} {fr ba ro : Int} {u : Value} (hb : w1.heap[g]? = some (.cells #[u, .int .i64 fr, .int .i64 ba, .int .i64 ro] 126 (0, 0))) (hr : Kd.R k46 46 w1 w0.heap.size (fun k => k ≠ g) (.slice A (xs ++ [s]).length c) (xs ++ [s])) (hB : Below w0.heap.size w0 w1) (hg : w0.heap.size ≤ g) :
  Em w0 (w1.setCell ⟨g, 0, none⟩ (.slice A (xs.length + 1) c)) g (xs ++ [s]) fr ba ro := by
 rw [List.length_append, List.length_singleton] at hr
 exact ⟨_, blk_put (cs := #[u, .int .i64 fr, .int .i64 ba, .int .i64 ro]) hb 0 _ rfl, Kd.R_far (p := ⟨g, 0, none⟩) hr (fun _ hk => hk) _, below_set hB hg, hg⟩
theorem Em.cast {w0 w : World} {g : Nat} {xs zs : List S46} {fr ba ro : Int} (h : Em w0 w g xs fr ba ro) (e : xs = zs) : Em w0 w g zs fr ba ro := e ▸ h
theorem app_cast {ys zs : List S46} (e : ys = zs) (s : S46) : ys ++ [s] = zs ++ [s] := by rw [e]
theorem em_cells {w : World} {g : Nat} {a b c d : Value} (h : Aside0 (w.heap[g]? = some (.cells #[a, b, c, d] 126 (0, 0)))) : w.cell? ⟨g, 0, none⟩ = some a ∧ w.cell? ⟨g, 1, none⟩ = some b ∧ w.cell? ⟨g, 2, none⟩ = some c ∧ w.cell? ⟨g, 3, none⟩ = some d := ⟨(blk_cell h.out 0).trans rfl, (blk_cell h.out 1).trans rfl, (blk_cell h.out 2).trans rfl, (blk_cell h.out 3).trans rfl⟩
theorem Em.cells {w0 w : World} {g : Nat} {xs : List S46} {fr ba ro : Int} (h : Em w0 w g xs fr ba ro) : w.cell? ⟨g, 1, none⟩ = some (.int .i64 fr) ∧ w.cell? ⟨g, 2, none⟩ = some (.int .i64 ba) ∧ w.cell? ⟨g, 3, none⟩ = some (.int .i64 ro) := by
 obtain ⟨v, h1, _⟩ := h
 exact (em_cells ⟨h1⟩).2
theorem em_box {w : World} {g : Nat} {a b c d e : Value} (h : Aside0 (w.heap[g]? = some (.cells #[a, b, c, d, e] 37 (0, 0)))) : w.cell? ⟨g, 0, none⟩ = some a ∧ w.cell? ⟨g, 1, none⟩ = some b ∧ w.cell? ⟨g, 2, none⟩ = some c ∧ w.cell? ⟨g, 3, none⟩ = some d ∧ w.cell? ⟨g, 4, none⟩ = some e := ⟨(blk_cell h.out 0).trans rfl, (blk_cell h.out 1).trans rfl, (blk_cell h.out 2).trans rfl, (blk_cell h.out 3).trans rfl, (blk_cell h.out 4).trans rfl⟩
set_option maxHeartbeats 16000000 in
set_option maxRecDepth 100000 in
theorem em_set (w0 w : World) (g : Nat) (xs : List S46) (fr ba ro r n : Int) (hl : xs.length ≤ 1000) (h : Em w0 w g xs fr ba ro) :
  Calls Try.prog 166 #[.pointer (some ⟨g, 0, none⟩), .int .i64 r, .int .i64 n] w fun e w' => e = .returned (.tuple #[]) ∧ Em w0 w' g (xs ++ [⟨1, r, 0, 0, n⟩]) fr ba ro ∧ Fr g w w' := by
 have hu126 := Try.underlying126
 have hu46 := Try.underlying46
 have HL := Aside0.mk hl
 have EM := Aside0.mk h
 clear hl h
 obtain ⟨v, hb, hr, hB, hg⟩ := EM.out
 obtain ⟨A, c, rfl⟩ := Kd.R_slice hr
 have HE := Aside0.mk hb
 have HR := Aside0.mk hr
 have HB := Aside0.mk hB
 have HG := Aside0.mk hg
 clear hb hr hB hg EM
 have FR := Aside0.mk (Fr.below (g := g) (Below.refl w.heap.size w))
 obtain ⟨hc0, hc1, hc2, hc3⟩ := em_cells HE
 have hf0 := blk_frozen HE.out 0
 go_enter Try.func166, Try.ntmps166
 go_wp2_with (first | ((with_reducible refine gate_dst (N := 14) rfl ?_); refine Kd.R_lit k46 _ 46 ?hg (N := 14) ?hd (xs := ([⟨1, r, 0, 0, n⟩] : List S46)) (inner := [.int .i64 1, .int .i64 r, .int .i64 0, .int .i64 0, .int .i64 n]) (ok := fun _ => True) (okp := fun _ => True) ?hr ?hp (fun _ hk => hk) trivial (Below.refl _ _) (Nat.le_refl _) (by simp) ?_; (case hd => rfl); (case hg => rfl); (case hr => first | (go_simp; done) | (go_simp; rfl)); (case hp => exact (Reps.c5 (show Kd.M k46 _ _ _ (⟨1, r, 0, 0, n⟩ : S46) [.int .i64 1, .int .i64 r, .int .i64 0, .int .i64 0, .int .i64 n] from (k46_mkM _ _ _ (⟨1, r, 0, 0, n⟩ : S46))) (Reps.none _ _))); intro vl wl hl hb hg_ hnew; replace HE := Aside0.mk (blk_below HE.out hb); replace HR := Aside0.mk (Kd.R_below HR.out hb); have HX := Aside0.mk hl; replace HB := Aside0.mk (below_step HB.out hb); replace FR := Aside0.mk (FR.out.trans (Fr.below hb)); clear hb hg_ hnew hl; obtain ⟨Al, cL, el⟩ := Kd.R_slice HX.out; subst el; clear hc0 hc1 hc2 hc3 hf0; obtain ⟨hc0, hc1, hc2, hc3⟩ := em_cells HE; have hf0 := blk_frozen HE.out 0) | ((with_reducible refine gate_builtin (b := .append) (xs := #[.tmp 10, .tmp 14]) rfl ?_); at_builtin; refine Kd.R_append_rows k46 (w0 := w0) w0.heap.size rfl (.tmp 10) (.tmp 14) 40 46 (.agg #[(.int .i64 0), (.int .i64 0), (.int .i64 0), (.int .i64 0), (.int .i64 0)]) 40 rfl Try.underlying40 info46 rfl (by decide) (by omega) (.slice A xs.length c) xs [⟨1, r, 0, 0, n⟩] _ _ _ (fun k => k ≠ g) (fun _ => False) rfl rfl ?aO ?aR (fun _ _ h => h) (fun _ h => h.elim) ?aF ?aB ?aS ?aL ?_; (case aO => exact HR.out); (case aR => exact (Kd.R_reads' HX.out).2.2); (case aF => exact Kd.freshB HE.out); (case aB => exact HB.out); (case aS => exact HB.out.size); (case aL => have := HL.out; simp only [List.length_singleton]; omega); intro va wa ho hb hg hat; replace FR := Aside0.mk (FR.out.trans (Fr.grown HR.out hg.size hg)); replace HE := Aside0.mk (blk_grown HE.out hg (Kd.R_away HR.out (fun _ hk => hk))); replace HR := Aside0.mk ho; replace HB := Aside0.mk hb; clear ho hb hg hat; obtain ⟨Aa, ca, ea⟩ := Kd.R_slice HR.out; subst ea; clear hc0 hc1 hc2 hc3 hf0; obtain ⟨hc0, hc1, hc2, hc3⟩ := em_cells HE; have hf0 := blk_frozen HE.out 0))
 go_end0
 exact ⟨rfl, Em.fin HE.out HR.out HB.out HG.out, FR.out.trans (Fr.set _ _ _)⟩
set_option maxHeartbeats 16000000 in
set_option maxRecDepth 100000 in
theorem em_zero (w0 w : World) (g : Nat) (xs : List S46) (fr ba ro a nx : Int) (hl : xs.length ≤ 1000) (h : Em w0 w g xs fr ba ro) :
  Calls Try.prog 167 #[.pointer (some ⟨g, 0, none⟩), .int .i64 a, .int .i64 nx] w fun e w' => e = .returned (.tuple #[]) ∧ Em w0 w' g (xs ++ [⟨11, 0, a, 0, wrap64 (fr + nx)⟩]) fr ba ro ∧ Fr g w w' := by
 have hu126 := Try.underlying126
 have hu46 := Try.underlying46
 have HL := Aside0.mk hl
 have EM := Aside0.mk h
 clear hl h
 obtain ⟨v, hb, hr, hB, hg⟩ := EM.out
 obtain ⟨A, c, rfl⟩ := Kd.R_slice hr
 have HE := Aside0.mk hb
 have HR := Aside0.mk hr
 have HB := Aside0.mk hB
 have HG := Aside0.mk hg
 clear hb hr hB hg EM
 have FR := Aside0.mk (Fr.below (g := g) (Below.refl w.heap.size w))
 go_enter Try.func167, Try.ntmps167
 try go_wp2
 have hE1 := Aside0.mk (blk_below HE.out (below_drew1 (Below.refl _ _)))
 have n0_ := Aside0.mk (Kd.R_drew HR.out)
 have n1_ := Aside0.mk (below_drew1 HB.out)
 have n2_ := Aside0.mk (FR.out.trans (Fr.below (below_drew1 (Below.refl _ _))))
 clear HE HR HB FR
 have HE := hE1
 have HR := n0_
 have HB := n1_
 have FR := n2_
 clear hE1 n0_ n1_ n2_
 refine start_ (n := 18) (S := fun w' => w'.cell? ⟨g, 0, none⟩ = some (.slice A xs.length c) ∧ w'.cell? ⟨g, 1, none⟩ = some (.int .i64 fr) ∧ w'.cell? ⟨g, 2, none⟩ = some (.int .i64 ba) ∧ w'.cell? ⟨g, 3, none⟩ = some (.int .i64 ro)) (ds := [17]) (tf_ 0 18) (by kernel_rfl) rfl rfl (em_cells HE) (fun hHeld => ?_)
 generalize World.drew _ = w1 at HE HR HB FR hHeld ⊢
 refine pureP_ (i := 0) (N := some 6) (tf_ 1 17) (by kernel_rfl) (h := ?_)
 refine pureP_ (i := 1) (N := some 7) (tf_ 2 16) (by kernel_rfl) (h := ?_)
 refine pureP_ (i := 2) (N := some 8) (tf_ 3 15) (by kernel_rfl) (h := ?_)
 refine pureP_ (i := 3) (N := some 9) (tf_ 4 14) (by kernel_rfl) (h := ?_)
 refine takeP_ (i := 4) (N := some 10) (tf_ 5 13) (by kernel_rfl) hHeld (hy := Or.inl ⟨by rfl, att9_0_1⟩) (h := ?_)
 refine pureP_ (i := 5) (N := some 11) (tf_ 6 12) (by kernel_rfl) (h := ?_)
 refine pureP_ (i := 6) (N := some 12) (tf_ 7 11) (by kernel_rfl) (h := ?_)
 refine pureP_ (i := 7) (N := some 13) (tf_ 8 10) (by kernel_rfl) (h := ?_)
 refine pureP_ (i := 8) (N := some 14) (tf_ 9 9) (by kernel_rfl) (h := ?_)
 refine takeP_ (i := 9) (N := some 15) (tf_ 10 8) (by kernel_rfl) hHeld (hy := Or.inl ⟨by rfl, att9_0_1⟩) (h := ?_)
 refine pureP_ (i := 10) (N := some 16) (tf_ 11 7) (by kernel_rfl) (h := ?_)
 refine pureP_ (i := 11) (N := some 17) (tf_ 12 6) (by kernel_rfl) (h := ?_)
 refine pureP_ (i := 12) (N := some 18) (tf_ 13 5) (by kernel_rfl) (h := ?_)
 refine one_ (i := 13) (N := some 19) (tf_ 14 4) rfl rfl (by kernel_rfl) (by decide) (fun K hK => ?_)
 refine Kd.R_lit_step k46 _ 46 ?hg (N := 19) ?hd (xs := ([⟨11, 0, a, 0, wrap64 (fr + nx)⟩] : List S46)) (inner := [.int .i64 11, .int .i64 0, .int .i64 a, .int .i64 0, .int .i64 (wrap64 (fr + nx))]) (ok := fun _ => True) (okp := fun _ => True) ?hr ?hp (fun _ hk => hk) trivial (Below.refl _ _) (Nat.le_refl _) (by simp) ?_
 (case hd => rfl)
 (case hg => rfl)
 (case hr => first | (go_simp; done) | (go_simp; rfl))
 (case hp => exact (Reps.c5 (show Kd.M k46 _ _ _ (⟨11, 0, a, 0, wrap64 (fr + nx)⟩ : S46) [.int .i64 11, .int .i64 0, .int .i64 a, .int .i64 0, .int .i64 (wrap64 (fr + nx))] from (k46_mkM _ _ _ (⟨11, 0, a, 0, wrap64 (fr + nx)⟩ : S46))) (Reps.none _ _)))
 intro vl wl hl hb hg_ hnew
 replace HE := Aside0.mk (blk_below HE.out hb)
 replace HR := Aside0.mk (Kd.R_below HR.out hb)
 have HX := Aside0.mk hl
 replace HB := Aside0.mk (below_step HB.out hb)
 replace FR := Aside0.mk (FR.out.trans (Fr.below hb))
 clear hb hg_ hnew hl
 obtain ⟨Al, cL, el⟩ := Kd.R_slice HX.out
 subst el
 refine hK.out _ _ (em_cells HE) (fun hHeld => ?_)
 clear hK K
 refine normS_ (N := some 19) (h := ?_)
 refine one_ (i := 14) (N := some 20) (tf_ 15 3) rfl rfl (by kernel_rfl) (by decide) (fun K hK => ?_)
 refine Kd.R_append_rows_step k46 (w0 := w0) w0.heap.size (by rfl) (.tmp 10) (.tmp 19) 40 46 (.agg #[(.int .i64 0), (.int .i64 0), (.int .i64 0), (.int .i64 0), (.int .i64 0)]) 40 rfl Try.underlying40 info46 rfl (by decide) (by omega) (.slice A xs.length c) xs [⟨11, 0, a, 0, wrap64 (fr + nx)⟩] _ _ _ (fun k => k ≠ g) (fun _ => False) rfl rfl ?aO ?aR (fun _ _ h => h) (fun _ h => h.elim) ?aF ?aB ?aS ?aL ?_
 (case aO => exact HR.out)
 (case aR => exact (Kd.R_reads' HX.out).2.2)
 (case aF => exact Kd.freshB HE.out)
 (case aB => exact HB.out)
 (case aS => exact HB.out.size)
 (case aL => have := HL.out; simp only [List.length_singleton]; omega)
 intro va wa ho hb hg hat
 replace FR := Aside0.mk (FR.out.trans (Fr.grown HR.out hg.size hg))
 replace HE := Aside0.mk (blk_grown HE.out hg (Kd.R_away HR.out (fun _ hk => hk)))
 replace HR := Aside0.mk ho
 replace HB := Aside0.mk hb
 clear ho hb hg hat
 obtain ⟨Aa, ca, ea⟩ := Kd.R_slice HR.out
 subst ea
 refine hK.out _ _ (em_cells HE) (fun hHeld => ?_)
 clear hK K
 refine normS_ (N := some 20) (h := ?_)
 refine pureP_ (i := 15) (N := some 21) (tf_ 16 2) (by kernel_rfl) (h := ?_)
 refine pureP_ (i := 16) (N := some 22) (tf_ 17 1) (by kernel_rfl) (h := ?_)
 refine last_ (i := 17) (N := none) (tf_ 18 0) rfl rfl (by kernel_rfl) (by decide) (fun K hK => ?_)
 obtain ⟨hc0, hc1, hc2, hc3⟩ := em_cells HE
 have hf0 := blk_frozen HE.out 0
 refine skip_ (w1 := ?_) (by rfl) rfl ?_ ?_
 rotate_left
 ·go_simp
  rfl
 refine hK.out _ _ ?_
 clear hK K hc0 hc1 hc2 hc3 hf0
 refine done_ (by kernel_rfl) ?_
 try go_wp2
 go_end0
 exact ⟨rfl, Em.fin HE.out HR.out HB.out HG.out, FR.out.trans (Fr.set _ _ _)⟩
set_option maxHeartbeats 16000000 in
set_option maxRecDepth 100000 in
theorem em_jump (w0 w : World) (g : Nat) (xs : List S46) (fr ba ro nx : Int) (hl : xs.length ≤ 1000) (h : Em w0 w g xs fr ba ro) :
  Calls Try.prog 168 #[.pointer (some ⟨g, 0, none⟩), .int .i64 nx] w fun e w' => e = .returned (.tuple #[]) ∧ Em w0 w' g (xs ++ [⟨10, 0, 0, 0, wrap64 (fr + nx)⟩]) fr ba ro ∧ Fr g w w' := by
 have hu126 := Try.underlying126
 have hu46 := Try.underlying46
 have HL := Aside0.mk hl
 have EM := Aside0.mk h
 clear hl h
 obtain ⟨v, hb, hr, hB, hg⟩ := EM.out
 obtain ⟨A, c, rfl⟩ := Kd.R_slice hr
 have HE := Aside0.mk hb
 have HR := Aside0.mk hr
 have HB := Aside0.mk hB
 have HG := Aside0.mk hg
 clear hb hr hB hg EM
 have FR := Aside0.mk (Fr.below (g := g) (Below.refl w.heap.size w))
 go_enter Try.func168, Try.ntmps168
 try go_wp2
 have hE1 := Aside0.mk (blk_below HE.out (below_drew1 (Below.refl _ _)))
 have n0_ := Aside0.mk (Kd.R_drew HR.out)
 have n1_ := Aside0.mk (below_drew1 HB.out)
 have n2_ := Aside0.mk (FR.out.trans (Fr.below (below_drew1 (Below.refl _ _))))
 clear HE HR HB FR
 have HE := hE1
 have HR := n0_
 have HB := n1_
 have FR := n2_
 clear hE1 n0_ n1_ n2_
 refine start_ (n := 17) (S := fun w' => w'.cell? ⟨g, 0, none⟩ = some (.slice A xs.length c) ∧ w'.cell? ⟨g, 1, none⟩ = some (.int .i64 fr) ∧ w'.cell? ⟨g, 2, none⟩ = some (.int .i64 ba) ∧ w'.cell? ⟨g, 3, none⟩ = some (.int .i64 ro)) (ds := [16]) (tf_ 0 17) (by kernel_rfl) rfl rfl (em_cells HE) (fun hHeld => ?_)
 generalize World.drew _ = w1 at HE HR HB FR hHeld ⊢
 refine pureP_ (i := 0) (N := some 4) (tf_ 1 16) (by kernel_rfl) (h := ?_)
 refine pureP_ (i := 1) (N := some 5) (tf_ 2 15) (by kernel_rfl) (h := ?_)
 refine pureP_ (i := 2) (N := some 6) (tf_ 3 14) (by kernel_rfl) (h := ?_)
 refine pureP_ (i := 3) (N := some 7) (tf_ 4 13) (by kernel_rfl) (h := ?_)
 refine takeP_ (i := 4) (N := some 8) (tf_ 5 12) (by kernel_rfl) hHeld (hy := Or.inl ⟨by rfl, att9_0_1⟩) (h := ?_)
 refine pureP_ (i := 5) (N := some 9) (tf_ 6 11) (by kernel_rfl) (h := ?_)
 refine pureP_ (i := 6) (N := some 10) (tf_ 7 10) (by kernel_rfl) (h := ?_)
 refine pureP_ (i := 7) (N := some 11) (tf_ 8 9) (by kernel_rfl) (h := ?_)
 refine takeP_ (i := 8) (N := some 12) (tf_ 9 8) (by kernel_rfl) hHeld (hy := Or.inl ⟨by rfl, att9_0_1⟩) (h := ?_)
 refine pureP_ (i := 9) (N := some 13) (tf_ 10 7) (by kernel_rfl) (h := ?_)
 refine pureP_ (i := 10) (N := some 14) (tf_ 11 6) (by kernel_rfl) (h := ?_)
 refine pureP_ (i := 11) (N := some 15) (tf_ 12 5) (by kernel_rfl) (h := ?_)
 refine one_ (i := 12) (N := some 16) (tf_ 13 4) rfl rfl (by kernel_rfl) (by decide) (fun K hK => ?_)
 refine Kd.R_lit_step k46 _ 46 ?hg (N := 16) ?hd (xs := ([⟨10, 0, 0, 0, wrap64 (fr + nx)⟩] : List S46)) (inner := [.int .i64 10, .int .i64 0, .int .i64 0, .int .i64 0, .int .i64 (wrap64 (fr + nx))]) (ok := fun _ => True) (okp := fun _ => True) ?hr ?hp (fun _ hk => hk) trivial (Below.refl _ _) (Nat.le_refl _) (by simp) ?_
 (case hd => rfl)
 (case hg => rfl)
 (case hr => first | (go_simp; done) | (go_simp; rfl))
 (case hp => exact (Reps.c5 (show Kd.M k46 _ _ _ (⟨10, 0, 0, 0, wrap64 (fr + nx)⟩ : S46) [.int .i64 10, .int .i64 0, .int .i64 0, .int .i64 0, .int .i64 (wrap64 (fr + nx))] from (k46_mkM _ _ _ (⟨10, 0, 0, 0, wrap64 (fr + nx)⟩ : S46))) (Reps.none _ _)))
 intro vl wl hl hb hg_ hnew
 replace HE := Aside0.mk (blk_below HE.out hb)
 replace HR := Aside0.mk (Kd.R_below HR.out hb)
 have HX := Aside0.mk hl
 replace HB := Aside0.mk (below_step HB.out hb)
 replace FR := Aside0.mk (FR.out.trans (Fr.below hb))
 clear hb hg_ hnew hl
 obtain ⟨Al, cL, el⟩ := Kd.R_slice HX.out
 subst el
 refine hK.out _ _ (em_cells HE) (fun hHeld => ?_)
 clear hK K
 refine normS_ (N := some 16) (h := ?_)
 refine one_ (i := 13) (N := some 17) (tf_ 14 3) rfl rfl (by kernel_rfl) (by decide) (fun K hK => ?_)
 refine Kd.R_append_rows_step k46 (w0 := w0) w0.heap.size (by rfl) (.tmp 8) (.tmp 16) 40 46 (.agg #[(.int .i64 0), (.int .i64 0), (.int .i64 0), (.int .i64 0), (.int .i64 0)]) 40 rfl Try.underlying40 info46 rfl (by decide) (by omega) (.slice A xs.length c) xs [⟨10, 0, 0, 0, wrap64 (fr + nx)⟩] _ _ _ (fun k => k ≠ g) (fun _ => False) rfl rfl ?aO ?aR (fun _ _ h => h) (fun _ h => h.elim) ?aF ?aB ?aS ?aL ?_
 (case aO => exact HR.out)
 (case aR => exact (Kd.R_reads' HX.out).2.2)
 (case aF => exact Kd.freshB HE.out)
 (case aB => exact HB.out)
 (case aS => exact HB.out.size)
 (case aL => have := HL.out; simp only [List.length_singleton]; omega)
 intro va wa ho hb hg hat
 replace FR := Aside0.mk (FR.out.trans (Fr.grown HR.out hg.size hg))
 replace HE := Aside0.mk (blk_grown HE.out hg (Kd.R_away HR.out (fun _ hk => hk)))
 replace HR := Aside0.mk ho
 replace HB := Aside0.mk hb
 clear ho hb hg hat
 obtain ⟨Aa, ca, ea⟩ := Kd.R_slice HR.out
 subst ea
 refine hK.out _ _ (em_cells HE) (fun hHeld => ?_)
 clear hK K
 refine normS_ (N := some 17) (h := ?_)
 refine pureP_ (i := 14) (N := some 18) (tf_ 15 2) (by kernel_rfl) (h := ?_)
 refine pureP_ (i := 15) (N := some 19) (tf_ 16 1) (by kernel_rfl) (h := ?_)
 refine last_ (i := 16) (N := none) (tf_ 17 0) rfl rfl (by kernel_rfl) (by decide) (fun K hK => ?_)
 obtain ⟨hc0, hc1, hc2, hc3⟩ := em_cells HE
 have hf0 := blk_frozen HE.out 0
 refine skip_ (w1 := ?_) (by rfl) rfl ?_ ?_
 rotate_left
 ·go_simp
  rfl
 refine hK.out _ _ ?_
 clear hK K hc0 hc1 hc2 hc3 hf0
 refine done_ (by kernel_rfl) ?_
 try go_wp2
 go_end0
 exact ⟨rfl, Em.fin HE.out HR.out HB.out HG.out, FR.out.trans (Fr.set _ _ _)⟩
set_option maxHeartbeats 16000000 in
set_option maxRecDepth 100000 in
theorem em_load (w0 w : World) (g : Nat) (xs : List S46) (fr ba ro r ce : Int) (hl : xs.length ≤ 1000) (h : Em w0 w g xs fr ba ro) :
  Calls Try.prog 170 #[.pointer (some ⟨g, 0, none⟩), .int .i64 r, .int .i64 ce] w fun e w' => e = .returned (.tuple #[]) ∧ Em w0 w' g (xs ++ [⟨5, r, -1, 0, wrap64 (ba + ce)⟩]) fr ba ro ∧ Fr g w w' := by
 have hu126 := Try.underlying126
 have hu46 := Try.underlying46
 have HL := Aside0.mk hl
 have EM := Aside0.mk h
 clear hl h
 obtain ⟨v, hb, hr, hB, hg⟩ := EM.out
 obtain ⟨A, c, rfl⟩ := Kd.R_slice hr
 have HE := Aside0.mk hb
 have HR := Aside0.mk hr
 have HB := Aside0.mk hB
 have HG := Aside0.mk hg
 clear hb hr hB hg EM
 have FR := Aside0.mk (Fr.below (g := g) (Below.refl w.heap.size w))
 go_enter Try.func170, Try.ntmps170
 try go_wp2
 have hE1 := Aside0.mk (blk_below HE.out (below_drew1 (Below.refl _ _)))
 have n0_ := Aside0.mk (Kd.R_drew HR.out)
 have n1_ := Aside0.mk (below_drew1 HB.out)
 have n2_ := Aside0.mk (FR.out.trans (Fr.below (below_drew1 (Below.refl _ _))))
 clear HE HR HB FR
 have HE := hE1
 have HR := n0_
 have HB := n1_
 have FR := n2_
 clear hE1 n0_ n1_ n2_
 refine start_ (n := 18) (S := fun w' => w'.cell? ⟨g, 0, none⟩ = some (.slice A xs.length c) ∧ w'.cell? ⟨g, 1, none⟩ = some (.int .i64 fr) ∧ w'.cell? ⟨g, 2, none⟩ = some (.int .i64 ba) ∧ w'.cell? ⟨g, 3, none⟩ = some (.int .i64 ro)) (ds := [17]) (tf_ 0 18) (by kernel_rfl) rfl rfl (em_cells HE) (fun hHeld => ?_)
 generalize World.drew _ = w1 at HE HR HB FR hHeld ⊢
 refine pureP_ (i := 0) (N := some 6) (tf_ 1 17) (by kernel_rfl) (h := ?_)
 refine pureP_ (i := 1) (N := some 7) (tf_ 2 16) (by kernel_rfl) (h := ?_)
 refine pureP_ (i := 2) (N := some 8) (tf_ 3 15) (by kernel_rfl) (h := ?_)
 refine pureP_ (i := 3) (N := some 9) (tf_ 4 14) (by kernel_rfl) (h := ?_)
 refine takeP_ (i := 4) (N := some 10) (tf_ 5 13) (by kernel_rfl) hHeld (hy := Or.inl ⟨by rfl, att9_0_1⟩) (h := ?_)
 refine pureP_ (i := 5) (N := some 11) (tf_ 6 12) (by kernel_rfl) (h := ?_)
 refine pureP_ (i := 6) (N := some 12) (tf_ 7 11) (by kernel_rfl) (h := ?_)
 refine pureP_ (i := 7) (N := some 13) (tf_ 8 10) (by kernel_rfl) (h := ?_)
 refine pureP_ (i := 8) (N := some 14) (tf_ 9 9) (by kernel_rfl) (h := ?_)
 refine takeP_ (i := 9) (N := some 15) (tf_ 10 8) (by kernel_rfl) hHeld (hy := Or.inl ⟨by rfl, att9_0_1⟩) (h := ?_)
 refine pureP_ (i := 10) (N := some 16) (tf_ 11 7) (by kernel_rfl) (h := ?_)
 refine pureP_ (i := 11) (N := some 17) (tf_ 12 6) (by kernel_rfl) (h := ?_)
 refine pureP_ (i := 12) (N := some 18) (tf_ 13 5) (by kernel_rfl) (h := ?_)
 refine one_ (i := 13) (N := some 19) (tf_ 14 4) rfl rfl (by kernel_rfl) (by decide) (fun K hK => ?_)
 refine Kd.R_lit_step k46 _ 46 ?hg (N := 19) ?hd (xs := ([⟨5, r, -1, 0, wrap64 (ba + ce)⟩] : List S46)) (inner := [.int .i64 5, .int .i64 r, .int .i64 (-1), .int .i64 0, .int .i64 (wrap64 (ba + ce))]) (ok := fun _ => True) (okp := fun _ => True) ?hr ?hp (fun _ hk => hk) trivial (Below.refl _ _) (Nat.le_refl _) (by simp) ?_
 (case hd => rfl)
 (case hg => rfl)
 (case hr => first | (go_simp; done) | (go_simp; rfl))
 (case hp => exact (Reps.c5 (show Kd.M k46 _ _ _ (⟨5, r, -1, 0, wrap64 (ba + ce)⟩ : S46) [.int .i64 5, .int .i64 r, .int .i64 (-1), .int .i64 0, .int .i64 (wrap64 (ba + ce))] from (k46_mkM _ _ _ (⟨5, r, -1, 0, wrap64 (ba + ce)⟩ : S46))) (Reps.none _ _)))
 intro vl wl hl hb hg_ hnew
 replace HE := Aside0.mk (blk_below HE.out hb)
 replace HR := Aside0.mk (Kd.R_below HR.out hb)
 have HX := Aside0.mk hl
 replace HB := Aside0.mk (below_step HB.out hb)
 replace FR := Aside0.mk (FR.out.trans (Fr.below hb))
 clear hb hg_ hnew hl
 obtain ⟨Al, cL, el⟩ := Kd.R_slice HX.out
 subst el
 refine hK.out _ _ (em_cells HE) (fun hHeld => ?_)
 clear hK K
 refine normS_ (N := some 19) (h := ?_)
 refine one_ (i := 14) (N := some 20) (tf_ 15 3) rfl rfl (by kernel_rfl) (by decide) (fun K hK => ?_)
 refine Kd.R_append_rows_step k46 (w0 := w0) w0.heap.size (by rfl) (.tmp 10) (.tmp 19) 40 46 (.agg #[(.int .i64 0), (.int .i64 0), (.int .i64 0), (.int .i64 0), (.int .i64 0)]) 40 rfl Try.underlying40 info46 rfl (by decide) (by omega) (.slice A xs.length c) xs [⟨5, r, -1, 0, wrap64 (ba + ce)⟩] _ _ _ (fun k => k ≠ g) (fun _ => False) rfl rfl ?aO ?aR (fun _ _ h => h) (fun _ h => h.elim) ?aF ?aB ?aS ?aL ?_
 (case aO => exact HR.out)
 (case aR => exact (Kd.R_reads' HX.out).2.2)
 (case aF => exact Kd.freshB HE.out)
 (case aB => exact HB.out)
 (case aS => exact HB.out.size)
 (case aL => have := HL.out; simp only [List.length_singleton]; omega)
 intro va wa ho hb hg hat
 replace FR := Aside0.mk (FR.out.trans (Fr.grown HR.out hg.size hg))
 replace HE := Aside0.mk (blk_grown HE.out hg (Kd.R_away HR.out (fun _ hk => hk)))
 replace HR := Aside0.mk ho
 replace HB := Aside0.mk hb
 clear ho hb hg hat
 obtain ⟨Aa, ca, ea⟩ := Kd.R_slice HR.out
 subst ea
 refine hK.out _ _ (em_cells HE) (fun hHeld => ?_)
 clear hK K
 refine normS_ (N := some 20) (h := ?_)
 refine pureP_ (i := 15) (N := some 21) (tf_ 16 2) (by kernel_rfl) (h := ?_)
 refine pureP_ (i := 16) (N := some 22) (tf_ 17 1) (by kernel_rfl) (h := ?_)
 refine last_ (i := 17) (N := none) (tf_ 18 0) rfl rfl (by kernel_rfl) (by decide) (fun K hK => ?_)
 obtain ⟨hc0, hc1, hc2, hc3⟩ := em_cells HE
 have hf0 := blk_frozen HE.out 0
 refine skip_ (w1 := ?_) (by rfl) rfl ?_ ?_
 rotate_left
 ·go_simp
  rfl
 refine hK.out _ _ ?_
 clear hK K hc0 hc1 hc2 hc3 hf0
 refine done_ (by kernel_rfl) ?_
 try go_wp2
 go_end0
 exact ⟨rfl, Em.fin HE.out HR.out HB.out HG.out, FR.out.trans (Fr.set _ _ _)⟩
set_option maxHeartbeats 16000000 in
set_option maxRecDepth 100000 in
theorem em_three (w0 w : World) (g : Nat) (xs : List S46) (fr ba ro op r a b : Int) (hl : xs.length ≤ 1000) (h : Em w0 w g xs fr ba ro) :
  Calls Try.prog 171 #[.pointer (some ⟨g, 0, none⟩), .int .i64 op, .int .i64 r, .int .i64 a, .int .i64 b] w fun e w' => e = .returned (.tuple #[]) ∧ Em w0 w' g (xs ++ [⟨op, r, a, b, 0⟩]) fr ba ro ∧ Fr g w w' := by
 have hu126 := Try.underlying126
 have hu46 := Try.underlying46
 have HL := Aside0.mk hl
 have EM := Aside0.mk h
 clear hl h
 obtain ⟨v, hb, hr, hB, hg⟩ := EM.out
 obtain ⟨A, c, rfl⟩ := Kd.R_slice hr
 have HE := Aside0.mk hb
 have HR := Aside0.mk hr
 have HB := Aside0.mk hB
 have HG := Aside0.mk hg
 clear hb hr hB hg EM
 have FR := Aside0.mk (Fr.below (g := g) (Below.refl w.heap.size w))
 obtain ⟨hc0, hc1, hc2, hc3⟩ := em_cells HE
 have hf0 := blk_frozen HE.out 0
 go_enter Try.func171, Try.ntmps171
 go_wp2_with (first | ((with_reducible refine gate_dst (N := 20) rfl ?_); refine Kd.R_lit k46 _ 46 ?hg (N := 20) ?hd (xs := ([⟨op, r, a, b, 0⟩] : List S46)) (inner := [.int .i64 op, .int .i64 r, .int .i64 a, .int .i64 b, .int .i64 0]) (ok := fun _ => True) (okp := fun _ => True) ?hr ?hp (fun _ hk => hk) trivial (Below.refl _ _) (Nat.le_refl _) (by simp) ?_; (case hd => rfl); (case hg => rfl); (case hr => first | (go_simp; done) | (go_simp; rfl)); (case hp => exact (Reps.c5 (show Kd.M k46 _ _ _ (⟨op, r, a, b, 0⟩ : S46) [.int .i64 op, .int .i64 r, .int .i64 a, .int .i64 b, .int .i64 0] from (k46_mkM _ _ _ (⟨op, r, a, b, 0⟩ : S46))) (Reps.none _ _))); intro vl wl hl hb hg_ hnew; replace HE := Aside0.mk (blk_below HE.out hb); replace HR := Aside0.mk (Kd.R_below HR.out hb); have HX := Aside0.mk hl; replace HB := Aside0.mk (below_step HB.out hb); replace FR := Aside0.mk (FR.out.trans (Fr.below hb)); clear hb hg_ hnew hl; obtain ⟨Al, cL, el⟩ := Kd.R_slice HX.out; subst el; clear hc0 hc1 hc2 hc3 hf0; obtain ⟨hc0, hc1, hc2, hc3⟩ := em_cells HE; have hf0 := blk_frozen HE.out 0) | ((with_reducible refine gate_builtin (b := .append) (xs := #[.tmp 14, .tmp 20]) rfl ?_); at_builtin; refine Kd.R_append_rows k46 (w0 := w0) w0.heap.size rfl (.tmp 14) (.tmp 20) 40 46 (.agg #[(.int .i64 0), (.int .i64 0), (.int .i64 0), (.int .i64 0), (.int .i64 0)]) 40 rfl Try.underlying40 info46 rfl (by decide) (by omega) (.slice A xs.length c) xs [⟨op, r, a, b, 0⟩] _ _ _ (fun k => k ≠ g) (fun _ => False) rfl rfl ?aO ?aR (fun _ _ h => h) (fun _ h => h.elim) ?aF ?aB ?aS ?aL ?_; (case aO => exact HR.out); (case aR => exact (Kd.R_reads' HX.out).2.2); (case aF => exact Kd.freshB HE.out); (case aB => exact HB.out); (case aS => exact HB.out.size); (case aL => have := HL.out; simp only [List.length_singleton]; omega); intro va wa ho hb hg hat; replace FR := Aside0.mk (FR.out.trans (Fr.grown HR.out hg.size hg)); replace HE := Aside0.mk (blk_grown HE.out hg (Kd.R_away HR.out (fun _ hk => hk))); replace HR := Aside0.mk ho; replace HB := Aside0.mk hb; clear ho hb hg hat; obtain ⟨Aa, ca, ea⟩ := Kd.R_slice HR.out; subst ea; clear hc0 hc1 hc2 hc3 hf0; obtain ⟨hc0, hc1, hc2, hc3⟩ := em_cells HE; have hf0 := blk_frozen HE.out 0))
 go_end0
 exact ⟨rfl, Em.fin HE.out HR.out HB.out HG.out, FR.out.trans (Fr.set _ _ _)⟩
set_option maxHeartbeats 16000000 in
set_option maxRecDepth 100000 in
theorem em_store (w0 w : World) (g : Nat) (xs : List S46) (fr ba ro ce b : Int) (hl : xs.length ≤ 1000) (h : Em w0 w g xs fr ba ro) :
  Calls Try.prog 172 #[.pointer (some ⟨g, 0, none⟩), .int .i64 ce, .int .i64 b] w fun e w' => e = .returned (.tuple #[]) ∧ Em w0 w' g (xs ++ [⟨6, 0, -1, b, wrap64 (ba + ce)⟩]) fr ba ro ∧ Fr g w w' := by
 have hu126 := Try.underlying126
 have hu46 := Try.underlying46
 have HL := Aside0.mk hl
 have EM := Aside0.mk h
 clear hl h
 obtain ⟨v, hb, hr, hB, hg⟩ := EM.out
 obtain ⟨A, c, rfl⟩ := Kd.R_slice hr
 have HE := Aside0.mk hb
 have HR := Aside0.mk hr
 have HB := Aside0.mk hB
 have HG := Aside0.mk hg
 clear hb hr hB hg EM
 have FR := Aside0.mk (Fr.below (g := g) (Below.refl w.heap.size w))
 go_enter Try.func172, Try.ntmps172
 try go_wp2
 have hE1 := Aside0.mk (blk_below HE.out (below_drew1 (Below.refl _ _)))
 have n0_ := Aside0.mk (Kd.R_drew HR.out)
 have n1_ := Aside0.mk (below_drew1 HB.out)
 have n2_ := Aside0.mk (FR.out.trans (Fr.below (below_drew1 (Below.refl _ _))))
 clear HE HR HB FR
 have HE := hE1
 have HR := n0_
 have HB := n1_
 have FR := n2_
 clear hE1 n0_ n1_ n2_
 refine start_ (n := 18) (S := fun w' => w'.cell? ⟨g, 0, none⟩ = some (.slice A xs.length c) ∧ w'.cell? ⟨g, 1, none⟩ = some (.int .i64 fr) ∧ w'.cell? ⟨g, 2, none⟩ = some (.int .i64 ba) ∧ w'.cell? ⟨g, 3, none⟩ = some (.int .i64 ro)) (ds := [17]) (tf_ 0 18) (by kernel_rfl) rfl rfl (em_cells HE) (fun hHeld => ?_)
 generalize World.drew _ = w1 at HE HR HB FR hHeld ⊢
 refine pureP_ (i := 0) (N := some 6) (tf_ 1 17) (by kernel_rfl) (h := ?_)
 refine pureP_ (i := 1) (N := some 7) (tf_ 2 16) (by kernel_rfl) (h := ?_)
 refine pureP_ (i := 2) (N := some 8) (tf_ 3 15) (by kernel_rfl) (h := ?_)
 refine pureP_ (i := 3) (N := some 9) (tf_ 4 14) (by kernel_rfl) (h := ?_)
 refine takeP_ (i := 4) (N := some 10) (tf_ 5 13) (by kernel_rfl) hHeld (hy := Or.inl ⟨by rfl, att9_0_1⟩) (h := ?_)
 refine pureP_ (i := 5) (N := some 11) (tf_ 6 12) (by kernel_rfl) (h := ?_)
 refine pureP_ (i := 6) (N := some 12) (tf_ 7 11) (by kernel_rfl) (h := ?_)
 refine pureP_ (i := 7) (N := some 13) (tf_ 8 10) (by kernel_rfl) (h := ?_)
 refine pureP_ (i := 8) (N := some 14) (tf_ 9 9) (by kernel_rfl) (h := ?_)
 refine takeP_ (i := 9) (N := some 15) (tf_ 10 8) (by kernel_rfl) hHeld (hy := Or.inl ⟨by rfl, att9_0_1⟩) (h := ?_)
 refine pureP_ (i := 10) (N := some 16) (tf_ 11 7) (by kernel_rfl) (h := ?_)
 refine pureP_ (i := 11) (N := some 17) (tf_ 12 6) (by kernel_rfl) (h := ?_)
 refine pureP_ (i := 12) (N := some 18) (tf_ 13 5) (by kernel_rfl) (h := ?_)
 refine one_ (i := 13) (N := some 19) (tf_ 14 4) rfl rfl (by kernel_rfl) (by decide) (fun K hK => ?_)
 refine Kd.R_lit_step k46 _ 46 ?hg (N := 19) ?hd (xs := ([⟨6, 0, -1, b, wrap64 (ba + ce)⟩] : List S46)) (inner := [.int .i64 6, .int .i64 0, .int .i64 (-1), .int .i64 b, .int .i64 (wrap64 (ba + ce))]) (ok := fun _ => True) (okp := fun _ => True) ?hr ?hp (fun _ hk => hk) trivial (Below.refl _ _) (Nat.le_refl _) (by simp) ?_
 (case hd => rfl)
 (case hg => rfl)
 (case hr => first | (go_simp; done) | (go_simp; rfl))
 (case hp => exact (Reps.c5 (show Kd.M k46 _ _ _ (⟨6, 0, -1, b, wrap64 (ba + ce)⟩ : S46) [.int .i64 6, .int .i64 0, .int .i64 (-1), .int .i64 b, .int .i64 (wrap64 (ba + ce))] from (k46_mkM _ _ _ (⟨6, 0, -1, b, wrap64 (ba + ce)⟩ : S46))) (Reps.none _ _)))
 intro vl wl hl hb hg_ hnew
 replace HE := Aside0.mk (blk_below HE.out hb)
 replace HR := Aside0.mk (Kd.R_below HR.out hb)
 have HX := Aside0.mk hl
 replace HB := Aside0.mk (below_step HB.out hb)
 replace FR := Aside0.mk (FR.out.trans (Fr.below hb))
 clear hb hg_ hnew hl
 obtain ⟨Al, cL, el⟩ := Kd.R_slice HX.out
 subst el
 refine hK.out _ _ (em_cells HE) (fun hHeld => ?_)
 clear hK K
 refine normS_ (N := some 19) (h := ?_)
 refine one_ (i := 14) (N := some 20) (tf_ 15 3) rfl rfl (by kernel_rfl) (by decide) (fun K hK => ?_)
 refine Kd.R_append_rows_step k46 (w0 := w0) w0.heap.size (by rfl) (.tmp 10) (.tmp 19) 40 46 (.agg #[(.int .i64 0), (.int .i64 0), (.int .i64 0), (.int .i64 0), (.int .i64 0)]) 40 rfl Try.underlying40 info46 rfl (by decide) (by omega) (.slice A xs.length c) xs [⟨6, 0, -1, b, wrap64 (ba + ce)⟩] _ _ _ (fun k => k ≠ g) (fun _ => False) rfl rfl ?aO ?aR (fun _ _ h => h) (fun _ h => h.elim) ?aF ?aB ?aS ?aL ?_
 (case aO => exact HR.out)
 (case aR => exact (Kd.R_reads' HX.out).2.2)
 (case aF => exact Kd.freshB HE.out)
 (case aB => exact HB.out)
 (case aS => exact HB.out.size)
 (case aL => have := HL.out; simp only [List.length_singleton]; omega)
 intro va wa ho hb hg hat
 replace FR := Aside0.mk (FR.out.trans (Fr.grown HR.out hg.size hg))
 replace HE := Aside0.mk (blk_grown HE.out hg (Kd.R_away HR.out (fun _ hk => hk)))
 replace HR := Aside0.mk ho
 replace HB := Aside0.mk hb
 clear ho hb hg hat
 obtain ⟨Aa, ca, ea⟩ := Kd.R_slice HR.out
 subst ea
 refine hK.out _ _ (em_cells HE) (fun hHeld => ?_)
 clear hK K
 refine normS_ (N := some 20) (h := ?_)
 refine pureP_ (i := 15) (N := some 21) (tf_ 16 2) (by kernel_rfl) (h := ?_)
 refine pureP_ (i := 16) (N := some 22) (tf_ 17 1) (by kernel_rfl) (h := ?_)
 refine last_ (i := 17) (N := none) (tf_ 18 0) rfl rfl (by kernel_rfl) (by decide) (fun K hK => ?_)
 obtain ⟨hc0, hc1, hc2, hc3⟩ := em_cells HE
 have hf0 := blk_frozen HE.out 0
 refine skip_ (w1 := ?_) (by rfl) rfl ?_ ?_
 rotate_left
 ·go_simp
  rfl
 refine hK.out _ _ ?_
 clear hK K hc0 hc1 hc2 hc3 hf0
 refine done_ (by kernel_rfl) ?_
 try go_wp2
 go_end0
 exact ⟨rfl, Em.fin HE.out HR.out HB.out HG.out, FR.out.trans (Fr.set _ _ _)⟩
set_option maxHeartbeats 16000000 in
set_option maxRecDepth 100000 in
theorem em_fault (w0 w : World) (g : Nat) (xs : List S46) (fr ba ro : Int) (hl : xs.length ≤ 1000) (h : Em w0 w g xs fr ba ro) :
  Calls Try.prog 197 #[.pointer (some ⟨g, 0, none⟩)] w fun e w' => e = .returned (.tuple #[]) ∧ Em w0 w' g (xs ++ [⟨13, 0, 0, 0, 0⟩]) fr ba ro ∧ Fr g w w' := by
 have hu126 := Try.underlying126
 have hu46 := Try.underlying46
 have HL := Aside0.mk hl
 have EM := Aside0.mk h
 clear hl h
 obtain ⟨v, hb, hr, hB, hg⟩ := EM.out
 obtain ⟨A, c, rfl⟩ := Kd.R_slice hr
 have HE := Aside0.mk hb
 have HR := Aside0.mk hr
 have HB := Aside0.mk hB
 have HG := Aside0.mk hg
 clear hb hr hB hg EM
 have FR := Aside0.mk (Fr.below (g := g) (Below.refl w.heap.size w))
 obtain ⟨hc0, hc1, hc2, hc3⟩ := em_cells HE
 have hf0 := blk_frozen HE.out 0
 go_enter Try.func197, Try.ntmps197
 go_wp2_with (first | ((with_reducible refine gate_dst (N := 8) rfl ?_); refine Kd.R_lit k46 _ 46 ?hg (N := 8) ?hd (xs := ([⟨13, 0, 0, 0, 0⟩] : List S46)) (inner := [.int .i64 13, .int .i64 0, .int .i64 0, .int .i64 0, .int .i64 0]) (ok := fun _ => True) (okp := fun _ => True) ?hr ?hp (fun _ hk => hk) trivial (Below.refl _ _) (Nat.le_refl _) (by simp) ?_; (case hd => rfl); (case hg => rfl); (case hr => first | (go_simp; done) | (go_simp; rfl)); (case hp => exact (Reps.c5 (show Kd.M k46 _ _ _ (⟨13, 0, 0, 0, 0⟩ : S46) [.int .i64 13, .int .i64 0, .int .i64 0, .int .i64 0, .int .i64 0] from (k46_mkM _ _ _ (⟨13, 0, 0, 0, 0⟩ : S46))) (Reps.none _ _))); intro vl wl hl hb hg_ hnew; replace HE := Aside0.mk (blk_below HE.out hb); replace HR := Aside0.mk (Kd.R_below HR.out hb); have HX := Aside0.mk hl; replace HB := Aside0.mk (below_step HB.out hb); replace FR := Aside0.mk (FR.out.trans (Fr.below hb)); clear hb hg_ hnew hl; obtain ⟨Al, cL, el⟩ := Kd.R_slice HX.out; subst el; clear hc0 hc1 hc2 hc3 hf0; obtain ⟨hc0, hc1, hc2, hc3⟩ := em_cells HE; have hf0 := blk_frozen HE.out 0) | ((with_reducible refine gate_builtin (b := .append) (xs := #[.tmp 6, .tmp 8]) rfl ?_); at_builtin; refine Kd.R_append_rows k46 (w0 := w0) w0.heap.size rfl (.tmp 6) (.tmp 8) 40 46 (.agg #[(.int .i64 0), (.int .i64 0), (.int .i64 0), (.int .i64 0), (.int .i64 0)]) 40 rfl Try.underlying40 info46 rfl (by decide) (by omega) (.slice A xs.length c) xs [⟨13, 0, 0, 0, 0⟩] _ _ _ (fun k => k ≠ g) (fun _ => False) rfl rfl ?aO ?aR (fun _ _ h => h) (fun _ h => h.elim) ?aF ?aB ?aS ?aL ?_; (case aO => exact HR.out); (case aR => exact (Kd.R_reads' HX.out).2.2); (case aF => exact Kd.freshB HE.out); (case aB => exact HB.out); (case aS => exact HB.out.size); (case aL => have := HL.out; simp only [List.length_singleton]; omega); intro va wa ho hb hg hat; replace FR := Aside0.mk (FR.out.trans (Fr.grown HR.out hg.size hg)); replace HE := Aside0.mk (blk_grown HE.out hg (Kd.R_away HR.out (fun _ hk => hk))); replace HR := Aside0.mk ho; replace HB := Aside0.mk hb; clear ho hb hg hat; obtain ⟨Aa, ca, ea⟩ := Kd.R_slice HR.out; subst ea; clear hc0 hc1 hc2 hc3 hf0; obtain ⟨hc0, hc1, hc2, hc3⟩ := em_cells HE; have hf0 := blk_frozen HE.out 0))
 go_end0
 exact ⟨rfl, Em.fin HE.out HR.out HB.out HG.out, FR.out.trans (Fr.set _ _ _)⟩
def emLock (fr ba : Int) : List S46 := [⟨1, 7, 0, 0, 1⟩, ⟨8, 6, 0, 7, ba⟩, ⟨11, 0, 6, 0, wrap64 (fr + 4)⟩, ⟨10, 0, 0, 0, wrap64 (fr + 0)⟩]
set_option maxHeartbeats 16000000 in
set_option maxRecDepth 100000 in
theorem em_lock (w0 w : World) (g : Nat) (xs : List S46) (fr ba ro : Int) (hl : xs.length ≤ 990) (h : Em w0 w g xs fr ba ro) :
  Calls Try.prog 102 #[.pointer (some ⟨g, 0, none⟩)] w fun e w' => e = .returned (.tuple #[]) ∧ Em w0 w' g (xs ++ emLock fr ba) fr ba ro ∧ Fr g w w' := by
 have hu126 := Try.underlying126
 have hu46 := Try.underlying46
 have HL := Aside0.mk hl
 have EM := Aside0.mk h
 clear hl h
 have FR := Aside0.mk (Fr.below (g := g) (Below.refl w.heap.size w))
 obtain ⟨e1, e2, e3⟩ := Em.cells EM.out
 unfold emLock
 go_enter Try.func102, Try.ntmps102
 go_wp2_with (first | (go_at_call 166; (with_reducible refine (em_set w0 _ g _ fr ba ro _ _ ?hl EM.out).mono ?_); (case hl => (try simp only [List.length_append, List.length_cons, List.length_nil]); have := HL.out; omega); rintro e w' ⟨rfl, hE, hF⟩; replace FR := Aside0.mk (FR.out.trans hF); (try clear e1 e2 e3); replace EM := Aside0.mk hE; clear hE hF; obtain ⟨e1, e2, e3⟩ := Em.cells EM.out))
 (try clear e1 e2 e3)
 obtain ⟨ys, hys⟩ : ∃ ys, Aside0 (Em w0 _ g ys fr ba ro) ∧ Aside0 (ys = _) := ⟨_, EM, ⟨rfl⟩⟩
 obtain ⟨EM2, HY⟩ := hys
 have HL2 := Aside0.mk (show ys.length ≤ 1000 from by rw [HY.out]; (try simp only [List.length_append, List.length_cons, List.length_nil]); have := HL.out; omega)
 clear EM
 have EM := EM2
 have HL0 := HL
 clear EM2 HL
 have HL := HL2
 clear HL2
 obtain ⟨v, hb, hr, hB, hg⟩ := EM.out
 obtain ⟨A, c, rfl⟩ := Kd.R_slice hr
 have HE := Aside0.mk hb
 have HR := Aside0.mk hr
 have HB := Aside0.mk hB
 have HG := Aside0.mk hg
 clear hb hr hB hg EM
 have hE1 := Aside0.mk (blk_below HE.out (below_drew1 (Below.refl _ _)))
 have n0_ := Aside0.mk (Kd.R_drew HR.out)
 have n1_ := Aside0.mk (below_drew1 HB.out)
 have n2_ := Aside0.mk (FR.out.trans (Fr.below (below_drew1 (Below.refl _ _))))
 clear HE HR HB FR
 have HE := hE1
 have HR := n0_
 have HB := n1_
 have FR := n2_
 clear hE1 n0_ n1_ n2_
 refine start_ (n := 15) (S := fun w' => w'.cell? ⟨g, 0, none⟩ = some (.slice A ys.length c) ∧ w'.cell? ⟨g, 1, none⟩ = some (.int .i64 fr) ∧ w'.cell? ⟨g, 2, none⟩ = some (.int .i64 ba) ∧ w'.cell? ⟨g, 3, none⟩ = some (.int .i64 ro)) (ds := [14]) (tf_ 0 15) (by kernel_rfl) rfl rfl (em_cells HE) (fun hHeld => ?_)
 generalize World.drew _ = w1 at HE HR HB FR hHeld ⊢
 refine pureP_ (i := 0) (N := some 4) (tf_ 1 14) (by kernel_rfl) (h := ?_)
 refine pureP_ (i := 1) (N := some 5) (tf_ 2 13) (by kernel_rfl) (h := ?_)
 refine pureP_ (i := 2) (N := some 6) (tf_ 3 12) (by kernel_rfl) (h := ?_)
 refine pureP_ (i := 3) (N := some 7) (tf_ 4 11) (by kernel_rfl) (h := ?_)
 refine takeP_ (i := 4) (N := some 8) (tf_ 5 10) (by kernel_rfl) hHeld (hy := Or.inl ⟨by rfl, att9_0_1⟩) (h := ?_)
 refine pureP_ (i := 5) (N := some 9) (tf_ 6 9) (by kernel_rfl) (h := ?_)
 refine pureP_ (i := 6) (N := some 10) (tf_ 7 8) (by kernel_rfl) (h := ?_)
 refine pureP_ (i := 7) (N := some 11) (tf_ 8 7) (by kernel_rfl) (h := ?_)
 refine takeP_ (i := 8) (N := some 12) (tf_ 9 6) (by kernel_rfl) hHeld (hy := Or.inl ⟨by rfl, att9_0_1⟩) (h := ?_)
 refine pureP_ (i := 9) (N := some 13) (tf_ 10 5) (by kernel_rfl) (h := ?_)
 refine one_ (i := 10) (N := some 14) (tf_ 11 4) rfl rfl (by kernel_rfl) (by decide) (fun K hK => ?_)
 refine Kd.R_lit_step k46 _ 46 ?hg (N := 14) ?hd (xs := ([⟨8, 6, 0, 7, ba⟩] : List S46)) (inner := [.int .i64 8, .int .i64 6, .int .i64 0, .int .i64 7, .int .i64 ba]) (ok := fun _ => True) (okp := fun _ => True) ?hr ?hp (fun _ hk => hk) trivial (Below.refl _ _) (Nat.le_refl _) (by simp) ?_
 (case hd => rfl)
 (case hg => rfl)
 (case hr => first | (go_simp; done) | (go_simp; rfl))
 (case hp => exact (Reps.c5 (show Kd.M k46 _ _ _ (⟨8, 6, 0, 7, ba⟩ : S46) [.int .i64 8, .int .i64 6, .int .i64 0, .int .i64 7, .int .i64 ba] from (k46_mkM _ _ _ (⟨8, 6, 0, 7, ba⟩ : S46))) (Reps.none _ _)))
 intro vl wl hl hb hg_ hnew
 replace HE := Aside0.mk (blk_below HE.out hb)
 replace HR := Aside0.mk (Kd.R_below HR.out hb)
 have HX := Aside0.mk hl
 replace HB := Aside0.mk (below_step HB.out hb)
 replace FR := Aside0.mk (FR.out.trans (Fr.below hb))
 clear hb hg_ hnew hl
 obtain ⟨Al, cL, el⟩ := Kd.R_slice HX.out
 subst el
 refine hK.out _ _ (em_cells HE) (fun hHeld => ?_)
 clear hK K
 refine normS_ (N := some 14) (h := ?_)
 refine one_ (i := 11) (N := some 15) (tf_ 12 3) rfl rfl (by kernel_rfl) (by decide) (fun K hK => ?_)
 refine Kd.R_append_rows_step k46 (w0 := w0) w0.heap.size (by rfl) (.tmp 8) (.tmp 14) 40 46 (.agg #[(.int .i64 0), (.int .i64 0), (.int .i64 0), (.int .i64 0), (.int .i64 0)]) 40 rfl Try.underlying40 info46 rfl (by decide) (by omega) (.slice A ys.length c) ys [⟨8, 6, 0, 7, ba⟩] _ _ _ (fun k => k ≠ g) (fun _ => False) rfl rfl ?aO ?aR (fun _ _ h => h) (fun _ h => h.elim) ?aF ?aB ?aS ?aL ?_
 (case aO => exact HR.out)
 (case aR => exact (Kd.R_reads' HX.out).2.2)
 (case aF => exact Kd.freshB HE.out)
 (case aB => exact HB.out)
 (case aS => exact HB.out.size)
 (case aL => have := HL.out; simp only [List.length_singleton]; omega)
 intro va wa ho hb hg hat
 replace FR := Aside0.mk (FR.out.trans (Fr.grown HR.out hg.size hg))
 replace HE := Aside0.mk (blk_grown HE.out hg (Kd.R_away HR.out (fun _ hk => hk)))
 replace HR := Aside0.mk ho
 replace HB := Aside0.mk hb
 clear ho hb hg hat
 obtain ⟨Aa, ca, ea⟩ := Kd.R_slice HR.out
 subst ea
 refine hK.out _ _ (em_cells HE) (fun hHeld => ?_)
 clear hK K
 refine normS_ (N := some 15) (h := ?_)
 refine pureP_ (i := 12) (N := some 16) (tf_ 13 2) (by kernel_rfl) (h := ?_)
 refine pureP_ (i := 13) (N := some 17) (tf_ 14 1) (by kernel_rfl) (h := ?_)
 refine last_ (i := 14) (N := none) (tf_ 15 0) rfl rfl (by kernel_rfl) (by decide) (fun K hK => ?_)
 obtain ⟨hc0, hc1, hc2, hc3⟩ := em_cells HE
 have hf0 := blk_frozen HE.out 0
 refine skip_ (w1 := ?_) (by rfl) rfl ?_ ?_
 rotate_left
 ·go_simp
  rfl
 refine hK.out _ _ ?_
 clear hK K hc0 hc1 hc2 hc3 hf0
 refine done_ (by kernel_rfl) ?_
 have EM := Aside0.mk (Em.cast (Em.fin HE.out HR.out HB.out HG.out) (app_cast HY.out _))
 replace FR := Aside0.mk (FR.out.trans (Fr.set g _ (.slice Aa (ys.length + 1) ca)))
 clear HE HR HB HG HX HL
 have HL := HL0
 clear HL0 hHeld
 obtain ⟨e1, e2, e3⟩ := Em.cells EM.out
 go_wp2_with (first | (go_at_call 167; (with_reducible refine (em_zero w0 _ g _ fr ba ro _ _ ?hl EM.out).mono ?_); (case hl => (try simp only [List.length_append, List.length_cons, List.length_nil]); have := HL.out; omega); rintro e w' ⟨rfl, hE, hF⟩; replace FR := Aside0.mk (FR.out.trans hF); (try clear e1 e2 e3); replace EM := Aside0.mk hE; clear hE hF; obtain ⟨e1, e2, e3⟩ := Em.cells EM.out) | (go_at_call 168; (with_reducible refine (em_jump w0 _ g _ fr ba ro _ ?hl EM.out).mono ?_); (case hl => (try simp only [List.length_append, List.length_cons, List.length_nil]); have := HL.out; omega); rintro e w' ⟨rfl, hE, hF⟩; replace FR := Aside0.mk (FR.out.trans hF); (try clear e1 e2 e3); replace EM := Aside0.mk hE; clear hE hF; obtain ⟨e1, e2, e3⟩ := Em.cells EM.out))
 go_end0
 refine ⟨rfl, ?_, FR.out⟩
 have h_ := EM.out
 simp only [List.append_assoc, List.cons_append, List.nil_append] at h_ ⊢
 exact h_
def emLet (ba : Int) : List S46 := [⟨1, 7, 0, 0, 0⟩, ⟨7, 0, -1, 7, ba⟩]
set_option maxHeartbeats 16000000 in
set_option maxRecDepth 100000 in
theorem em_letGo (w0 w : World) (g : Nat) (xs : List S46) (fr ba ro : Int) (hl : xs.length ≤ 990) (h : Em w0 w g xs fr ba ro) :
  Calls Try.prog 173 #[.pointer (some ⟨g, 0, none⟩)] w fun e w' => e = .returned (.tuple #[]) ∧ Em w0 w' g (xs ++ emLet ba) fr ba ro ∧ Fr g w w' := by
 have hu126 := Try.underlying126
 have hu46 := Try.underlying46
 have HL := Aside0.mk hl
 have EM := Aside0.mk h
 clear hl h
 have FR := Aside0.mk (Fr.below (g := g) (Below.refl w.heap.size w))
 obtain ⟨e1, e2, e3⟩ := Em.cells EM.out
 unfold emLet
 go_enter Try.func173, Try.ntmps173
 go_wp2_with (first | (go_at_call 166; (with_reducible refine (em_set w0 _ g _ fr ba ro _ _ ?hl EM.out).mono ?_); (case hl => (try simp only [List.length_append, List.length_cons, List.length_nil]); have := HL.out; omega); rintro e w' ⟨rfl, hE, hF⟩; replace FR := Aside0.mk (FR.out.trans hF); (try clear e1 e2 e3); replace EM := Aside0.mk hE; clear hE hF; obtain ⟨e1, e2, e3⟩ := Em.cells EM.out))
 (try clear e1 e2 e3)
 obtain ⟨ys, hys⟩ : ∃ ys, Aside0 (Em w0 _ g ys fr ba ro) ∧ Aside0 (ys = _) := ⟨_, EM, ⟨rfl⟩⟩
 obtain ⟨EM2, HY⟩ := hys
 have HL2 := Aside0.mk (show ys.length ≤ 1000 from by rw [HY.out]; (try simp only [List.length_append, List.length_cons, List.length_nil]); have := HL.out; omega)
 clear EM
 have EM := EM2
 have HL0 := HL
 clear EM2 HL
 have HL := HL2
 clear HL2
 obtain ⟨v, hb, hr, hB, hg⟩ := EM.out
 obtain ⟨A, c, rfl⟩ := Kd.R_slice hr
 have HE := Aside0.mk hb
 have HR := Aside0.mk hr
 have HB := Aside0.mk hB
 have HG := Aside0.mk hg
 clear hb hr hB hg EM
 have hE1 := Aside0.mk (blk_below HE.out (below_drew1 (Below.refl _ _)))
 have n0_ := Aside0.mk (Kd.R_drew HR.out)
 have n1_ := Aside0.mk (below_drew1 HB.out)
 have n2_ := Aside0.mk (FR.out.trans (Fr.below (below_drew1 (Below.refl _ _))))
 clear HE HR HB FR
 have HE := hE1
 have HR := n0_
 have HB := n1_
 have FR := n2_
 clear hE1 n0_ n1_ n2_
 refine start_ (n := 15) (S := fun w' => w'.cell? ⟨g, 0, none⟩ = some (.slice A ys.length c) ∧ w'.cell? ⟨g, 1, none⟩ = some (.int .i64 fr) ∧ w'.cell? ⟨g, 2, none⟩ = some (.int .i64 ba) ∧ w'.cell? ⟨g, 3, none⟩ = some (.int .i64 ro)) (ds := [14]) (tf_ 0 15) (by kernel_rfl) rfl rfl (em_cells HE) (fun hHeld => ?_)
 generalize World.drew _ = w1 at HE HR HB FR hHeld ⊢
 refine pureP_ (i := 0) (N := some 4) (tf_ 1 14) (by kernel_rfl) (h := ?_)
 refine pureP_ (i := 1) (N := some 5) (tf_ 2 13) (by kernel_rfl) (h := ?_)
 refine pureP_ (i := 2) (N := some 6) (tf_ 3 12) (by kernel_rfl) (h := ?_)
 refine pureP_ (i := 3) (N := some 7) (tf_ 4 11) (by kernel_rfl) (h := ?_)
 refine takeP_ (i := 4) (N := some 8) (tf_ 5 10) (by kernel_rfl) hHeld (hy := Or.inl ⟨by rfl, att9_0_1⟩) (h := ?_)
 refine pureP_ (i := 5) (N := some 9) (tf_ 6 9) (by kernel_rfl) (h := ?_)
 refine pureP_ (i := 6) (N := some 10) (tf_ 7 8) (by kernel_rfl) (h := ?_)
 refine pureP_ (i := 7) (N := some 11) (tf_ 8 7) (by kernel_rfl) (h := ?_)
 refine takeP_ (i := 8) (N := some 12) (tf_ 9 6) (by kernel_rfl) hHeld (hy := Or.inl ⟨by rfl, att9_0_1⟩) (h := ?_)
 refine pureP_ (i := 9) (N := some 13) (tf_ 10 5) (by kernel_rfl) (h := ?_)
 refine one_ (i := 10) (N := some 14) (tf_ 11 4) rfl rfl (by kernel_rfl) (by decide) (fun K hK => ?_)
 refine Kd.R_lit_step k46 _ 46 ?hg (N := 14) ?hd (xs := ([⟨7, 0, -1, 7, ba⟩] : List S46)) (inner := [.int .i64 7, .int .i64 0, .int .i64 (-1), .int .i64 7, .int .i64 ba]) (ok := fun _ => True) (okp := fun _ => True) ?hr ?hp (fun _ hk => hk) trivial (Below.refl _ _) (Nat.le_refl _) (by simp) ?_
 (case hd => rfl)
 (case hg => rfl)
 (case hr => first | (go_simp; done) | (go_simp; rfl))
 (case hp => exact (Reps.c5 (show Kd.M k46 _ _ _ (⟨7, 0, -1, 7, ba⟩ : S46) [.int .i64 7, .int .i64 0, .int .i64 (-1), .int .i64 7, .int .i64 ba] from (k46_mkM _ _ _ (⟨7, 0, -1, 7, ba⟩ : S46))) (Reps.none _ _)))
 intro vl wl hl hb hg_ hnew
 replace HE := Aside0.mk (blk_below HE.out hb)
 replace HR := Aside0.mk (Kd.R_below HR.out hb)
 have HX := Aside0.mk hl
 replace HB := Aside0.mk (below_step HB.out hb)
 replace FR := Aside0.mk (FR.out.trans (Fr.below hb))
 clear hb hg_ hnew hl
 obtain ⟨Al, cL, el⟩ := Kd.R_slice HX.out
 subst el
 refine hK.out _ _ (em_cells HE) (fun hHeld => ?_)
 clear hK K
 refine normS_ (N := some 14) (h := ?_)
 refine one_ (i := 11) (N := some 15) (tf_ 12 3) rfl rfl (by kernel_rfl) (by decide) (fun K hK => ?_)
 refine Kd.R_append_rows_step k46 (w0 := w0) w0.heap.size (by rfl) (.tmp 8) (.tmp 14) 40 46 (.agg #[(.int .i64 0), (.int .i64 0), (.int .i64 0), (.int .i64 0), (.int .i64 0)]) 40 rfl Try.underlying40 info46 rfl (by decide) (by omega) (.slice A ys.length c) ys [⟨7, 0, -1, 7, ba⟩] _ _ _ (fun k => k ≠ g) (fun _ => False) rfl rfl ?aO ?aR (fun _ _ h => h) (fun _ h => h.elim) ?aF ?aB ?aS ?aL ?_
 (case aO => exact HR.out)
 (case aR => exact (Kd.R_reads' HX.out).2.2)
 (case aF => exact Kd.freshB HE.out)
 (case aB => exact HB.out)
 (case aS => exact HB.out.size)
 (case aL => have := HL.out; simp only [List.length_singleton]; omega)
 intro va wa ho hb hg hat
 replace FR := Aside0.mk (FR.out.trans (Fr.grown HR.out hg.size hg))
 replace HE := Aside0.mk (blk_grown HE.out hg (Kd.R_away HR.out (fun _ hk => hk)))
 replace HR := Aside0.mk ho
 replace HB := Aside0.mk hb
 clear ho hb hg hat
 obtain ⟨Aa, ca, ea⟩ := Kd.R_slice HR.out
 subst ea
 refine hK.out _ _ (em_cells HE) (fun hHeld => ?_)
 clear hK K
 refine normS_ (N := some 15) (h := ?_)
 refine pureP_ (i := 12) (N := some 16) (tf_ 13 2) (by kernel_rfl) (h := ?_)
 refine pureP_ (i := 13) (N := some 17) (tf_ 14 1) (by kernel_rfl) (h := ?_)
 refine last_ (i := 14) (N := none) (tf_ 15 0) rfl rfl (by kernel_rfl) (by decide) (fun K hK => ?_)
 obtain ⟨hc0, hc1, hc2, hc3⟩ := em_cells HE
 have hf0 := blk_frozen HE.out 0
 refine skip_ (w1 := ?_) (by rfl) rfl ?_ ?_
 rotate_left
 ·go_simp
  rfl
 refine hK.out _ _ ?_
 clear hK K hc0 hc1 hc2 hc3 hf0
 refine done_ (by kernel_rfl) ?_
 have EM := Aside0.mk (Em.cast (Em.fin HE.out HR.out HB.out HG.out) (app_cast HY.out _))
 replace FR := Aside0.mk (FR.out.trans (Fr.set g _ (.slice Aa (ys.length + 1) ca)))
 clear HE HR HB HG HX HL
 have HL := HL0
 clear HL0 hHeld
 obtain ⟨e1, e2, e3⟩ := Em.cells EM.out
 try go_wp2
 go_end0
 refine ⟨rfl, ?_, FR.out⟩
 have h_ := EM.out
 simp only [List.append_assoc, List.cons_append, List.nil_append] at h_ ⊢
 exact h_
def emOpen (fr ba : Int) : List S46 := [⟨5, 4, -1, 0, wrap64 (ba + 3)⟩, ⟨11, 0, 4, 0, wrap64 (fr + 9)⟩] ++ emLet ba ++ [⟨13, 0, 0, 0, 0⟩]
theorem emLet_len (ba : Int) : (emLet ba).length = 2 := rfl
set_option maxHeartbeats 16000000 in
set_option maxRecDepth 100000 in
theorem em_open (w0 w : World) (g : Nat) (xs : List S46) (fr ba ro : Int) (hl : xs.length ≤ 980) (h : Em w0 w g xs fr ba ro) :
  Calls Try.prog 169 #[.pointer (some ⟨g, 0, none⟩)] w fun e w' => e = .returned (.tuple #[]) ∧ Em w0 w' g (xs ++ emOpen fr ba) fr ba ro ∧ Fr g w w' := by
 have hu126 := Try.underlying126
 have hu46 := Try.underlying46
 have HL := Aside0.mk hl
 have EM := Aside0.mk h
 clear hl h
 have FR := Aside0.mk (Fr.below (g := g) (Below.refl w.heap.size w))
 obtain ⟨e1, e2, e3⟩ := Em.cells EM.out
 unfold emOpen
 go_enter Try.func169, Try.ntmps169
 go_wp2_with (first | (go_at_call 170; (with_reducible refine (em_load w0 _ g _ fr ba ro _ _ ?hl EM.out).mono ?_); (case hl => (try simp only [List.length_append, List.length_cons, List.length_nil, emLet_len]); have := HL.out; omega); rintro e w' ⟨rfl, hE, hF⟩; replace FR := Aside0.mk (FR.out.trans hF); (try clear e1 e2 e3); replace EM := Aside0.mk hE; clear hE hF; obtain ⟨e1, e2, e3⟩ := Em.cells EM.out) | (go_at_call 167; (with_reducible refine (em_zero w0 _ g _ fr ba ro _ _ ?hl EM.out).mono ?_); (case hl => (try simp only [List.length_append, List.length_cons, List.length_nil, emLet_len]); have := HL.out; omega); rintro e w' ⟨rfl, hE, hF⟩; replace FR := Aside0.mk (FR.out.trans hF); (try clear e1 e2 e3); replace EM := Aside0.mk hE; clear hE hF; obtain ⟨e1, e2, e3⟩ := Em.cells EM.out) | (go_at_call 173; (with_reducible refine (em_letGo w0 _ g _ fr ba ro ?hl EM.out).mono ?_); (case hl => (try simp only [List.length_append, List.length_cons, List.length_nil, emLet_len]); have := HL.out; omega); rintro e w' ⟨rfl, hE, hF⟩; replace FR := Aside0.mk (FR.out.trans hF); (try clear e1 e2 e3); replace EM := Aside0.mk hE; clear hE hF; obtain ⟨e1, e2, e3⟩ := Em.cells EM.out) | (go_at_call 197; (with_reducible refine (em_fault w0 _ g _ fr ba ro ?hl EM.out).mono ?_); (case hl => (try simp only [List.length_append, List.length_cons, List.length_nil, emLet_len]); have := HL.out; omega); rintro e w' ⟨rfl, hE, hF⟩; replace FR := Aside0.mk (FR.out.trans hF); (try clear e1 e2 e3); replace EM := Aside0.mk hE; clear hE hF; obtain ⟨e1, e2, e3⟩ := Em.cells EM.out))
 go_end0
 refine ⟨rfl, ?_, FR.out⟩
 have h_ := EM.out
 simp only [List.append_assoc, List.cons_append, List.nil_append] at h_ ⊢
 exact h_
def emClose (fr ba : Int) : List S46 := emOpen fr ba ++ [⟨1, 7, 0, 0, 1⟩, ⟨6, 0, -1, 7, wrap64 (ba + 3)⟩] ++ emLet ba
theorem emOpen_len (fr ba : Int) : (emOpen fr ba).length = 5 := rfl
set_option maxHeartbeats 16000000 in
set_option maxRecDepth 100000 in
theorem em_close (w0 w : World) (g : Nat) (xs : List S46) (fr ba ro : Int) (hl : xs.length ≤ 960) (h : Em w0 w g xs fr ba ro) :
  Calls Try.prog 105 #[.pointer (some ⟨g, 0, none⟩)] w fun e w' => e = .returned (.tuple #[]) ∧ Em w0 w' g (xs ++ emClose fr ba) fr ba ro ∧ Fr g w w' := by
 have hu126 := Try.underlying126
 have hu46 := Try.underlying46
 have HL := Aside0.mk hl
 have EM := Aside0.mk h
 clear hl h
 have FR := Aside0.mk (Fr.below (g := g) (Below.refl w.heap.size w))
 obtain ⟨e1, e2, e3⟩ := Em.cells EM.out
 unfold emClose
 go_enter Try.func105, Try.ntmps105
 go_wp2_with (first | (go_at_call 169; (with_reducible refine (em_open w0 _ g _ fr ba ro ?hl EM.out).mono ?_); (case hl => (try simp only [List.length_append, List.length_cons, List.length_nil, emLet_len, emOpen_len]); have := HL.out; omega); rintro e w' ⟨rfl, hE, hF⟩; replace FR := Aside0.mk (FR.out.trans hF); (try clear e1 e2 e3); replace EM := Aside0.mk hE; clear hE hF; obtain ⟨e1, e2, e3⟩ := Em.cells EM.out) | (go_at_call 166; (with_reducible refine (em_set w0 _ g _ fr ba ro _ _ ?hl EM.out).mono ?_); (case hl => (try simp only [List.length_append, List.length_cons, List.length_nil, emLet_len, emOpen_len]); have := HL.out; omega); rintro e w' ⟨rfl, hE, hF⟩; replace FR := Aside0.mk (FR.out.trans hF); (try clear e1 e2 e3); replace EM := Aside0.mk hE; clear hE hF; obtain ⟨e1, e2, e3⟩ := Em.cells EM.out) | (go_at_call 172; (with_reducible refine (em_store w0 _ g _ fr ba ro _ _ ?hl EM.out).mono ?_); (case hl => (try simp only [List.length_append, List.length_cons, List.length_nil, emLet_len, emOpen_len]); have := HL.out; omega); rintro e w' ⟨rfl, hE, hF⟩; replace FR := Aside0.mk (FR.out.trans hF); (try clear e1 e2 e3); replace EM := Aside0.mk hE; clear hE hF; obtain ⟨e1, e2, e3⟩ := Em.cells EM.out) | (go_at_call 173; (with_reducible refine (em_letGo w0 _ g _ fr ba ro ?hl EM.out).mono ?_); (case hl => (try simp only [List.length_append, List.length_cons, List.length_nil, emLet_len, emOpen_len]); have := HL.out; omega); rintro e w' ⟨rfl, hE, hF⟩; replace FR := Aside0.mk (FR.out.trans hF); (try clear e1 e2 e3); replace EM := Aside0.mk hE; clear hE hF; obtain ⟨e1, e2, e3⟩ := Em.cells EM.out))
 go_end0
 refine ⟨rfl, ?_, FR.out⟩
 have h_ := EM.out
 simp only [List.append_assoc, List.cons_append, List.nil_append] at h_ ⊢
 exact h_
theorem em_drawn {w w' : World} (h : Drawn0 w w') : Below w.heap.size w w' := by
 obtain ⟨n, rfl⟩ := h
 exact pw_below_drewN (Below.refl _ _) n
def em_sendTL (x1 x2 fr ba ro : Int) : List S46 := emOpen fr ba ++ [⟨5, 5, -1, 0, wrap64 (ba + 2)⟩, ⟨1, 7, 0, 0, ro⟩, ⟨4, 6, 5, 7, 0⟩, ⟨11, 0, 6, 0, wrap64 (fr + 27)⟩, ⟨5, 4, -1, 0, wrap64 (ba + 1)⟩, ⟨2, 4, 4, 5, 0⟩, ⟨4, 6, 4, 7, 0⟩, ⟨11, 0, 6, 0, wrap64 (fr + 18)⟩, ⟨10, 0, 0, 0, wrap64 (fr + 19)⟩, ⟨3, 4, 4, 7, 0⟩, ⟨6, 0, 4, x2, wrap64 (ba + 4)⟩, ⟨1, 7, 0, 0, 1⟩, ⟨2, 5, 5, 7, 0⟩, ⟨6, 0, -1, 5, wrap64 (ba + 2)⟩] ++ emLet ba ++ [⟨1, x1, 0, 0, 1⟩, ⟨10, 0, 0, 0, wrap64 (fr + 31)⟩] ++ emLet ba ++ [⟨1, x1, 0, 0, 0⟩, ⟨10, 0, 0, 0, wrap64 (fr + 31)⟩]
set_option maxHeartbeats 16000000 in
set_option maxRecDepth 100000 in
theorem em_sendT (w0 w : World) (g : Nat) (xs : List S46) (fr ba ro x1 x2 x3 x4 : Int) (hl : xs.length ≤ 900) (h : Em w0 w g xs fr ba ro) :
  Calls Try.prog 103 #[.pointer (some ⟨g, 0, none⟩), .agg #[.int .i64 7, .int .i64 x1, .int .i64 x2, .int .i64 x3, .int .i64 x4]] w fun e w' => e = .returned (.tuple #[]) ∧ Em w0 w' g (xs ++ em_sendTL x1 x2 fr ba ro) fr ba ro ∧ Fr g w w' := by
 have hu126 := Try.underlying126
 have hu46 := Try.underlying46
 have HL := Aside0.mk hl
 have EM := Aside0.mk h
 clear hl h
 have FR := Aside0.mk (Fr.below (g := g) (Below.refl w.heap.size w))
 obtain ⟨e1, e2, e3⟩ := Em.cells EM.out
 have hu37 := Try.underlying37
 have NUM := Aside0.mk (show impl_number.f true = some 1 from rfl)
 have SIZ := Aside0.mk (show impl_EmitSize.f 7 x1 x2 x3 x4 = some 31 from by simp [impl_EmitSize.f])
 unfold em_sendTL
 go_enter Try.func103, Try.ntmps103
 go_wp2_with (first | (go_at_call 169; (with_reducible refine (em_open w0 _ g _ fr ba ro ?hl EM.out).mono ?_); (case hl => (try simp only [List.length_append, List.length_cons, List.length_nil, emLet_len, emOpen_len]); have := HL.out; omega); rintro e w' ⟨rfl, hE, hF⟩; replace FR := Aside0.mk (FR.out.trans hF); replace BX := Aside0.mk (hF.2 _ _ _ BX.out (by decide) HN.out); (try clear b0 b1 b2 b3 b4); obtain ⟨b0, b1, b2, b3, b4⟩ := em_box BX; (try clear e1 e2 e3); replace EM := Aside0.mk hE; clear hE hF; obtain ⟨e1, e2, e3⟩ := Em.cells EM.out) | (go_at_call 170; (with_reducible refine (em_load w0 _ g _ fr ba ro _ _ ?hl EM.out).mono ?_); (case hl => (try simp only [List.length_append, List.length_cons, List.length_nil, emLet_len, emOpen_len]); have := HL.out; omega); rintro e w' ⟨rfl, hE, hF⟩; replace FR := Aside0.mk (FR.out.trans hF); replace BX := Aside0.mk (hF.2 _ _ _ BX.out (by decide) HN.out); (try clear b0 b1 b2 b3 b4); obtain ⟨b0, b1, b2, b3, b4⟩ := em_box BX; (try clear e1 e2 e3); replace EM := Aside0.mk hE; clear hE hF; obtain ⟨e1, e2, e3⟩ := Em.cells EM.out) | (go_at_call 166; (with_reducible refine (em_set w0 _ g _ fr ba ro _ _ ?hl EM.out).mono ?_); (case hl => (try simp only [List.length_append, List.length_cons, List.length_nil, emLet_len, emOpen_len]); have := HL.out; omega); rintro e w' ⟨rfl, hE, hF⟩; replace FR := Aside0.mk (FR.out.trans hF); replace BX := Aside0.mk (hF.2 _ _ _ BX.out (by decide) HN.out); (try clear b0 b1 b2 b3 b4); obtain ⟨b0, b1, b2, b3, b4⟩ := em_box BX; (try clear e1 e2 e3); replace EM := Aside0.mk hE; clear hE hF; obtain ⟨e1, e2, e3⟩ := Em.cells EM.out) | (go_at_call 171; (with_reducible refine (em_three w0 _ g _ fr ba ro _ _ _ _ ?hl EM.out).mono ?_); (case hl => (try simp only [List.length_append, List.length_cons, List.length_nil, emLet_len, emOpen_len]); have := HL.out; omega); rintro e w' ⟨rfl, hE, hF⟩; replace FR := Aside0.mk (FR.out.trans hF); replace BX := Aside0.mk (hF.2 _ _ _ BX.out (by decide) HN.out); (try clear b0 b1 b2 b3 b4); obtain ⟨b0, b1, b2, b3, b4⟩ := em_box BX; (try clear e1 e2 e3); replace EM := Aside0.mk hE; clear hE hF; obtain ⟨e1, e2, e3⟩ := Em.cells EM.out) | (go_at_call 167; (with_reducible refine (em_zero w0 _ g _ fr ba ro _ _ ?hl EM.out).mono ?_); (case hl => (try simp only [List.length_append, List.length_cons, List.length_nil, emLet_len, emOpen_len]); have := HL.out; omega); rintro e w' ⟨rfl, hE, hF⟩; replace FR := Aside0.mk (FR.out.trans hF); replace BX := Aside0.mk (hF.2 _ _ _ BX.out (by decide) HN.out); (try clear b0 b1 b2 b3 b4); obtain ⟨b0, b1, b2, b3, b4⟩ := em_box BX; (try clear e1 e2 e3); replace EM := Aside0.mk hE; clear hE hF; obtain ⟨e1, e2, e3⟩ := Em.cells EM.out) | (go_at_call 168; (with_reducible refine (em_jump w0 _ g _ fr ba ro _ ?hl EM.out).mono ?_); (case hl => (try simp only [List.length_append, List.length_cons, List.length_nil, emLet_len, emOpen_len]); have := HL.out; omega); rintro e w' ⟨rfl, hE, hF⟩; replace FR := Aside0.mk (FR.out.trans hF); replace BX := Aside0.mk (hF.2 _ _ _ BX.out (by decide) HN.out); (try clear b0 b1 b2 b3 b4); obtain ⟨b0, b1, b2, b3, b4⟩ := em_box BX; (try clear e1 e2 e3); replace EM := Aside0.mk hE; clear hE hF; obtain ⟨e1, e2, e3⟩ := Em.cells EM.out) | ((with_reducible refine gate_dst (N := 3) rfl ?_); refine box_event ?hg (N := 3) ?hd (cs := #[.int .i64 7, .int .i64 x1, .int .i64 x2, .int .i64 x3, .int .i64 x4]) (t := 37) ?hr ?_; (case hd => rfl); (case hg => rfl); (case hr => first | (go_simp; done) | (go_simp; rfl)); intro bx hg w3 hbox hb; have HN := Aside0.mk (show bx ≠ g from by obtain ⟨_, h1, _⟩ := EM.out; have h2 := blk_lt h1; omega); have BX := Aside0.mk hbox; replace EM := Aside0.mk (EM.out.below hb); replace FR := Aside0.mk (FR.out.trans (Fr.below hb)); clear hb hbox hg; obtain ⟨b0, b1, b2, b3, b4⟩ := em_box BX; (try clear e1 e2 e3); obtain ⟨e1, e2, e3⟩ := Em.cells EM.out) | (go_at_call 116; (with_reducible refine (impl_number.calls _ _ _ NUM.out).mono ?_); rintro e w' ⟨rfl, hd⟩; have hb := em_drawn hd; clear hd; replace EM := Aside0.mk (EM.out.below hb); replace FR := Aside0.mk (FR.out.trans (Fr.below hb)); replace BX := Aside0.mk (blk_below BX.out hb); (try clear b0 b1 b2 b3 b4); obtain ⟨b0, b1, b2, b3, b4⟩ := em_box BX; (try clear e1 e2 e3); obtain ⟨e1, e2, e3⟩ := Em.cells EM.out; clear hb))
 (try clear e1 e2 e3)
 (try clear b0 b1 b2 b3 b4)
 obtain ⟨ys, hys⟩ : ∃ ys, Aside0 (Em w0 _ g ys fr ba ro) ∧ Aside0 (ys = _) := ⟨_, EM, ⟨rfl⟩⟩
 obtain ⟨EM2, HY⟩ := hys
 have HL2 := Aside0.mk (show ys.length ≤ 1000 from by rw [HY.out]; (try simp only [List.length_append, List.length_cons, List.length_nil, emLet_len, emOpen_len]); have := HL.out; omega)
 clear EM
 have EM := EM2
 have HL0 := HL
 clear EM2 HL
 have HL := HL2
 clear HL2
 obtain ⟨v, hb, hr, hB, hg⟩ := EM.out
 obtain ⟨A, c, rfl⟩ := Kd.R_slice hr
 have HE := Aside0.mk hb
 have HR := Aside0.mk hr
 have HB := Aside0.mk hB
 have HG := Aside0.mk hg
 clear hb hr hB hg EM
 have hE1 := Aside0.mk (blk_below HE.out (below_drew1 (Below.refl _ _)))
 have n0_ := Aside0.mk (Kd.R_drew HR.out)
 have n1_ := Aside0.mk (below_drew1 HB.out)
 have n2_ := Aside0.mk (FR.out.trans (Fr.below (below_drew1 (Below.refl _ _))))
 have n3_ := Aside0.mk (blk_below BX.out (below_drew1 (Below.refl _ _)))
 clear HE HR HB FR BX
 have HE := hE1
 have HR := n0_
 have HB := n1_
 have FR := n2_
 have BX := n3_
 clear n3_
 clear hE1 n0_ n1_ n2_
 refine start_ (n := 18) (S := fun w' => w'.cell? ⟨g, 0, none⟩ = some (.slice A ys.length c) ∧ w'.cell? ⟨g, 1, none⟩ = some (.int .i64 fr) ∧ w'.cell? ⟨g, 2, none⟩ = some (.int .i64 ba) ∧ w'.cell? ⟨g, 3, none⟩ = some (.int .i64 ro) ∧ w'.cell? ⟨bx, 0, none⟩ = some (.int .i64 7) ∧ w'.cell? ⟨bx, 1, none⟩ = some (.int .i64 x1) ∧ w'.cell? ⟨bx, 2, none⟩ = some (.int .i64 x2) ∧ w'.cell? ⟨bx, 3, none⟩ = some (.int .i64 x3) ∧ w'.cell? ⟨bx, 4, none⟩ = some (.int .i64 x4)) (ds := [17]) (tf_ 0 18) (by kernel_rfl) rfl rfl ⟨(em_cells HE).1, (em_cells HE).2.1, (em_cells HE).2.2.1, (em_cells HE).2.2.2, em_box BX⟩ (fun hHeld => ?_)
 generalize World.drew _ = w1 at HE HR HB FR BX hHeld ⊢
 refine pureP_ (i := 0) (N := some 37) (tf_ 1 17) (by kernel_rfl) (h := ?_)
 refine pureP_ (i := 1) (N := some 38) (tf_ 2 16) (by kernel_rfl) (h := ?_)
 refine pureP_ (i := 2) (N := some 39) (tf_ 3 15) (by kernel_rfl) (h := ?_)
 refine pureP_ (i := 3) (N := some 40) (tf_ 4 14) (by kernel_rfl) (h := ?_)
 refine takeP_ (i := 4) (N := some 41) (tf_ 5 13) (by kernel_rfl) hHeld (hy := Or.inl ⟨by rfl, att9_0_0⟩) (h := ?_)
 refine pureP_ (i := 5) (N := some 42) (tf_ 6 12) (by kernel_rfl) (h := ?_)
 refine takeP_ (i := 6) (N := some 43) (tf_ 7 11) (by kernel_rfl) hHeld (hy := Or.inl ⟨by rfl, att9_0_0⟩) (h := ?_)
 refine pureP_ (i := 7) (N := some 44) (tf_ 8 10) (by kernel_rfl) (h := ?_)
 refine pureP_ (i := 8) (N := some 45) (tf_ 9 9) (by kernel_rfl) (h := ?_)
 refine pureP_ (i := 9) (N := some 46) (tf_ 10 8) (by kernel_rfl) (h := ?_)
 refine takeP_ (i := 10) (N := some 47) (tf_ 11 7) (by kernel_rfl) hHeld (hy := Or.inl ⟨by rfl, att9_0_0⟩) (h := ?_)
 refine pureP_ (i := 11) (N := some 48) (tf_ 12 6) (by kernel_rfl) (h := ?_)
 refine pureP_ (i := 12) (N := some 49) (tf_ 13 5) (by kernel_rfl) (h := ?_)
 refine one_ (i := 13) (N := some 50) (tf_ 14 4) rfl rfl (by kernel_rfl) (by decide) (fun K hK => ?_)
 refine Kd.R_lit_step k46 _ 46 ?hg (N := 50) ?hd (xs := ([⟨6, 0, 4, x2, wrap64 (ba + 4)⟩] : List S46)) (inner := [.int .i64 6, .int .i64 0, .int .i64 4, .int .i64 x2, .int .i64 (wrap64 (ba + 4))]) (ok := fun _ => True) (okp := fun _ => True) ?hr ?hp (fun _ hk => hk) trivial (Below.refl _ _) (Nat.le_refl _) (by simp) ?_
 (case hd => rfl)
 (case hg => rfl)
 (case hr => first | (go_simp; done) | (go_simp; rfl))
 (case hp => exact (Reps.c5 (show Kd.M k46 _ _ _ (⟨6, 0, 4, x2, wrap64 (ba + 4)⟩ : S46) [.int .i64 6, .int .i64 0, .int .i64 4, .int .i64 x2, .int .i64 (wrap64 (ba + 4))] from (k46_mkM _ _ _ (⟨6, 0, 4, x2, wrap64 (ba + 4)⟩ : S46))) (Reps.none _ _)))
 intro vl wl hl hb hg_ hnew
 replace HE := Aside0.mk (blk_below HE.out hb)
 replace HR := Aside0.mk (Kd.R_below HR.out hb)
 have HX := Aside0.mk hl
 replace HB := Aside0.mk (below_step HB.out hb)
 replace FR := Aside0.mk (FR.out.trans (Fr.below hb))
 replace BX := Aside0.mk (blk_below BX.out hb)
 clear hb hg_ hnew hl
 obtain ⟨Al, cL, el⟩ := Kd.R_slice HX.out
 subst el
 refine hK.out _ _ ⟨(em_cells HE).1, (em_cells HE).2.1, (em_cells HE).2.2.1, (em_cells HE).2.2.2, em_box BX⟩ (fun hHeld => ?_)
 clear hK K
 refine normS_ (N := some 50) (h := ?_)
 refine one_ (i := 14) (N := some 51) (tf_ 15 3) rfl rfl (by kernel_rfl) (by decide) (fun K hK => ?_)
 refine Kd.R_append_rows_step k46 (w0 := w0) w0.heap.size (by rfl) (.tmp 41) (.tmp 50) 40 46 (.agg #[(.int .i64 0), (.int .i64 0), (.int .i64 0), (.int .i64 0), (.int .i64 0)]) 40 rfl Try.underlying40 info46 rfl (by decide) (by omega) (.slice A ys.length c) ys [⟨6, 0, 4, x2, wrap64 (ba + 4)⟩] _ _ _ (fun k => k ≠ g) (fun _ => False) rfl rfl ?aO ?aR (fun _ _ h => h) (fun _ h => h.elim) ?aF ?aB ?aS ?aL ?_
 (case aO => exact HR.out)
 (case aR => exact (Kd.R_reads' HX.out).2.2)
 (case aF => exact Kd.freshB HE.out)
 (case aB => exact HB.out)
 (case aS => exact HB.out.size)
 (case aL => have := HL.out; simp only [List.length_singleton]; omega)
 intro va wa ho hb hg hat
 replace BX := Aside0.mk (blk_grown BX.out hg (Kd.R_ne HR.out BX.out (by decide)))
 replace FR := Aside0.mk (FR.out.trans (Fr.grown HR.out hg.size hg))
 replace HE := Aside0.mk (blk_grown HE.out hg (Kd.R_away HR.out (fun _ hk => hk)))
 replace HR := Aside0.mk ho
 replace HB := Aside0.mk hb
 clear ho hb hg hat
 obtain ⟨Aa, ca, ea⟩ := Kd.R_slice HR.out
 subst ea
 refine hK.out _ _ ⟨(em_cells HE).1, (em_cells HE).2.1, (em_cells HE).2.2.1, (em_cells HE).2.2.2, em_box BX⟩ (fun hHeld => ?_)
 clear hK K
 refine normS_ (N := some 51) (h := ?_)
 refine pureP_ (i := 15) (N := some 52) (tf_ 16 2) (by kernel_rfl) (h := ?_)
 refine pureP_ (i := 16) (N := some 53) (tf_ 17 1) (by kernel_rfl) (h := ?_)
 refine last_ (i := 17) (N := none) (tf_ 18 0) rfl rfl (by kernel_rfl) (by decide) (fun K hK => ?_)
 obtain ⟨hc0, hc1, hc2, hc3⟩ := em_cells HE
 have hf0 := blk_frozen HE.out 0
 refine skip_ (w1 := ?_) (by rfl) rfl ?_ ?_
 rotate_left
 ·go_simp
  rfl
 refine hK.out _ _ ?_
 clear hK K hc0 hc1 hc2 hc3 hf0
 refine done_ (by kernel_rfl) ?_
 have EM := Aside0.mk (Em.cast (Em.fin HE.out HR.out HB.out HG.out) (app_cast HY.out _))
 replace FR := Aside0.mk (FR.out.trans (Fr.set g _ (.slice Aa (ys.length + 1) ca)))
 replace BX := Aside0.mk ((Below.heap_setCell _ ⟨g, 0, none⟩ (.slice Aa (ys.length + 1) ca) _ HN.out).trans BX.out)
 clear HE HR HB HG HX HL
 have HL := HL0
 clear HL0 hHeld
 obtain ⟨e1, e2, e3⟩ := Em.cells EM.out
 obtain ⟨b0, b1, b2, b3, b4⟩ := em_box BX
 go_wp2_with (first | (go_at_call 166; (with_reducible refine (em_set w0 _ g _ fr ba ro _ _ ?hl EM.out).mono ?_); (case hl => (try simp only [List.length_append, List.length_cons, List.length_nil, emLet_len, emOpen_len]); have := HL.out; omega); rintro e w' ⟨rfl, hE, hF⟩; replace FR := Aside0.mk (FR.out.trans hF); replace BX := Aside0.mk (hF.2 _ _ _ BX.out (by decide) HN.out); (try clear b0 b1 b2 b3 b4); obtain ⟨b0, b1, b2, b3, b4⟩ := em_box BX; (try clear e1 e2 e3); replace EM := Aside0.mk hE; clear hE hF; obtain ⟨e1, e2, e3⟩ := Em.cells EM.out) | (go_at_call 171; (with_reducible refine (em_three w0 _ g _ fr ba ro _ _ _ _ ?hl EM.out).mono ?_); (case hl => (try simp only [List.length_append, List.length_cons, List.length_nil, emLet_len, emOpen_len]); have := HL.out; omega); rintro e w' ⟨rfl, hE, hF⟩; replace FR := Aside0.mk (FR.out.trans hF); replace BX := Aside0.mk (hF.2 _ _ _ BX.out (by decide) HN.out); (try clear b0 b1 b2 b3 b4); obtain ⟨b0, b1, b2, b3, b4⟩ := em_box BX; (try clear e1 e2 e3); replace EM := Aside0.mk hE; clear hE hF; obtain ⟨e1, e2, e3⟩ := Em.cells EM.out) | (go_at_call 172; (with_reducible refine (em_store w0 _ g _ fr ba ro _ _ ?hl EM.out).mono ?_); (case hl => (try simp only [List.length_append, List.length_cons, List.length_nil, emLet_len, emOpen_len]); have := HL.out; omega); rintro e w' ⟨rfl, hE, hF⟩; replace FR := Aside0.mk (FR.out.trans hF); replace BX := Aside0.mk (hF.2 _ _ _ BX.out (by decide) HN.out); (try clear b0 b1 b2 b3 b4); obtain ⟨b0, b1, b2, b3, b4⟩ := em_box BX; (try clear e1 e2 e3); replace EM := Aside0.mk hE; clear hE hF; obtain ⟨e1, e2, e3⟩ := Em.cells EM.out) | (go_at_call 173; (with_reducible refine (em_letGo w0 _ g _ fr ba ro ?hl EM.out).mono ?_); (case hl => (try simp only [List.length_append, List.length_cons, List.length_nil, emLet_len, emOpen_len]); have := HL.out; omega); rintro e w' ⟨rfl, hE, hF⟩; replace FR := Aside0.mk (FR.out.trans hF); replace BX := Aside0.mk (hF.2 _ _ _ BX.out (by decide) HN.out); (try clear b0 b1 b2 b3 b4); obtain ⟨b0, b1, b2, b3, b4⟩ := em_box BX; (try clear e1 e2 e3); replace EM := Aside0.mk hE; clear hE hF; obtain ⟨e1, e2, e3⟩ := Em.cells EM.out) | (go_at_call 168; (with_reducible refine (em_jump w0 _ g _ fr ba ro _ ?hl EM.out).mono ?_); (case hl => (try simp only [List.length_append, List.length_cons, List.length_nil, emLet_len, emOpen_len]); have := HL.out; omega); rintro e w' ⟨rfl, hE, hF⟩; replace FR := Aside0.mk (FR.out.trans hF); replace BX := Aside0.mk (hF.2 _ _ _ BX.out (by decide) HN.out); (try clear b0 b1 b2 b3 b4); obtain ⟨b0, b1, b2, b3, b4⟩ := em_box BX; (try clear e1 e2 e3); replace EM := Aside0.mk hE; clear hE hF; obtain ⟨e1, e2, e3⟩ := Em.cells EM.out) | (go_at_call 26; (with_reducible refine (impl_EmitSize.calls _ _ _ _ _ _ _ SIZ.out).mono ?_); rintro e w' ⟨rfl, hb⟩; replace EM := Aside0.mk (EM.out.below hb); replace FR := Aside0.mk (FR.out.trans (Fr.below hb)); replace BX := Aside0.mk (blk_below BX.out hb); (try clear b0 b1 b2 b3 b4); obtain ⟨b0, b1, b2, b3, b4⟩ := em_box BX; (try clear e1 e2 e3); obtain ⟨e1, e2, e3⟩ := Em.cells EM.out; clear hb))
 go_end0
 refine ⟨rfl, ?_, FR.out⟩
 have h_ := EM.out
 simp only [List.append_assoc, List.cons_append, List.nil_append, show wrap64 (26 + 1) = 27 from by unfold wrap64; omega, show wrap64 (26 + 0) = 26 from by unfold wrap64; omega, show wrap64 (2 * 1) = 2 from by unfold wrap64; omega, show wrap64 (2 * 0) = 0 from by unfold wrap64; omega] at h_ ⊢
 exact h_
def em_sendFL (x1 x2 fr ba ro : Int) : List S46 := emOpen fr ba ++ [⟨5, 5, -1, 0, wrap64 (ba + 2)⟩, ⟨1, 7, 0, 0, ro⟩, ⟨4, 6, 5, 7, 0⟩, ⟨11, 0, 6, 0, wrap64 (fr + 26)⟩, ⟨5, 4, -1, 0, wrap64 (ba + 1)⟩, ⟨2, 4, 4, 5, 0⟩, ⟨4, 6, 4, 7, 0⟩, ⟨11, 0, 6, 0, wrap64 (fr + 18)⟩, ⟨10, 0, 0, 0, wrap64 (fr + 19)⟩, ⟨3, 4, 4, 7, 0⟩, ⟨6, 0, 4, x2, wrap64 (ba + 4)⟩, ⟨1, 7, 0, 0, 1⟩, ⟨2, 5, 5, 7, 0⟩, ⟨6, 0, -1, 5, wrap64 (ba + 2)⟩] ++ emLet ba ++ [⟨10, 0, 0, 0, wrap64 (fr + 29)⟩] ++ emLet ba ++ [⟨10, 0, 0, 0, wrap64 (fr + 0)⟩]
set_option maxHeartbeats 16000000 in
set_option maxRecDepth 100000 in
theorem em_sendF (w0 w : World) (g : Nat) (xs : List S46) (fr ba ro x1 x2 x3 x4 : Int) (hl : xs.length ≤ 900) (h : Em w0 w g xs fr ba ro) :
  Calls Try.prog 103 #[.pointer (some ⟨g, 0, none⟩), .agg #[.int .i64 5, .int .i64 x1, .int .i64 x2, .int .i64 x3, .int .i64 x4]] w fun e w' => e = .returned (.tuple #[]) ∧ Em w0 w' g (xs ++ em_sendFL x1 x2 fr ba ro) fr ba ro ∧ Fr g w w' := by
 have hu126 := Try.underlying126
 have hu46 := Try.underlying46
 have HL := Aside0.mk hl
 have EM := Aside0.mk h
 clear hl h
 have FR := Aside0.mk (Fr.below (g := g) (Below.refl w.heap.size w))
 obtain ⟨e1, e2, e3⟩ := Em.cells EM.out
 have hu37 := Try.underlying37
 have NUM := Aside0.mk (show impl_number.f false = some 0 from rfl)
 have SIZ := Aside0.mk (show impl_EmitSize.f 5 x1 x2 x3 x4 = some 29 from by simp [impl_EmitSize.f])
 unfold em_sendFL
 go_enter Try.func103, Try.ntmps103
 go_wp2_with (first | (go_at_call 169; (with_reducible refine (em_open w0 _ g _ fr ba ro ?hl EM.out).mono ?_); (case hl => (try simp only [List.length_append, List.length_cons, List.length_nil, emLet_len, emOpen_len]); have := HL.out; omega); rintro e w' ⟨rfl, hE, hF⟩; replace FR := Aside0.mk (FR.out.trans hF); replace BX := Aside0.mk (hF.2 _ _ _ BX.out (by decide) HN.out); (try clear b0 b1 b2 b3 b4); obtain ⟨b0, b1, b2, b3, b4⟩ := em_box BX; (try clear e1 e2 e3); replace EM := Aside0.mk hE; clear hE hF; obtain ⟨e1, e2, e3⟩ := Em.cells EM.out) | (go_at_call 170; (with_reducible refine (em_load w0 _ g _ fr ba ro _ _ ?hl EM.out).mono ?_); (case hl => (try simp only [List.length_append, List.length_cons, List.length_nil, emLet_len, emOpen_len]); have := HL.out; omega); rintro e w' ⟨rfl, hE, hF⟩; replace FR := Aside0.mk (FR.out.trans hF); replace BX := Aside0.mk (hF.2 _ _ _ BX.out (by decide) HN.out); (try clear b0 b1 b2 b3 b4); obtain ⟨b0, b1, b2, b3, b4⟩ := em_box BX; (try clear e1 e2 e3); replace EM := Aside0.mk hE; clear hE hF; obtain ⟨e1, e2, e3⟩ := Em.cells EM.out) | (go_at_call 166; (with_reducible refine (em_set w0 _ g _ fr ba ro _ _ ?hl EM.out).mono ?_); (case hl => (try simp only [List.length_append, List.length_cons, List.length_nil, emLet_len, emOpen_len]); have := HL.out; omega); rintro e w' ⟨rfl, hE, hF⟩; replace FR := Aside0.mk (FR.out.trans hF); replace BX := Aside0.mk (hF.2 _ _ _ BX.out (by decide) HN.out); (try clear b0 b1 b2 b3 b4); obtain ⟨b0, b1, b2, b3, b4⟩ := em_box BX; (try clear e1 e2 e3); replace EM := Aside0.mk hE; clear hE hF; obtain ⟨e1, e2, e3⟩ := Em.cells EM.out) | (go_at_call 171; (with_reducible refine (em_three w0 _ g _ fr ba ro _ _ _ _ ?hl EM.out).mono ?_); (case hl => (try simp only [List.length_append, List.length_cons, List.length_nil, emLet_len, emOpen_len]); have := HL.out; omega); rintro e w' ⟨rfl, hE, hF⟩; replace FR := Aside0.mk (FR.out.trans hF); replace BX := Aside0.mk (hF.2 _ _ _ BX.out (by decide) HN.out); (try clear b0 b1 b2 b3 b4); obtain ⟨b0, b1, b2, b3, b4⟩ := em_box BX; (try clear e1 e2 e3); replace EM := Aside0.mk hE; clear hE hF; obtain ⟨e1, e2, e3⟩ := Em.cells EM.out) | (go_at_call 167; (with_reducible refine (em_zero w0 _ g _ fr ba ro _ _ ?hl EM.out).mono ?_); (case hl => (try simp only [List.length_append, List.length_cons, List.length_nil, emLet_len, emOpen_len]); have := HL.out; omega); rintro e w' ⟨rfl, hE, hF⟩; replace FR := Aside0.mk (FR.out.trans hF); replace BX := Aside0.mk (hF.2 _ _ _ BX.out (by decide) HN.out); (try clear b0 b1 b2 b3 b4); obtain ⟨b0, b1, b2, b3, b4⟩ := em_box BX; (try clear e1 e2 e3); replace EM := Aside0.mk hE; clear hE hF; obtain ⟨e1, e2, e3⟩ := Em.cells EM.out) | (go_at_call 168; (with_reducible refine (em_jump w0 _ g _ fr ba ro _ ?hl EM.out).mono ?_); (case hl => (try simp only [List.length_append, List.length_cons, List.length_nil, emLet_len, emOpen_len]); have := HL.out; omega); rintro e w' ⟨rfl, hE, hF⟩; replace FR := Aside0.mk (FR.out.trans hF); replace BX := Aside0.mk (hF.2 _ _ _ BX.out (by decide) HN.out); (try clear b0 b1 b2 b3 b4); obtain ⟨b0, b1, b2, b3, b4⟩ := em_box BX; (try clear e1 e2 e3); replace EM := Aside0.mk hE; clear hE hF; obtain ⟨e1, e2, e3⟩ := Em.cells EM.out) | ((with_reducible refine gate_dst (N := 3) rfl ?_); refine box_event ?hg (N := 3) ?hd (cs := #[.int .i64 5, .int .i64 x1, .int .i64 x2, .int .i64 x3, .int .i64 x4]) (t := 37) ?hr ?_; (case hd => rfl); (case hg => rfl); (case hr => first | (go_simp; done) | (go_simp; rfl)); intro bx hg w3 hbox hb; have HN := Aside0.mk (show bx ≠ g from by obtain ⟨_, h1, _⟩ := EM.out; have h2 := blk_lt h1; omega); have BX := Aside0.mk hbox; replace EM := Aside0.mk (EM.out.below hb); replace FR := Aside0.mk (FR.out.trans (Fr.below hb)); clear hb hbox hg; obtain ⟨b0, b1, b2, b3, b4⟩ := em_box BX; (try clear e1 e2 e3); obtain ⟨e1, e2, e3⟩ := Em.cells EM.out) | (go_at_call 116; (with_reducible refine (impl_number.calls _ _ _ NUM.out).mono ?_); rintro e w' ⟨rfl, hd⟩; have hb := em_drawn hd; clear hd; replace EM := Aside0.mk (EM.out.below hb); replace FR := Aside0.mk (FR.out.trans (Fr.below hb)); replace BX := Aside0.mk (blk_below BX.out hb); (try clear b0 b1 b2 b3 b4); obtain ⟨b0, b1, b2, b3, b4⟩ := em_box BX; (try clear e1 e2 e3); obtain ⟨e1, e2, e3⟩ := Em.cells EM.out; clear hb))
 (try clear e1 e2 e3)
 (try clear b0 b1 b2 b3 b4)
 obtain ⟨ys, hys⟩ : ∃ ys, Aside0 (Em w0 _ g ys fr ba ro) ∧ Aside0 (ys = _) := ⟨_, EM, ⟨rfl⟩⟩
 obtain ⟨EM2, HY⟩ := hys
 have HL2 := Aside0.mk (show ys.length ≤ 1000 from by rw [HY.out]; (try simp only [List.length_append, List.length_cons, List.length_nil, emLet_len, emOpen_len]); have := HL.out; omega)
 clear EM
 have EM := EM2
 have HL0 := HL
 clear EM2 HL
 have HL := HL2
 clear HL2
 obtain ⟨v, hb, hr, hB, hg⟩ := EM.out
 obtain ⟨A, c, rfl⟩ := Kd.R_slice hr
 have HE := Aside0.mk hb
 have HR := Aside0.mk hr
 have HB := Aside0.mk hB
 have HG := Aside0.mk hg
 clear hb hr hB hg EM
 have hE1 := Aside0.mk (blk_below HE.out (below_drew1 (Below.refl _ _)))
 have n0_ := Aside0.mk (Kd.R_drew HR.out)
 have n1_ := Aside0.mk (below_drew1 HB.out)
 have n2_ := Aside0.mk (FR.out.trans (Fr.below (below_drew1 (Below.refl _ _))))
 have n3_ := Aside0.mk (blk_below BX.out (below_drew1 (Below.refl _ _)))
 clear HE HR HB FR BX
 have HE := hE1
 have HR := n0_
 have HB := n1_
 have FR := n2_
 have BX := n3_
 clear n3_
 clear hE1 n0_ n1_ n2_
 refine start_ (n := 18) (S := fun w' => w'.cell? ⟨g, 0, none⟩ = some (.slice A ys.length c) ∧ w'.cell? ⟨g, 1, none⟩ = some (.int .i64 fr) ∧ w'.cell? ⟨g, 2, none⟩ = some (.int .i64 ba) ∧ w'.cell? ⟨g, 3, none⟩ = some (.int .i64 ro) ∧ w'.cell? ⟨bx, 0, none⟩ = some (.int .i64 5) ∧ w'.cell? ⟨bx, 1, none⟩ = some (.int .i64 x1) ∧ w'.cell? ⟨bx, 2, none⟩ = some (.int .i64 x2) ∧ w'.cell? ⟨bx, 3, none⟩ = some (.int .i64 x3) ∧ w'.cell? ⟨bx, 4, none⟩ = some (.int .i64 x4)) (ds := [17]) (tf_ 0 18) (by kernel_rfl) rfl rfl ⟨(em_cells HE).1, (em_cells HE).2.1, (em_cells HE).2.2.1, (em_cells HE).2.2.2, em_box BX⟩ (fun hHeld => ?_)
 generalize World.drew _ = w1 at HE HR HB FR BX hHeld ⊢
 refine pureP_ (i := 0) (N := some 37) (tf_ 1 17) (by kernel_rfl) (h := ?_)
 refine pureP_ (i := 1) (N := some 38) (tf_ 2 16) (by kernel_rfl) (h := ?_)
 refine pureP_ (i := 2) (N := some 39) (tf_ 3 15) (by kernel_rfl) (h := ?_)
 refine pureP_ (i := 3) (N := some 40) (tf_ 4 14) (by kernel_rfl) (h := ?_)
 refine takeP_ (i := 4) (N := some 41) (tf_ 5 13) (by kernel_rfl) hHeld (hy := Or.inl ⟨by rfl, att9_0_0⟩) (h := ?_)
 refine pureP_ (i := 5) (N := some 42) (tf_ 6 12) (by kernel_rfl) (h := ?_)
 refine takeP_ (i := 6) (N := some 43) (tf_ 7 11) (by kernel_rfl) hHeld (hy := Or.inl ⟨by rfl, att9_0_0⟩) (h := ?_)
 refine pureP_ (i := 7) (N := some 44) (tf_ 8 10) (by kernel_rfl) (h := ?_)
 refine pureP_ (i := 8) (N := some 45) (tf_ 9 9) (by kernel_rfl) (h := ?_)
 refine pureP_ (i := 9) (N := some 46) (tf_ 10 8) (by kernel_rfl) (h := ?_)
 refine takeP_ (i := 10) (N := some 47) (tf_ 11 7) (by kernel_rfl) hHeld (hy := Or.inl ⟨by rfl, att9_0_0⟩) (h := ?_)
 refine pureP_ (i := 11) (N := some 48) (tf_ 12 6) (by kernel_rfl) (h := ?_)
 refine pureP_ (i := 12) (N := some 49) (tf_ 13 5) (by kernel_rfl) (h := ?_)
 refine one_ (i := 13) (N := some 50) (tf_ 14 4) rfl rfl (by kernel_rfl) (by decide) (fun K hK => ?_)
 refine Kd.R_lit_step k46 _ 46 ?hg (N := 50) ?hd (xs := ([⟨6, 0, 4, x2, wrap64 (ba + 4)⟩] : List S46)) (inner := [.int .i64 6, .int .i64 0, .int .i64 4, .int .i64 x2, .int .i64 (wrap64 (ba + 4))]) (ok := fun _ => True) (okp := fun _ => True) ?hr ?hp (fun _ hk => hk) trivial (Below.refl _ _) (Nat.le_refl _) (by simp) ?_
 (case hd => rfl)
 (case hg => rfl)
 (case hr => first | (go_simp; done) | (go_simp; rfl))
 (case hp => exact (Reps.c5 (show Kd.M k46 _ _ _ (⟨6, 0, 4, x2, wrap64 (ba + 4)⟩ : S46) [.int .i64 6, .int .i64 0, .int .i64 4, .int .i64 x2, .int .i64 (wrap64 (ba + 4))] from (k46_mkM _ _ _ (⟨6, 0, 4, x2, wrap64 (ba + 4)⟩ : S46))) (Reps.none _ _)))
 intro vl wl hl hb hg_ hnew
 replace HE := Aside0.mk (blk_below HE.out hb)
 replace HR := Aside0.mk (Kd.R_below HR.out hb)
 have HX := Aside0.mk hl
 replace HB := Aside0.mk (below_step HB.out hb)
 replace FR := Aside0.mk (FR.out.trans (Fr.below hb))
 replace BX := Aside0.mk (blk_below BX.out hb)
 clear hb hg_ hnew hl
 obtain ⟨Al, cL, el⟩ := Kd.R_slice HX.out
 subst el
 refine hK.out _ _ ⟨(em_cells HE).1, (em_cells HE).2.1, (em_cells HE).2.2.1, (em_cells HE).2.2.2, em_box BX⟩ (fun hHeld => ?_)
 clear hK K
 refine normS_ (N := some 50) (h := ?_)
 refine one_ (i := 14) (N := some 51) (tf_ 15 3) rfl rfl (by kernel_rfl) (by decide) (fun K hK => ?_)
 refine Kd.R_append_rows_step k46 (w0 := w0) w0.heap.size (by rfl) (.tmp 41) (.tmp 50) 40 46 (.agg #[(.int .i64 0), (.int .i64 0), (.int .i64 0), (.int .i64 0), (.int .i64 0)]) 40 rfl Try.underlying40 info46 rfl (by decide) (by omega) (.slice A ys.length c) ys [⟨6, 0, 4, x2, wrap64 (ba + 4)⟩] _ _ _ (fun k => k ≠ g) (fun _ => False) rfl rfl ?aO ?aR (fun _ _ h => h) (fun _ h => h.elim) ?aF ?aB ?aS ?aL ?_
 (case aO => exact HR.out)
 (case aR => exact (Kd.R_reads' HX.out).2.2)
 (case aF => exact Kd.freshB HE.out)
 (case aB => exact HB.out)
 (case aS => exact HB.out.size)
 (case aL => have := HL.out; simp only [List.length_singleton]; omega)
 intro va wa ho hb hg hat
 replace BX := Aside0.mk (blk_grown BX.out hg (Kd.R_ne HR.out BX.out (by decide)))
 replace FR := Aside0.mk (FR.out.trans (Fr.grown HR.out hg.size hg))
 replace HE := Aside0.mk (blk_grown HE.out hg (Kd.R_away HR.out (fun _ hk => hk)))
 replace HR := Aside0.mk ho
 replace HB := Aside0.mk hb
 clear ho hb hg hat
 obtain ⟨Aa, ca, ea⟩ := Kd.R_slice HR.out
 subst ea
 refine hK.out _ _ ⟨(em_cells HE).1, (em_cells HE).2.1, (em_cells HE).2.2.1, (em_cells HE).2.2.2, em_box BX⟩ (fun hHeld => ?_)
 clear hK K
 refine normS_ (N := some 51) (h := ?_)
 refine pureP_ (i := 15) (N := some 52) (tf_ 16 2) (by kernel_rfl) (h := ?_)
 refine pureP_ (i := 16) (N := some 53) (tf_ 17 1) (by kernel_rfl) (h := ?_)
 refine last_ (i := 17) (N := none) (tf_ 18 0) rfl rfl (by kernel_rfl) (by decide) (fun K hK => ?_)
 obtain ⟨hc0, hc1, hc2, hc3⟩ := em_cells HE
 have hf0 := blk_frozen HE.out 0
 refine skip_ (w1 := ?_) (by rfl) rfl ?_ ?_
 rotate_left
 ·go_simp
  rfl
 refine hK.out _ _ ?_
 clear hK K hc0 hc1 hc2 hc3 hf0
 refine done_ (by kernel_rfl) ?_
 have EM := Aside0.mk (Em.cast (Em.fin HE.out HR.out HB.out HG.out) (app_cast HY.out _))
 replace FR := Aside0.mk (FR.out.trans (Fr.set g _ (.slice Aa (ys.length + 1) ca)))
 replace BX := Aside0.mk ((Below.heap_setCell _ ⟨g, 0, none⟩ (.slice Aa (ys.length + 1) ca) _ HN.out).trans BX.out)
 clear HE HR HB HG HX HL
 have HL := HL0
 clear HL0 hHeld
 obtain ⟨e1, e2, e3⟩ := Em.cells EM.out
 obtain ⟨b0, b1, b2, b3, b4⟩ := em_box BX
 go_wp2_with (first | (go_at_call 166; (with_reducible refine (em_set w0 _ g _ fr ba ro _ _ ?hl EM.out).mono ?_); (case hl => (try simp only [List.length_append, List.length_cons, List.length_nil, emLet_len, emOpen_len]); have := HL.out; omega); rintro e w' ⟨rfl, hE, hF⟩; replace FR := Aside0.mk (FR.out.trans hF); replace BX := Aside0.mk (hF.2 _ _ _ BX.out (by decide) HN.out); (try clear b0 b1 b2 b3 b4); obtain ⟨b0, b1, b2, b3, b4⟩ := em_box BX; (try clear e1 e2 e3); replace EM := Aside0.mk hE; clear hE hF; obtain ⟨e1, e2, e3⟩ := Em.cells EM.out) | (go_at_call 171; (with_reducible refine (em_three w0 _ g _ fr ba ro _ _ _ _ ?hl EM.out).mono ?_); (case hl => (try simp only [List.length_append, List.length_cons, List.length_nil, emLet_len, emOpen_len]); have := HL.out; omega); rintro e w' ⟨rfl, hE, hF⟩; replace FR := Aside0.mk (FR.out.trans hF); replace BX := Aside0.mk (hF.2 _ _ _ BX.out (by decide) HN.out); (try clear b0 b1 b2 b3 b4); obtain ⟨b0, b1, b2, b3, b4⟩ := em_box BX; (try clear e1 e2 e3); replace EM := Aside0.mk hE; clear hE hF; obtain ⟨e1, e2, e3⟩ := Em.cells EM.out) | (go_at_call 172; (with_reducible refine (em_store w0 _ g _ fr ba ro _ _ ?hl EM.out).mono ?_); (case hl => (try simp only [List.length_append, List.length_cons, List.length_nil, emLet_len, emOpen_len]); have := HL.out; omega); rintro e w' ⟨rfl, hE, hF⟩; replace FR := Aside0.mk (FR.out.trans hF); replace BX := Aside0.mk (hF.2 _ _ _ BX.out (by decide) HN.out); (try clear b0 b1 b2 b3 b4); obtain ⟨b0, b1, b2, b3, b4⟩ := em_box BX; (try clear e1 e2 e3); replace EM := Aside0.mk hE; clear hE hF; obtain ⟨e1, e2, e3⟩ := Em.cells EM.out) | (go_at_call 173; (with_reducible refine (em_letGo w0 _ g _ fr ba ro ?hl EM.out).mono ?_); (case hl => (try simp only [List.length_append, List.length_cons, List.length_nil, emLet_len, emOpen_len]); have := HL.out; omega); rintro e w' ⟨rfl, hE, hF⟩; replace FR := Aside0.mk (FR.out.trans hF); replace BX := Aside0.mk (hF.2 _ _ _ BX.out (by decide) HN.out); (try clear b0 b1 b2 b3 b4); obtain ⟨b0, b1, b2, b3, b4⟩ := em_box BX; (try clear e1 e2 e3); replace EM := Aside0.mk hE; clear hE hF; obtain ⟨e1, e2, e3⟩ := Em.cells EM.out) | (go_at_call 168; (with_reducible refine (em_jump w0 _ g _ fr ba ro _ ?hl EM.out).mono ?_); (case hl => (try simp only [List.length_append, List.length_cons, List.length_nil, emLet_len, emOpen_len]); have := HL.out; omega); rintro e w' ⟨rfl, hE, hF⟩; replace FR := Aside0.mk (FR.out.trans hF); replace BX := Aside0.mk (hF.2 _ _ _ BX.out (by decide) HN.out); (try clear b0 b1 b2 b3 b4); obtain ⟨b0, b1, b2, b3, b4⟩ := em_box BX; (try clear e1 e2 e3); replace EM := Aside0.mk hE; clear hE hF; obtain ⟨e1, e2, e3⟩ := Em.cells EM.out) | (go_at_call 26; (with_reducible refine (impl_EmitSize.calls _ _ _ _ _ _ _ SIZ.out).mono ?_); rintro e w' ⟨rfl, hb⟩; replace EM := Aside0.mk (EM.out.below hb); replace FR := Aside0.mk (FR.out.trans (Fr.below hb)); replace BX := Aside0.mk (blk_below BX.out hb); (try clear b0 b1 b2 b3 b4); obtain ⟨b0, b1, b2, b3, b4⟩ := em_box BX; (try clear e1 e2 e3); obtain ⟨e1, e2, e3⟩ := Em.cells EM.out; clear hb))
 go_end0
 refine ⟨rfl, ?_, FR.out⟩
 have h_ := EM.out
 simp only [List.append_assoc, List.cons_append, List.nil_append, show wrap64 (26 + 1) = 27 from by unfold wrap64; omega, show wrap64 (26 + 0) = 26 from by unfold wrap64; omega, show wrap64 (2 * 1) = 2 from by unfold wrap64; omega, show wrap64 (2 * 0) = 0 from by unfold wrap64; omega] at h_ ⊢
 exact h_
def em_takeTL (x1 x3 fr ba ro : Int) : List S46 := [⟨5, 5, -1, 0, wrap64 (ba + 2)⟩, ⟨11, 0, 5, 0, wrap64 (fr + 22)⟩, ⟨5, 4, -1, 0, wrap64 (ba + 1)⟩, ⟨5, x1, 4, 0, wrap64 (ba + 4)⟩, ⟨1, 7, 0, 0, 1⟩, ⟨2, 4, 4, 7, 0⟩, ⟨3, 5, 5, 7, 0⟩, ⟨1, 7, 0, 0, ro⟩, ⟨4, 6, 4, 7, 0⟩, ⟨11, 0, 6, 0, wrap64 (fr + 15)⟩, ⟨10, 0, 0, 0, wrap64 (fr + 16)⟩, ⟨1, 4, 0, 0, 0⟩, ⟨6, 0, -1, 4, wrap64 (ba + 1)⟩, ⟨6, 0, -1, 5, wrap64 (ba + 2)⟩] ++ emLet ba ++ [⟨1, x3, 0, 0, 1⟩, ⟨10, 0, 0, 0, wrap64 (fr + 32)⟩, ⟨5, 4, -1, 0, wrap64 (ba + 3)⟩] ++ emLet ba ++ [⟨11, 0, 4, 0, wrap64 (fr + 29)⟩, ⟨1, x1, 0, 0, 0⟩, ⟨1, x3, 0, 0, 2⟩, ⟨10, 0, 0, 0, wrap64 (fr + 32)⟩] ++ [⟨1, x1, 0, 0, 0⟩, ⟨1, x3, 0, 0, 0⟩, ⟨10, 0, 0, 0, wrap64 (fr + 32)⟩]
set_option maxHeartbeats 16000000 in
set_option maxRecDepth 100000 in
theorem em_takeT (w0 w : World) (g : Nat) (xs : List S46) (fr ba ro x1 x2 x3 x4 : Int) (hl : xs.length ≤ 900) (h : Em w0 w g xs fr ba ro) :
  Calls Try.prog 104 #[.pointer (some ⟨g, 0, none⟩), .agg #[.int .i64 8, .int .i64 x1, .int .i64 x2, .int .i64 x3, .int .i64 x4]] w fun e w' => e = .returned (.tuple #[]) ∧ Em w0 w' g (xs ++ em_takeTL x1 x3 fr ba ro) fr ba ro ∧ Fr g w w' := by
 have hu126 := Try.underlying126
 have hu46 := Try.underlying46
 have HL := Aside0.mk hl
 have EM := Aside0.mk h
 clear hl h
 have FR := Aside0.mk (Fr.below (g := g) (Below.refl w.heap.size w))
 obtain ⟨e1, e2, e3⟩ := Em.cells EM.out
 have hu37 := Try.underlying37
 have NUM := Aside0.mk (show impl_number.f true = some 1 from rfl)
 have SIZ := Aside0.mk (show impl_EmitSize.f 8 x1 x2 x3 x4 = some 32 from by simp [impl_EmitSize.f])
 unfold em_takeTL
 go_enter Try.func104, Try.ntmps104
 go_wp2_with (first | (go_at_call 170; (with_reducible refine (em_load w0 _ g _ fr ba ro _ _ ?hl EM.out).mono ?_); (case hl => (try simp only [List.length_append, List.length_cons, List.length_nil, emLet_len, emOpen_len]); have := HL.out; omega); rintro e w' ⟨rfl, hE, hF⟩; replace FR := Aside0.mk (FR.out.trans hF); replace BX := Aside0.mk (hF.2 _ _ _ BX.out (by decide) HN.out); (try clear b0 b1 b2 b3 b4); obtain ⟨b0, b1, b2, b3, b4⟩ := em_box BX; (try clear e1 e2 e3); replace EM := Aside0.mk hE; clear hE hF; obtain ⟨e1, e2, e3⟩ := Em.cells EM.out) | (go_at_call 167; (with_reducible refine (em_zero w0 _ g _ fr ba ro _ _ ?hl EM.out).mono ?_); (case hl => (try simp only [List.length_append, List.length_cons, List.length_nil, emLet_len, emOpen_len]); have := HL.out; omega); rintro e w' ⟨rfl, hE, hF⟩; replace FR := Aside0.mk (FR.out.trans hF); replace BX := Aside0.mk (hF.2 _ _ _ BX.out (by decide) HN.out); (try clear b0 b1 b2 b3 b4); obtain ⟨b0, b1, b2, b3, b4⟩ := em_box BX; (try clear e1 e2 e3); replace EM := Aside0.mk hE; clear hE hF; obtain ⟨e1, e2, e3⟩ := Em.cells EM.out) | ((with_reducible refine gate_dst (N := 3) rfl ?_); refine box_event ?hg (N := 3) ?hd (cs := #[.int .i64 8, .int .i64 x1, .int .i64 x2, .int .i64 x3, .int .i64 x4]) (t := 37) ?hr ?_; (case hd => rfl); (case hg => rfl); (case hr => first | (go_simp; done) | (go_simp; rfl)); intro bx hg w3 hbox hb; have HN := Aside0.mk (show bx ≠ g from by obtain ⟨_, h1, _⟩ := EM.out; have h2 := blk_lt h1; omega); have BX := Aside0.mk hbox; replace EM := Aside0.mk (EM.out.below hb); replace FR := Aside0.mk (FR.out.trans (Fr.below hb)); clear hb hbox hg; obtain ⟨b0, b1, b2, b3, b4⟩ := em_box BX; (try clear e1 e2 e3); obtain ⟨e1, e2, e3⟩ := Em.cells EM.out))
 (try clear e1 e2 e3)
 (try clear b0 b1 b2 b3 b4)
 obtain ⟨ys, hys⟩ : ∃ ys, Aside0 (Em w0 _ g ys fr ba ro) ∧ Aside0 (ys = _) := ⟨_, EM, ⟨rfl⟩⟩
 obtain ⟨EM2, HY⟩ := hys
 have HL2 := Aside0.mk (show ys.length ≤ 1000 from by rw [HY.out]; (try simp only [List.length_append, List.length_cons, List.length_nil, emLet_len, emOpen_len]); have := HL.out; omega)
 clear EM
 have EM := EM2
 have HL0 := HL
 clear EM2 HL
 have HL := HL2
 clear HL2
 obtain ⟨v, hb, hr, hB, hg⟩ := EM.out
 obtain ⟨A, c, rfl⟩ := Kd.R_slice hr
 have HE := Aside0.mk hb
 have HR := Aside0.mk hr
 have HB := Aside0.mk hB
 have HG := Aside0.mk hg
 clear hb hr hB hg EM
 have hE1 := Aside0.mk (blk_below HE.out (below_drew1 (Below.refl _ _)))
 have n0_ := Aside0.mk (Kd.R_drew HR.out)
 have n1_ := Aside0.mk (below_drew1 HB.out)
 have n2_ := Aside0.mk (FR.out.trans (Fr.below (below_drew1 (Below.refl _ _))))
 have n3_ := Aside0.mk (blk_below BX.out (below_drew1 (Below.refl _ _)))
 clear HE HR HB FR BX
 have HE := hE1
 have HR := n0_
 have HB := n1_
 have FR := n2_
 have BX := n3_
 clear n3_
 clear hE1 n0_ n1_ n2_
 refine start_ (n := 18) (S := fun w' => w'.cell? ⟨g, 0, none⟩ = some (.slice A ys.length c) ∧ w'.cell? ⟨g, 1, none⟩ = some (.int .i64 fr) ∧ w'.cell? ⟨g, 2, none⟩ = some (.int .i64 ba) ∧ w'.cell? ⟨g, 3, none⟩ = some (.int .i64 ro) ∧ w'.cell? ⟨bx, 0, none⟩ = some (.int .i64 8) ∧ w'.cell? ⟨bx, 1, none⟩ = some (.int .i64 x1) ∧ w'.cell? ⟨bx, 2, none⟩ = some (.int .i64 x2) ∧ w'.cell? ⟨bx, 3, none⟩ = some (.int .i64 x3) ∧ w'.cell? ⟨bx, 4, none⟩ = some (.int .i64 x4)) (ds := [17]) (tf_ 0 18) (by kernel_rfl) rfl rfl ⟨(em_cells HE).1, (em_cells HE).2.1, (em_cells HE).2.2.1, (em_cells HE).2.2.2, em_box BX⟩ (fun hHeld => ?_)
 generalize World.drew _ = w1 at HE HR HB FR BX hHeld ⊢
 refine pureP_ (i := 0) (N := some 14) (tf_ 1 17) (by kernel_rfl) (h := ?_)
 refine pureP_ (i := 1) (N := some 15) (tf_ 2 16) (by kernel_rfl) (h := ?_)
 refine pureP_ (i := 2) (N := some 16) (tf_ 3 15) (by kernel_rfl) (h := ?_)
 refine pureP_ (i := 3) (N := some 17) (tf_ 4 14) (by kernel_rfl) (h := ?_)
 refine takeP_ (i := 4) (N := some 18) (tf_ 5 13) (by kernel_rfl) hHeld (hy := Or.inl ⟨by rfl, att9_0_0⟩) (h := ?_)
 refine pureP_ (i := 5) (N := some 19) (tf_ 6 12) (by kernel_rfl) (h := ?_)
 refine takeP_ (i := 6) (N := some 20) (tf_ 7 11) (by kernel_rfl) hHeld (hy := Or.inl ⟨by rfl, att9_0_0⟩) (h := ?_)
 refine pureP_ (i := 7) (N := some 21) (tf_ 8 10) (by kernel_rfl) (h := ?_)
 refine pureP_ (i := 8) (N := some 22) (tf_ 9 9) (by kernel_rfl) (h := ?_)
 refine pureP_ (i := 9) (N := some 23) (tf_ 10 8) (by kernel_rfl) (h := ?_)
 refine takeP_ (i := 10) (N := some 24) (tf_ 11 7) (by kernel_rfl) hHeld (hy := Or.inl ⟨by rfl, att9_0_0⟩) (h := ?_)
 refine pureP_ (i := 11) (N := some 25) (tf_ 12 6) (by kernel_rfl) (h := ?_)
 refine pureP_ (i := 12) (N := some 26) (tf_ 13 5) (by kernel_rfl) (h := ?_)
 refine one_ (i := 13) (N := some 27) (tf_ 14 4) rfl rfl (by kernel_rfl) (by decide) (fun K hK => ?_)
 refine Kd.R_lit_step k46 _ 46 ?hg (N := 27) ?hd (xs := ([⟨5, x1, 4, 0, wrap64 (ba + 4)⟩] : List S46)) (inner := [.int .i64 5, .int .i64 x1, .int .i64 4, .int .i64 0, .int .i64 (wrap64 (ba + 4))]) (ok := fun _ => True) (okp := fun _ => True) ?hr ?hp (fun _ hk => hk) trivial (Below.refl _ _) (Nat.le_refl _) (by simp) ?_
 (case hd => rfl)
 (case hg => rfl)
 (case hr => first | (go_simp; done) | (go_simp; rfl))
 (case hp => exact (Reps.c5 (show Kd.M k46 _ _ _ (⟨5, x1, 4, 0, wrap64 (ba + 4)⟩ : S46) [.int .i64 5, .int .i64 x1, .int .i64 4, .int .i64 0, .int .i64 (wrap64 (ba + 4))] from (k46_mkM _ _ _ (⟨5, x1, 4, 0, wrap64 (ba + 4)⟩ : S46))) (Reps.none _ _)))
 intro vl wl hl hb hg_ hnew
 replace HE := Aside0.mk (blk_below HE.out hb)
 replace HR := Aside0.mk (Kd.R_below HR.out hb)
 have HX := Aside0.mk hl
 replace HB := Aside0.mk (below_step HB.out hb)
 replace FR := Aside0.mk (FR.out.trans (Fr.below hb))
 replace BX := Aside0.mk (blk_below BX.out hb)
 clear hb hg_ hnew hl
 obtain ⟨Al, cL, el⟩ := Kd.R_slice HX.out
 subst el
 refine hK.out _ _ ⟨(em_cells HE).1, (em_cells HE).2.1, (em_cells HE).2.2.1, (em_cells HE).2.2.2, em_box BX⟩ (fun hHeld => ?_)
 clear hK K
 refine normS_ (N := some 27) (h := ?_)
 refine one_ (i := 14) (N := some 28) (tf_ 15 3) rfl rfl (by kernel_rfl) (by decide) (fun K hK => ?_)
 refine Kd.R_append_rows_step k46 (w0 := w0) w0.heap.size (by rfl) (.tmp 18) (.tmp 27) 40 46 (.agg #[(.int .i64 0), (.int .i64 0), (.int .i64 0), (.int .i64 0), (.int .i64 0)]) 40 rfl Try.underlying40 info46 rfl (by decide) (by omega) (.slice A ys.length c) ys [⟨5, x1, 4, 0, wrap64 (ba + 4)⟩] _ _ _ (fun k => k ≠ g) (fun _ => False) rfl rfl ?aO ?aR (fun _ _ h => h) (fun _ h => h.elim) ?aF ?aB ?aS ?aL ?_
 (case aO => exact HR.out)
 (case aR => exact (Kd.R_reads' HX.out).2.2)
 (case aF => exact Kd.freshB HE.out)
 (case aB => exact HB.out)
 (case aS => exact HB.out.size)
 (case aL => have := HL.out; simp only [List.length_singleton]; omega)
 intro va wa ho hb hg hat
 replace BX := Aside0.mk (blk_grown BX.out hg (Kd.R_ne HR.out BX.out (by decide)))
 replace FR := Aside0.mk (FR.out.trans (Fr.grown HR.out hg.size hg))
 replace HE := Aside0.mk (blk_grown HE.out hg (Kd.R_away HR.out (fun _ hk => hk)))
 replace HR := Aside0.mk ho
 replace HB := Aside0.mk hb
 clear ho hb hg hat
 obtain ⟨Aa, ca, ea⟩ := Kd.R_slice HR.out
 subst ea
 refine hK.out _ _ ⟨(em_cells HE).1, (em_cells HE).2.1, (em_cells HE).2.2.1, (em_cells HE).2.2.2, em_box BX⟩ (fun hHeld => ?_)
 clear hK K
 refine normS_ (N := some 28) (h := ?_)
 refine pureP_ (i := 15) (N := some 29) (tf_ 16 2) (by kernel_rfl) (h := ?_)
 refine pureP_ (i := 16) (N := some 30) (tf_ 17 1) (by kernel_rfl) (h := ?_)
 refine last_ (i := 17) (N := none) (tf_ 18 0) rfl rfl (by kernel_rfl) (by decide) (fun K hK => ?_)
 obtain ⟨hc0, hc1, hc2, hc3⟩ := em_cells HE
 have hf0 := blk_frozen HE.out 0
 refine skip_ (w1 := ?_) (by rfl) rfl ?_ ?_
 rotate_left
 ·go_simp
  rfl
 refine hK.out _ _ ?_
 clear hK K hc0 hc1 hc2 hc3 hf0
 refine done_ (by kernel_rfl) ?_
 have EM := Aside0.mk (Em.cast (Em.fin HE.out HR.out HB.out HG.out) (app_cast HY.out _))
 replace FR := Aside0.mk (FR.out.trans (Fr.set g _ (.slice Aa (ys.length + 1) ca)))
 replace BX := Aside0.mk ((Below.heap_setCell _ ⟨g, 0, none⟩ (.slice Aa (ys.length + 1) ca) _ HN.out).trans BX.out)
 clear HE HR HB HG HX HL
 have HL := HL0
 clear HL0 hHeld
 obtain ⟨e1, e2, e3⟩ := Em.cells EM.out
 obtain ⟨b0, b1, b2, b3, b4⟩ := em_box BX
 go_wp2_with (first | (go_at_call 166; (with_reducible refine (em_set w0 _ g _ fr ba ro _ _ ?hl EM.out).mono ?_); (case hl => (try simp only [List.length_append, List.length_cons, List.length_nil, emLet_len, emOpen_len]); have := HL.out; omega); rintro e w' ⟨rfl, hE, hF⟩; replace FR := Aside0.mk (FR.out.trans hF); replace BX := Aside0.mk (hF.2 _ _ _ BX.out (by decide) HN.out); (try clear b0 b1 b2 b3 b4); obtain ⟨b0, b1, b2, b3, b4⟩ := em_box BX; (try clear e1 e2 e3); replace EM := Aside0.mk hE; clear hE hF; obtain ⟨e1, e2, e3⟩ := Em.cells EM.out) | (go_at_call 171; (with_reducible refine (em_three w0 _ g _ fr ba ro _ _ _ _ ?hl EM.out).mono ?_); (case hl => (try simp only [List.length_append, List.length_cons, List.length_nil, emLet_len, emOpen_len]); have := HL.out; omega); rintro e w' ⟨rfl, hE, hF⟩; replace FR := Aside0.mk (FR.out.trans hF); replace BX := Aside0.mk (hF.2 _ _ _ BX.out (by decide) HN.out); (try clear b0 b1 b2 b3 b4); obtain ⟨b0, b1, b2, b3, b4⟩ := em_box BX; (try clear e1 e2 e3); replace EM := Aside0.mk hE; clear hE hF; obtain ⟨e1, e2, e3⟩ := Em.cells EM.out) | (go_at_call 167; (with_reducible refine (em_zero w0 _ g _ fr ba ro _ _ ?hl EM.out).mono ?_); (case hl => (try simp only [List.length_append, List.length_cons, List.length_nil, emLet_len, emOpen_len]); have := HL.out; omega); rintro e w' ⟨rfl, hE, hF⟩; replace FR := Aside0.mk (FR.out.trans hF); replace BX := Aside0.mk (hF.2 _ _ _ BX.out (by decide) HN.out); (try clear b0 b1 b2 b3 b4); obtain ⟨b0, b1, b2, b3, b4⟩ := em_box BX; (try clear e1 e2 e3); replace EM := Aside0.mk hE; clear hE hF; obtain ⟨e1, e2, e3⟩ := Em.cells EM.out) | (go_at_call 168; (with_reducible refine (em_jump w0 _ g _ fr ba ro _ ?hl EM.out).mono ?_); (case hl => (try simp only [List.length_append, List.length_cons, List.length_nil, emLet_len, emOpen_len]); have := HL.out; omega); rintro e w' ⟨rfl, hE, hF⟩; replace FR := Aside0.mk (FR.out.trans hF); replace BX := Aside0.mk (hF.2 _ _ _ BX.out (by decide) HN.out); (try clear b0 b1 b2 b3 b4); obtain ⟨b0, b1, b2, b3, b4⟩ := em_box BX; (try clear e1 e2 e3); replace EM := Aside0.mk hE; clear hE hF; obtain ⟨e1, e2, e3⟩ := Em.cells EM.out) | (go_at_call 172; (with_reducible refine (em_store w0 _ g _ fr ba ro _ _ ?hl EM.out).mono ?_); (case hl => (try simp only [List.length_append, List.length_cons, List.length_nil, emLet_len, emOpen_len]); have := HL.out; omega); rintro e w' ⟨rfl, hE, hF⟩; replace FR := Aside0.mk (FR.out.trans hF); replace BX := Aside0.mk (hF.2 _ _ _ BX.out (by decide) HN.out); (try clear b0 b1 b2 b3 b4); obtain ⟨b0, b1, b2, b3, b4⟩ := em_box BX; (try clear e1 e2 e3); replace EM := Aside0.mk hE; clear hE hF; obtain ⟨e1, e2, e3⟩ := Em.cells EM.out) | (go_at_call 173; (with_reducible refine (em_letGo w0 _ g _ fr ba ro ?hl EM.out).mono ?_); (case hl => (try simp only [List.length_append, List.length_cons, List.length_nil, emLet_len, emOpen_len]); have := HL.out; omega); rintro e w' ⟨rfl, hE, hF⟩; replace FR := Aside0.mk (FR.out.trans hF); replace BX := Aside0.mk (hF.2 _ _ _ BX.out (by decide) HN.out); (try clear b0 b1 b2 b3 b4); obtain ⟨b0, b1, b2, b3, b4⟩ := em_box BX; (try clear e1 e2 e3); replace EM := Aside0.mk hE; clear hE hF; obtain ⟨e1, e2, e3⟩ := Em.cells EM.out) | (go_at_call 170; (with_reducible refine (em_load w0 _ g _ fr ba ro _ _ ?hl EM.out).mono ?_); (case hl => (try simp only [List.length_append, List.length_cons, List.length_nil, emLet_len, emOpen_len]); have := HL.out; omega); rintro e w' ⟨rfl, hE, hF⟩; replace FR := Aside0.mk (FR.out.trans hF); replace BX := Aside0.mk (hF.2 _ _ _ BX.out (by decide) HN.out); (try clear b0 b1 b2 b3 b4); obtain ⟨b0, b1, b2, b3, b4⟩ := em_box BX; (try clear e1 e2 e3); replace EM := Aside0.mk hE; clear hE hF; obtain ⟨e1, e2, e3⟩ := Em.cells EM.out) | (go_at_call 26; (with_reducible refine (impl_EmitSize.calls _ _ _ _ _ _ _ SIZ.out).mono ?_); rintro e w' ⟨rfl, hb⟩; replace EM := Aside0.mk (EM.out.below hb); replace FR := Aside0.mk (FR.out.trans (Fr.below hb)); replace BX := Aside0.mk (blk_below BX.out hb); (try clear b0 b1 b2 b3 b4); obtain ⟨b0, b1, b2, b3, b4⟩ := em_box BX; (try clear e1 e2 e3); obtain ⟨e1, e2, e3⟩ := Em.cells EM.out; clear hb))
 (try clear e1 e2 e3)
 (try clear b0 b1 b2 b3 b4)
 refine swap3_ (EM.out.below (below_drew1 (Below.refl _ _))) (FR.out.trans (Fr.below (below_drew1 (Below.refl _ _)))) (blk_below BX.out (below_drew1 (Below.refl _ _))) ?_
 clear EM FR BX
 intro EM FR BX
 refine start_ (n := 7) (S := fun w' => w'.cell? ⟨bx, 0, none⟩ = some (.int .i64 8) ∧ w'.cell? ⟨bx, 1, none⟩ = some (.int .i64 x1) ∧ w'.cell? ⟨bx, 2, none⟩ = some (.int .i64 x2) ∧ w'.cell? ⟨bx, 3, none⟩ = some (.int .i64 x3) ∧ w'.cell? ⟨bx, 4, none⟩ = some (.int .i64 x4)) (ds := []) (tf_ 0 7) (by kernel_rfl) rfl rfl (em_box BX) (fun hHeld => ?_)
 generalize World.drew _ = w1 at EM FR BX hHeld ⊢
 refine pureP_ (i := 0) (N := some 75) (tf_ 1 6) (by kernel_rfl) (h := ?_)
 refine pureP_ (i := 1) (N := some 76) (tf_ 2 5) (by kernel_rfl) (h := ?_)
 refine takeP_ (i := 2) (N := some 77) (tf_ 3 4) (by kernel_rfl) hHeld (hy := Or.inl ⟨by rfl, by rintro w' ⟨s0, s1, s2, s3, s4⟩; go_simp; with_reducible rfl⟩) (h := ?_)
 refine pureP_ (i := 3) (N := some 78) (tf_ 4 3) (by kernel_rfl) (h := ?_)
 refine one_ (i := 4) (N := some 79) (tf_ 5 2) rfl rfl (by kernel_rfl) (by decide) (fun K hK => ?_)
 refine goes_ Try.func116 (by kernel_rfl) rfl #[.bool true] (by rfl) rfl rfl atgM_ ?_
 with_reducible refine (impl_number.calls _ _ _ NUM.out).mono ?_
 rintro e w' ⟨rfl, hd⟩
 refine ⟨_, rfl, ?_⟩
 have hb := em_drawn hd
 clear hd
 replace EM := Aside0.mk (EM.out.below hb)
 replace FR := Aside0.mk (FR.out.trans (Fr.below hb))
 replace BX := Aside0.mk (blk_below BX.out hb)
 clear hb
 refine hK.out _ _ (em_box BX) (fun hHeld => ?_)
 clear hK K
 refine normS_ (N := some 79) (h := ?_)
 refine pureP_ (i := 5) (N := some 80) (tf_ 6 1) (by kernel_rfl) (h := ?_)
 refine one_ (i := 6) (N := some 81) (tf_ 7 0) rfl rfl (by kernel_rfl) (by decide) (fun K hK => ?_)
 refine goes_ Try.func166 (by kernel_rfl) rfl #[.pointer (some ⟨g, 0, none⟩), .int .i64 x3, .int .i64 (wrap64 (2 * 1))] (by rfl) rfl rfl atgM_ ?_
 with_reducible refine (em_set w0 _ g _ fr ba ro _ _ ?hl EM.out).mono ?_
 (case hl => (try simp only [List.length_append, List.length_cons, List.length_nil, emLet_len, emOpen_len]); have := HL.out; omega)
 rintro e w' ⟨rfl, hE, hF⟩
 refine ⟨_, rfl, ?_⟩
 replace FR := Aside0.mk (FR.out.trans hF)
 replace BX := Aside0.mk (hF.2 _ _ _ BX.out (by decide) HN.out)
 replace EM := Aside0.mk hE
 clear hE hF
 refine hK.out _ _ (em_box BX) (fun hHeld => ?_)
 clear hK K
 refine normS_ (N := some 81) (h := ?_)
 refine done_ (by kernel_rfl) ?_
 clear hHeld
 obtain ⟨e1, e2, e3⟩ := Em.cells EM.out
 obtain ⟨b0, b1, b2, b3, b4⟩ := em_box BX
 go_wp2_with (first | (go_at_call 166; (with_reducible refine (em_set w0 _ g _ fr ba ro _ _ ?hl EM.out).mono ?_); (case hl => (try simp only [List.length_append, List.length_cons, List.length_nil, emLet_len, emOpen_len]); have := HL.out; omega); rintro e w' ⟨rfl, hE, hF⟩; replace FR := Aside0.mk (FR.out.trans hF); replace BX := Aside0.mk (hF.2 _ _ _ BX.out (by decide) HN.out); (try clear b0 b1 b2 b3 b4); obtain ⟨b0, b1, b2, b3, b4⟩ := em_box BX; (try clear e1 e2 e3); replace EM := Aside0.mk hE; clear hE hF; obtain ⟨e1, e2, e3⟩ := Em.cells EM.out) | (go_at_call 168; (with_reducible refine (em_jump w0 _ g _ fr ba ro _ ?hl EM.out).mono ?_); (case hl => (try simp only [List.length_append, List.length_cons, List.length_nil, emLet_len, emOpen_len]); have := HL.out; omega); rintro e w' ⟨rfl, hE, hF⟩; replace FR := Aside0.mk (FR.out.trans hF); replace BX := Aside0.mk (hF.2 _ _ _ BX.out (by decide) HN.out); (try clear b0 b1 b2 b3 b4); obtain ⟨b0, b1, b2, b3, b4⟩ := em_box BX; (try clear e1 e2 e3); replace EM := Aside0.mk hE; clear hE hF; obtain ⟨e1, e2, e3⟩ := Em.cells EM.out) | (go_at_call 26; (with_reducible refine (impl_EmitSize.calls _ _ _ _ _ _ _ SIZ.out).mono ?_); rintro e w' ⟨rfl, hb⟩; replace EM := Aside0.mk (EM.out.below hb); replace FR := Aside0.mk (FR.out.trans (Fr.below hb)); replace BX := Aside0.mk (blk_below BX.out hb); (try clear b0 b1 b2 b3 b4); obtain ⟨b0, b1, b2, b3, b4⟩ := em_box BX; (try clear e1 e2 e3); obtain ⟨e1, e2, e3⟩ := Em.cells EM.out; clear hb))
 go_end0
 refine ⟨rfl, ?_, FR.out⟩
 have h_ := EM.out
 simp only [List.append_assoc, List.cons_append, List.nil_append, show wrap64 (26 + 1) = 27 from by unfold wrap64; omega, show wrap64 (26 + 0) = 26 from by unfold wrap64; omega, show wrap64 (2 * 1) = 2 from by unfold wrap64; omega, show wrap64 (2 * 0) = 0 from by unfold wrap64; omega] at h_ ⊢
 exact h_
def em_takeFL (x1 x3 fr ba ro : Int) : List S46 := [⟨5, 5, -1, 0, wrap64 (ba + 2)⟩, ⟨11, 0, 5, 0, wrap64 (fr + 22)⟩, ⟨5, 4, -1, 0, wrap64 (ba + 1)⟩, ⟨5, x1, 4, 0, wrap64 (ba + 4)⟩, ⟨1, 7, 0, 0, 1⟩, ⟨2, 4, 4, 7, 0⟩, ⟨3, 5, 5, 7, 0⟩, ⟨1, 7, 0, 0, ro⟩, ⟨4, 6, 4, 7, 0⟩, ⟨11, 0, 6, 0, wrap64 (fr + 15)⟩, ⟨10, 0, 0, 0, wrap64 (fr + 16)⟩, ⟨1, 4, 0, 0, 0⟩, ⟨6, 0, -1, 4, wrap64 (ba + 1)⟩, ⟨6, 0, -1, 5, wrap64 (ba + 2)⟩] ++ emLet ba ++ [⟨1, x3, 0, 0, 1⟩, ⟨10, 0, 0, 0, wrap64 (fr + 30)⟩, ⟨5, 4, -1, 0, wrap64 (ba + 3)⟩] ++ emLet ba ++ [⟨11, 0, 4, 0, wrap64 (fr + 29)⟩, ⟨1, x1, 0, 0, 0⟩, ⟨1, x3, 0, 0, 0⟩, ⟨10, 0, 0, 0, wrap64 (fr + 30)⟩] ++ [⟨10, 0, 0, 0, wrap64 (fr + 0)⟩]
set_option maxHeartbeats 16000000 in
set_option maxRecDepth 100000 in
theorem em_takeF (w0 w : World) (g : Nat) (xs : List S46) (fr ba ro x1 x2 x3 x4 : Int) (hl : xs.length ≤ 900) (h : Em w0 w g xs fr ba ro) :
  Calls Try.prog 104 #[.pointer (some ⟨g, 0, none⟩), .agg #[.int .i64 6, .int .i64 x1, .int .i64 x2, .int .i64 x3, .int .i64 x4]] w fun e w' => e = .returned (.tuple #[]) ∧ Em w0 w' g (xs ++ em_takeFL x1 x3 fr ba ro) fr ba ro ∧ Fr g w w' := by
 have hu126 := Try.underlying126
 have hu46 := Try.underlying46
 have HL := Aside0.mk hl
 have EM := Aside0.mk h
 clear hl h
 have FR := Aside0.mk (Fr.below (g := g) (Below.refl w.heap.size w))
 obtain ⟨e1, e2, e3⟩ := Em.cells EM.out
 have hu37 := Try.underlying37
 have NUM := Aside0.mk (show impl_number.f false = some 0 from rfl)
 have SIZ := Aside0.mk (show impl_EmitSize.f 6 x1 x2 x3 x4 = some 30 from by simp [impl_EmitSize.f])
 unfold em_takeFL
 go_enter Try.func104, Try.ntmps104
 go_wp2_with (first | (go_at_call 170; (with_reducible refine (em_load w0 _ g _ fr ba ro _ _ ?hl EM.out).mono ?_); (case hl => (try simp only [List.length_append, List.length_cons, List.length_nil, emLet_len, emOpen_len]); have := HL.out; omega); rintro e w' ⟨rfl, hE, hF⟩; replace FR := Aside0.mk (FR.out.trans hF); replace BX := Aside0.mk (hF.2 _ _ _ BX.out (by decide) HN.out); (try clear b0 b1 b2 b3 b4); obtain ⟨b0, b1, b2, b3, b4⟩ := em_box BX; (try clear e1 e2 e3); replace EM := Aside0.mk hE; clear hE hF; obtain ⟨e1, e2, e3⟩ := Em.cells EM.out) | (go_at_call 167; (with_reducible refine (em_zero w0 _ g _ fr ba ro _ _ ?hl EM.out).mono ?_); (case hl => (try simp only [List.length_append, List.length_cons, List.length_nil, emLet_len, emOpen_len]); have := HL.out; omega); rintro e w' ⟨rfl, hE, hF⟩; replace FR := Aside0.mk (FR.out.trans hF); replace BX := Aside0.mk (hF.2 _ _ _ BX.out (by decide) HN.out); (try clear b0 b1 b2 b3 b4); obtain ⟨b0, b1, b2, b3, b4⟩ := em_box BX; (try clear e1 e2 e3); replace EM := Aside0.mk hE; clear hE hF; obtain ⟨e1, e2, e3⟩ := Em.cells EM.out) | ((with_reducible refine gate_dst (N := 3) rfl ?_); refine box_event ?hg (N := 3) ?hd (cs := #[.int .i64 6, .int .i64 x1, .int .i64 x2, .int .i64 x3, .int .i64 x4]) (t := 37) ?hr ?_; (case hd => rfl); (case hg => rfl); (case hr => first | (go_simp; done) | (go_simp; rfl)); intro bx hg w3 hbox hb; have HN := Aside0.mk (show bx ≠ g from by obtain ⟨_, h1, _⟩ := EM.out; have h2 := blk_lt h1; omega); have BX := Aside0.mk hbox; replace EM := Aside0.mk (EM.out.below hb); replace FR := Aside0.mk (FR.out.trans (Fr.below hb)); clear hb hbox hg; obtain ⟨b0, b1, b2, b3, b4⟩ := em_box BX; (try clear e1 e2 e3); obtain ⟨e1, e2, e3⟩ := Em.cells EM.out))
 (try clear e1 e2 e3)
 (try clear b0 b1 b2 b3 b4)
 obtain ⟨ys, hys⟩ : ∃ ys, Aside0 (Em w0 _ g ys fr ba ro) ∧ Aside0 (ys = _) := ⟨_, EM, ⟨rfl⟩⟩
 obtain ⟨EM2, HY⟩ := hys
 have HL2 := Aside0.mk (show ys.length ≤ 1000 from by rw [HY.out]; (try simp only [List.length_append, List.length_cons, List.length_nil, emLet_len, emOpen_len]); have := HL.out; omega)
 clear EM
 have EM := EM2
 have HL0 := HL
 clear EM2 HL
 have HL := HL2
 clear HL2
 obtain ⟨v, hb, hr, hB, hg⟩ := EM.out
 obtain ⟨A, c, rfl⟩ := Kd.R_slice hr
 have HE := Aside0.mk hb
 have HR := Aside0.mk hr
 have HB := Aside0.mk hB
 have HG := Aside0.mk hg
 clear hb hr hB hg EM
 have hE1 := Aside0.mk (blk_below HE.out (below_drew1 (Below.refl _ _)))
 have n0_ := Aside0.mk (Kd.R_drew HR.out)
 have n1_ := Aside0.mk (below_drew1 HB.out)
 have n2_ := Aside0.mk (FR.out.trans (Fr.below (below_drew1 (Below.refl _ _))))
 have n3_ := Aside0.mk (blk_below BX.out (below_drew1 (Below.refl _ _)))
 clear HE HR HB FR BX
 have HE := hE1
 have HR := n0_
 have HB := n1_
 have FR := n2_
 have BX := n3_
 clear n3_
 clear hE1 n0_ n1_ n2_
 refine start_ (n := 18) (S := fun w' => w'.cell? ⟨g, 0, none⟩ = some (.slice A ys.length c) ∧ w'.cell? ⟨g, 1, none⟩ = some (.int .i64 fr) ∧ w'.cell? ⟨g, 2, none⟩ = some (.int .i64 ba) ∧ w'.cell? ⟨g, 3, none⟩ = some (.int .i64 ro) ∧ w'.cell? ⟨bx, 0, none⟩ = some (.int .i64 6) ∧ w'.cell? ⟨bx, 1, none⟩ = some (.int .i64 x1) ∧ w'.cell? ⟨bx, 2, none⟩ = some (.int .i64 x2) ∧ w'.cell? ⟨bx, 3, none⟩ = some (.int .i64 x3) ∧ w'.cell? ⟨bx, 4, none⟩ = some (.int .i64 x4)) (ds := [17]) (tf_ 0 18) (by kernel_rfl) rfl rfl ⟨(em_cells HE).1, (em_cells HE).2.1, (em_cells HE).2.2.1, (em_cells HE).2.2.2, em_box BX⟩ (fun hHeld => ?_)
 generalize World.drew _ = w1 at HE HR HB FR BX hHeld ⊢
 refine pureP_ (i := 0) (N := some 14) (tf_ 1 17) (by kernel_rfl) (h := ?_)
 refine pureP_ (i := 1) (N := some 15) (tf_ 2 16) (by kernel_rfl) (h := ?_)
 refine pureP_ (i := 2) (N := some 16) (tf_ 3 15) (by kernel_rfl) (h := ?_)
 refine pureP_ (i := 3) (N := some 17) (tf_ 4 14) (by kernel_rfl) (h := ?_)
 refine takeP_ (i := 4) (N := some 18) (tf_ 5 13) (by kernel_rfl) hHeld (hy := Or.inl ⟨by rfl, att9_0_0⟩) (h := ?_)
 refine pureP_ (i := 5) (N := some 19) (tf_ 6 12) (by kernel_rfl) (h := ?_)
 refine takeP_ (i := 6) (N := some 20) (tf_ 7 11) (by kernel_rfl) hHeld (hy := Or.inl ⟨by rfl, att9_0_0⟩) (h := ?_)
 refine pureP_ (i := 7) (N := some 21) (tf_ 8 10) (by kernel_rfl) (h := ?_)
 refine pureP_ (i := 8) (N := some 22) (tf_ 9 9) (by kernel_rfl) (h := ?_)
 refine pureP_ (i := 9) (N := some 23) (tf_ 10 8) (by kernel_rfl) (h := ?_)
 refine takeP_ (i := 10) (N := some 24) (tf_ 11 7) (by kernel_rfl) hHeld (hy := Or.inl ⟨by rfl, att9_0_0⟩) (h := ?_)
 refine pureP_ (i := 11) (N := some 25) (tf_ 12 6) (by kernel_rfl) (h := ?_)
 refine pureP_ (i := 12) (N := some 26) (tf_ 13 5) (by kernel_rfl) (h := ?_)
 refine one_ (i := 13) (N := some 27) (tf_ 14 4) rfl rfl (by kernel_rfl) (by decide) (fun K hK => ?_)
 refine Kd.R_lit_step k46 _ 46 ?hg (N := 27) ?hd (xs := ([⟨5, x1, 4, 0, wrap64 (ba + 4)⟩] : List S46)) (inner := [.int .i64 5, .int .i64 x1, .int .i64 4, .int .i64 0, .int .i64 (wrap64 (ba + 4))]) (ok := fun _ => True) (okp := fun _ => True) ?hr ?hp (fun _ hk => hk) trivial (Below.refl _ _) (Nat.le_refl _) (by simp) ?_
 (case hd => rfl)
 (case hg => rfl)
 (case hr => first | (go_simp; done) | (go_simp; rfl))
 (case hp => exact (Reps.c5 (show Kd.M k46 _ _ _ (⟨5, x1, 4, 0, wrap64 (ba + 4)⟩ : S46) [.int .i64 5, .int .i64 x1, .int .i64 4, .int .i64 0, .int .i64 (wrap64 (ba + 4))] from (k46_mkM _ _ _ (⟨5, x1, 4, 0, wrap64 (ba + 4)⟩ : S46))) (Reps.none _ _)))
 intro vl wl hl hb hg_ hnew
 replace HE := Aside0.mk (blk_below HE.out hb)
 replace HR := Aside0.mk (Kd.R_below HR.out hb)
 have HX := Aside0.mk hl
 replace HB := Aside0.mk (below_step HB.out hb)
 replace FR := Aside0.mk (FR.out.trans (Fr.below hb))
 replace BX := Aside0.mk (blk_below BX.out hb)
 clear hb hg_ hnew hl
 obtain ⟨Al, cL, el⟩ := Kd.R_slice HX.out
 subst el
 refine hK.out _ _ ⟨(em_cells HE).1, (em_cells HE).2.1, (em_cells HE).2.2.1, (em_cells HE).2.2.2, em_box BX⟩ (fun hHeld => ?_)
 clear hK K
 refine normS_ (N := some 27) (h := ?_)
 refine one_ (i := 14) (N := some 28) (tf_ 15 3) rfl rfl (by kernel_rfl) (by decide) (fun K hK => ?_)
 refine Kd.R_append_rows_step k46 (w0 := w0) w0.heap.size (by rfl) (.tmp 18) (.tmp 27) 40 46 (.agg #[(.int .i64 0), (.int .i64 0), (.int .i64 0), (.int .i64 0), (.int .i64 0)]) 40 rfl Try.underlying40 info46 rfl (by decide) (by omega) (.slice A ys.length c) ys [⟨5, x1, 4, 0, wrap64 (ba + 4)⟩] _ _ _ (fun k => k ≠ g) (fun _ => False) rfl rfl ?aO ?aR (fun _ _ h => h) (fun _ h => h.elim) ?aF ?aB ?aS ?aL ?_
 (case aO => exact HR.out)
 (case aR => exact (Kd.R_reads' HX.out).2.2)
 (case aF => exact Kd.freshB HE.out)
 (case aB => exact HB.out)
 (case aS => exact HB.out.size)
 (case aL => have := HL.out; simp only [List.length_singleton]; omega)
 intro va wa ho hb hg hat
 replace BX := Aside0.mk (blk_grown BX.out hg (Kd.R_ne HR.out BX.out (by decide)))
 replace FR := Aside0.mk (FR.out.trans (Fr.grown HR.out hg.size hg))
 replace HE := Aside0.mk (blk_grown HE.out hg (Kd.R_away HR.out (fun _ hk => hk)))
 replace HR := Aside0.mk ho
 replace HB := Aside0.mk hb
 clear ho hb hg hat
 obtain ⟨Aa, ca, ea⟩ := Kd.R_slice HR.out
 subst ea
 refine hK.out _ _ ⟨(em_cells HE).1, (em_cells HE).2.1, (em_cells HE).2.2.1, (em_cells HE).2.2.2, em_box BX⟩ (fun hHeld => ?_)
 clear hK K
 refine normS_ (N := some 28) (h := ?_)
 refine pureP_ (i := 15) (N := some 29) (tf_ 16 2) (by kernel_rfl) (h := ?_)
 refine pureP_ (i := 16) (N := some 30) (tf_ 17 1) (by kernel_rfl) (h := ?_)
 refine last_ (i := 17) (N := none) (tf_ 18 0) rfl rfl (by kernel_rfl) (by decide) (fun K hK => ?_)
 obtain ⟨hc0, hc1, hc2, hc3⟩ := em_cells HE
 have hf0 := blk_frozen HE.out 0
 refine skip_ (w1 := ?_) (by rfl) rfl ?_ ?_
 rotate_left
 ·go_simp
  rfl
 refine hK.out _ _ ?_
 clear hK K hc0 hc1 hc2 hc3 hf0
 refine done_ (by kernel_rfl) ?_
 have EM := Aside0.mk (Em.cast (Em.fin HE.out HR.out HB.out HG.out) (app_cast HY.out _))
 replace FR := Aside0.mk (FR.out.trans (Fr.set g _ (.slice Aa (ys.length + 1) ca)))
 replace BX := Aside0.mk ((Below.heap_setCell _ ⟨g, 0, none⟩ (.slice Aa (ys.length + 1) ca) _ HN.out).trans BX.out)
 clear HE HR HB HG HX HL
 have HL := HL0
 clear HL0 hHeld
 obtain ⟨e1, e2, e3⟩ := Em.cells EM.out
 obtain ⟨b0, b1, b2, b3, b4⟩ := em_box BX
 go_wp2_with (first | (go_at_call 166; (with_reducible refine (em_set w0 _ g _ fr ba ro _ _ ?hl EM.out).mono ?_); (case hl => (try simp only [List.length_append, List.length_cons, List.length_nil, emLet_len, emOpen_len]); have := HL.out; omega); rintro e w' ⟨rfl, hE, hF⟩; replace FR := Aside0.mk (FR.out.trans hF); replace BX := Aside0.mk (hF.2 _ _ _ BX.out (by decide) HN.out); (try clear b0 b1 b2 b3 b4); obtain ⟨b0, b1, b2, b3, b4⟩ := em_box BX; (try clear e1 e2 e3); replace EM := Aside0.mk hE; clear hE hF; obtain ⟨e1, e2, e3⟩ := Em.cells EM.out) | (go_at_call 171; (with_reducible refine (em_three w0 _ g _ fr ba ro _ _ _ _ ?hl EM.out).mono ?_); (case hl => (try simp only [List.length_append, List.length_cons, List.length_nil, emLet_len, emOpen_len]); have := HL.out; omega); rintro e w' ⟨rfl, hE, hF⟩; replace FR := Aside0.mk (FR.out.trans hF); replace BX := Aside0.mk (hF.2 _ _ _ BX.out (by decide) HN.out); (try clear b0 b1 b2 b3 b4); obtain ⟨b0, b1, b2, b3, b4⟩ := em_box BX; (try clear e1 e2 e3); replace EM := Aside0.mk hE; clear hE hF; obtain ⟨e1, e2, e3⟩ := Em.cells EM.out) | (go_at_call 167; (with_reducible refine (em_zero w0 _ g _ fr ba ro _ _ ?hl EM.out).mono ?_); (case hl => (try simp only [List.length_append, List.length_cons, List.length_nil, emLet_len, emOpen_len]); have := HL.out; omega); rintro e w' ⟨rfl, hE, hF⟩; replace FR := Aside0.mk (FR.out.trans hF); replace BX := Aside0.mk (hF.2 _ _ _ BX.out (by decide) HN.out); (try clear b0 b1 b2 b3 b4); obtain ⟨b0, b1, b2, b3, b4⟩ := em_box BX; (try clear e1 e2 e3); replace EM := Aside0.mk hE; clear hE hF; obtain ⟨e1, e2, e3⟩ := Em.cells EM.out) | (go_at_call 168; (with_reducible refine (em_jump w0 _ g _ fr ba ro _ ?hl EM.out).mono ?_); (case hl => (try simp only [List.length_append, List.length_cons, List.length_nil, emLet_len, emOpen_len]); have := HL.out; omega); rintro e w' ⟨rfl, hE, hF⟩; replace FR := Aside0.mk (FR.out.trans hF); replace BX := Aside0.mk (hF.2 _ _ _ BX.out (by decide) HN.out); (try clear b0 b1 b2 b3 b4); obtain ⟨b0, b1, b2, b3, b4⟩ := em_box BX; (try clear e1 e2 e3); replace EM := Aside0.mk hE; clear hE hF; obtain ⟨e1, e2, e3⟩ := Em.cells EM.out) | (go_at_call 172; (with_reducible refine (em_store w0 _ g _ fr ba ro _ _ ?hl EM.out).mono ?_); (case hl => (try simp only [List.length_append, List.length_cons, List.length_nil, emLet_len, emOpen_len]); have := HL.out; omega); rintro e w' ⟨rfl, hE, hF⟩; replace FR := Aside0.mk (FR.out.trans hF); replace BX := Aside0.mk (hF.2 _ _ _ BX.out (by decide) HN.out); (try clear b0 b1 b2 b3 b4); obtain ⟨b0, b1, b2, b3, b4⟩ := em_box BX; (try clear e1 e2 e3); replace EM := Aside0.mk hE; clear hE hF; obtain ⟨e1, e2, e3⟩ := Em.cells EM.out) | (go_at_call 173; (with_reducible refine (em_letGo w0 _ g _ fr ba ro ?hl EM.out).mono ?_); (case hl => (try simp only [List.length_append, List.length_cons, List.length_nil, emLet_len, emOpen_len]); have := HL.out; omega); rintro e w' ⟨rfl, hE, hF⟩; replace FR := Aside0.mk (FR.out.trans hF); replace BX := Aside0.mk (hF.2 _ _ _ BX.out (by decide) HN.out); (try clear b0 b1 b2 b3 b4); obtain ⟨b0, b1, b2, b3, b4⟩ := em_box BX; (try clear e1 e2 e3); replace EM := Aside0.mk hE; clear hE hF; obtain ⟨e1, e2, e3⟩ := Em.cells EM.out) | (go_at_call 170; (with_reducible refine (em_load w0 _ g _ fr ba ro _ _ ?hl EM.out).mono ?_); (case hl => (try simp only [List.length_append, List.length_cons, List.length_nil, emLet_len, emOpen_len]); have := HL.out; omega); rintro e w' ⟨rfl, hE, hF⟩; replace FR := Aside0.mk (FR.out.trans hF); replace BX := Aside0.mk (hF.2 _ _ _ BX.out (by decide) HN.out); (try clear b0 b1 b2 b3 b4); obtain ⟨b0, b1, b2, b3, b4⟩ := em_box BX; (try clear e1 e2 e3); replace EM := Aside0.mk hE; clear hE hF; obtain ⟨e1, e2, e3⟩ := Em.cells EM.out) | (go_at_call 26; (with_reducible refine (impl_EmitSize.calls _ _ _ _ _ _ _ SIZ.out).mono ?_); rintro e w' ⟨rfl, hb⟩; replace EM := Aside0.mk (EM.out.below hb); replace FR := Aside0.mk (FR.out.trans (Fr.below hb)); replace BX := Aside0.mk (blk_below BX.out hb); (try clear b0 b1 b2 b3 b4); obtain ⟨b0, b1, b2, b3, b4⟩ := em_box BX; (try clear e1 e2 e3); obtain ⟨e1, e2, e3⟩ := Em.cells EM.out; clear hb))
 (try clear e1 e2 e3)
 (try clear b0 b1 b2 b3 b4)
 refine swap3_ (EM.out.below (below_drew1 (Below.refl _ _))) (FR.out.trans (Fr.below (below_drew1 (Below.refl _ _)))) (blk_below BX.out (below_drew1 (Below.refl _ _))) ?_
 clear EM FR BX
 intro EM FR BX
 refine start_ (n := 7) (S := fun w' => w'.cell? ⟨bx, 0, none⟩ = some (.int .i64 6) ∧ w'.cell? ⟨bx, 1, none⟩ = some (.int .i64 x1) ∧ w'.cell? ⟨bx, 2, none⟩ = some (.int .i64 x2) ∧ w'.cell? ⟨bx, 3, none⟩ = some (.int .i64 x3) ∧ w'.cell? ⟨bx, 4, none⟩ = some (.int .i64 x4)) (ds := []) (tf_ 0 7) (by kernel_rfl) rfl rfl (em_box BX) (fun hHeld => ?_)
 generalize World.drew _ = w1 at EM FR BX hHeld ⊢
 refine pureP_ (i := 0) (N := some 75) (tf_ 1 6) (by kernel_rfl) (h := ?_)
 refine pureP_ (i := 1) (N := some 76) (tf_ 2 5) (by kernel_rfl) (h := ?_)
 refine takeP_ (i := 2) (N := some 77) (tf_ 3 4) (by kernel_rfl) hHeld (hy := Or.inl ⟨by rfl, by rintro w' ⟨s0, s1, s2, s3, s4⟩; go_simp; with_reducible rfl⟩) (h := ?_)
 refine pureP_ (i := 3) (N := some 78) (tf_ 4 3) (by kernel_rfl) (h := ?_)
 refine one_ (i := 4) (N := some 79) (tf_ 5 2) rfl rfl (by kernel_rfl) (by decide) (fun K hK => ?_)
 refine goes_ Try.func116 (by kernel_rfl) rfl #[.bool false] (by rfl) rfl rfl atgM_ ?_
 with_reducible refine (impl_number.calls _ _ _ NUM.out).mono ?_
 rintro e w' ⟨rfl, hd⟩
 refine ⟨_, rfl, ?_⟩
 have hb := em_drawn hd
 clear hd
 replace EM := Aside0.mk (EM.out.below hb)
 replace FR := Aside0.mk (FR.out.trans (Fr.below hb))
 replace BX := Aside0.mk (blk_below BX.out hb)
 clear hb
 refine hK.out _ _ (em_box BX) (fun hHeld => ?_)
 clear hK K
 refine normS_ (N := some 79) (h := ?_)
 refine pureP_ (i := 5) (N := some 80) (tf_ 6 1) (by kernel_rfl) (h := ?_)
 refine one_ (i := 6) (N := some 81) (tf_ 7 0) rfl rfl (by kernel_rfl) (by decide) (fun K hK => ?_)
 refine goes_ Try.func166 (by kernel_rfl) rfl #[.pointer (some ⟨g, 0, none⟩), .int .i64 x3, .int .i64 (wrap64 (2 * 0))] (by rfl) rfl rfl atgM_ ?_
 with_reducible refine (em_set w0 _ g _ fr ba ro _ _ ?hl EM.out).mono ?_
 (case hl => (try simp only [List.length_append, List.length_cons, List.length_nil, emLet_len, emOpen_len]); have := HL.out; omega)
 rintro e w' ⟨rfl, hE, hF⟩
 refine ⟨_, rfl, ?_⟩
 replace FR := Aside0.mk (FR.out.trans hF)
 replace BX := Aside0.mk (hF.2 _ _ _ BX.out (by decide) HN.out)
 replace EM := Aside0.mk hE
 clear hE hF
 refine hK.out _ _ (em_box BX) (fun hHeld => ?_)
 clear hK K
 refine normS_ (N := some 81) (h := ?_)
 refine done_ (by kernel_rfl) ?_
 clear hHeld
 obtain ⟨e1, e2, e3⟩ := Em.cells EM.out
 obtain ⟨b0, b1, b2, b3, b4⟩ := em_box BX
 go_wp2_with (first | (go_at_call 166; (with_reducible refine (em_set w0 _ g _ fr ba ro _ _ ?hl EM.out).mono ?_); (case hl => (try simp only [List.length_append, List.length_cons, List.length_nil, emLet_len, emOpen_len]); have := HL.out; omega); rintro e w' ⟨rfl, hE, hF⟩; replace FR := Aside0.mk (FR.out.trans hF); replace BX := Aside0.mk (hF.2 _ _ _ BX.out (by decide) HN.out); (try clear b0 b1 b2 b3 b4); obtain ⟨b0, b1, b2, b3, b4⟩ := em_box BX; (try clear e1 e2 e3); replace EM := Aside0.mk hE; clear hE hF; obtain ⟨e1, e2, e3⟩ := Em.cells EM.out) | (go_at_call 168; (with_reducible refine (em_jump w0 _ g _ fr ba ro _ ?hl EM.out).mono ?_); (case hl => (try simp only [List.length_append, List.length_cons, List.length_nil, emLet_len, emOpen_len]); have := HL.out; omega); rintro e w' ⟨rfl, hE, hF⟩; replace FR := Aside0.mk (FR.out.trans hF); replace BX := Aside0.mk (hF.2 _ _ _ BX.out (by decide) HN.out); (try clear b0 b1 b2 b3 b4); obtain ⟨b0, b1, b2, b3, b4⟩ := em_box BX; (try clear e1 e2 e3); replace EM := Aside0.mk hE; clear hE hF; obtain ⟨e1, e2, e3⟩ := Em.cells EM.out) | (go_at_call 26; (with_reducible refine (impl_EmitSize.calls _ _ _ _ _ _ _ SIZ.out).mono ?_); rintro e w' ⟨rfl, hb⟩; replace EM := Aside0.mk (EM.out.below hb); replace FR := Aside0.mk (FR.out.trans (Fr.below hb)); replace BX := Aside0.mk (blk_below BX.out hb); (try clear b0 b1 b2 b3 b4); obtain ⟨b0, b1, b2, b3, b4⟩ := em_box BX; (try clear e1 e2 e3); obtain ⟨e1, e2, e3⟩ := Em.cells EM.out; clear hb))
 go_end0
 refine ⟨rfl, ?_, FR.out⟩
 have h_ := EM.out
 simp only [List.append_assoc, List.cons_append, List.nil_append, show wrap64 (26 + 1) = 27 from by unfold wrap64; omega, show wrap64 (26 + 0) = 26 from by unfold wrap64; omega, show wrap64 (2 * 1) = 2 from by unfold wrap64; omega, show wrap64 (2 * 0) = 0 from by unfold wrap64; omega] at h_ ⊢
 exact h_
def emPart (x0 x1 x2 x3 fr ba ro : Int) : List S46 := if x0 = 5 then em_sendFL x1 x2 fr ba ro else (if x0 = 7 then em_sendTL x1 x2 fr ba ro else (if x0 = 6 then em_takeFL x1 x3 fr ba ro else (if x0 = 8 then em_takeTL x1 x3 fr ba ro else emClose fr ba)))
def impl_Emit.f (k : Nat) (l0 : List Int) (x0 x1 x2 x3 x4 fr : Int) (l3 : List Int) : Option (List S46) := (impl_InsOk.f k x0 x1 x2 x3 x4 (l3.length : Int) (l0.length : Int)).bind fun t => if t = true then (impl_ofChan.f x0).bind fun u => if u = true then (impl_Base.f k l0 x4).bind fun b => if b < 0 then some [] else if 0 ≤ x4 ∧ x4 < (l0.length : Int) then some (emLock fr b ++ emPart x0 x1 x2 x3 fr b (rd l0 x4)) else none else (impl_single.f x0 x1 x2 x3 x4 l3).bind fun s => some [(⟨s.1, s.2.1, s.2.2.1, s.2.2.2.1, s.2.2.2.2⟩ : S46)] else some []
theorem impl_Emit.mono : ∀ a0 x0 x1 x2 x3 x4 a2 a3 k, LeO (impl_Emit.f k a0 x0 x1 x2 x3 x4 a2 a3) (impl_Emit.f (k + 1) a0 x0 x1 x2 x3 x4 a2 a3) := fun a0 x0 x1 x2 x3 x4 a2 a3 k => by
 unfold impl_Emit.f
 repeat' (with_reducible first | exact impl_InsOk.mono .. | exact impl_Base.mono .. | exact LeO.refl _ | exact LeO.none _ | refine LeO.ite ?_ ?_ | refine LeO.bind ?_ (fun _ => ?_))
set_option maxHeartbeats 16000000 in
set_option maxRecDepth 100000 in
theorem em_bad (k : Nat) (A0 : Option Addr) (c0 : Nat) (l0 : List Int) (x0 x1 x2 x3 x4 fr : Int) (A3 : Option Addr) (c3 : Nat) (l3 : List Int) (w0 : World) (hr0 : Kd.C (Kd.int .i64) w0 A0 l0.length l0) (hr3 : Kd.C (Kd.int .i64) w0 A3 l3.length l3) (hc0 : l0.length ≤ c0) (hc3 : l3.length ≤ c3) (hi : impl_InsOk.f k x0 x1 x2 x3 x4 (l3.length : Int) (l0.length : Int) = some false) :
  Calls Try.prog 22 #[.slice A0 l0.length c0, .agg #[.int .i64 x0, .int .i64 x1, .int .i64 x2, .int .i64 x3, .int .i64 x4], .int .i64 fr, .slice A3 l3.length c3] w0 fun e w' => ∃ v0_ : Value, e = .returned (v0_) ∧ Kd.R k46 46 w' w0.heap.size (fun _ => True) v0_ [] ∧ Below w0.heap.size w0 w' := by
 have hu126 := Try.underlying126
 have hu46 := Try.underlying46
 have hu37 := Try.underlying37
 have HR0 := Aside0.mk hr0
 have HR3 := Aside0.mk hr3
 have HC0 := Aside0.mk hc0
 have HC3 := Aside0.mk hc3
 have HB := Aside0.mk (Below.refl w0.heap.size w0)
 clear hr0 hr3 hc0 hc3
 have HI := Aside0.mk hi
 clear hi
 go_enter Try.func22, Try.ntmps22
 go_wp2_with (first | ((with_reducible refine gate_dst (N := 5) rfl ?_); refine box_event ?hg (N := 5) ?hd (cs := #[.int .i64 x0, .int .i64 x1, .int .i64 x2, .int .i64 x3, .int .i64 x4]) (t := 37) ?hr ?_; (case hd => rfl); (case hg => rfl); (case hr => first | (go_simp; done) | (go_simp; rfl)); intro bx hg w1 hbox hb; replace HB := Aside0.mk (below_step HB.out hb); have BX := Aside0.mk hbox; clear hb hbox hg; obtain ⟨b0, b1, b2, b3, b4⟩ := em_box BX) | (go_at_call 98; (with_reducible refine (impl_InsOk.calls k _ _ _ _ _ _ _ _ _ HI.out).mono ?_); rintro e w' ⟨rfl, hb⟩; replace HB := Aside0.mk (below_step HB.out hb); replace BX := Aside0.mk (blk_below BX.out hb); clear hb; (try clear b0 b1 b2 b3 b4); obtain ⟨b0, b1, b2, b3, b4⟩ := em_box BX))
 go_ret
 exact ⟨_, rfl, Kd.R_nil _ _ _ _ _, HB.out⟩
set_option maxHeartbeats 16000000 in
set_option maxRecDepth 100000 in
theorem em_single (k : Nat) (A0 : Option Addr) (c0 : Nat) (l0 : List Int) (x0 x1 x2 x3 x4 fr : Int) (A3 : Option Addr) (c3 : Nat) (l3 : List Int) (w0 : World) (hr0 : Kd.C (Kd.int .i64) w0 A0 l0.length l0) (hr3 : Kd.C (Kd.int .i64) w0 A3 l3.length l3) (hc0 : l0.length ≤ c0) (hc3 : l3.length ≤ c3) (s1 s2 s3 s4 s5 : Int) (hi : impl_InsOk.f k x0 x1 x2 x3 x4 (l3.length : Int) (l0.length : Int) = some true) (ho : impl_ofChan.f x0 = some false) (hs : impl_single.f x0 x1 x2 x3 x4 l3 = some (s1, s2, s3, s4, s5)) :
  Calls Try.prog 22 #[.slice A0 l0.length c0, .agg #[.int .i64 x0, .int .i64 x1, .int .i64 x2, .int .i64 x3, .int .i64 x4], .int .i64 fr, .slice A3 l3.length c3] w0 fun e w' => ∃ v0_ : Value, e = .returned (v0_) ∧ Kd.R k46 46 w' w0.heap.size (fun _ => True) v0_ [⟨s1, s2, s3, s4, s5⟩] ∧ Below w0.heap.size w0 w' := by
 have hu126 := Try.underlying126
 have hu46 := Try.underlying46
 have hu37 := Try.underlying37
 have HR0 := Aside0.mk hr0
 have HR3 := Aside0.mk hr3
 have HC0 := Aside0.mk hc0
 have HC3 := Aside0.mk hc3
 have HB := Aside0.mk (Below.refl w0.heap.size w0)
 clear hr0 hr3 hc0 hc3
 have HI := Aside0.mk hi
 have HO := Aside0.mk ho
 have HS := Aside0.mk hs
 clear hi ho hs
 go_enter Try.func22, Try.ntmps22
 go_wp2_with (first | ((with_reducible refine gate_dst (N := 5) rfl ?_); refine box_event ?hg (N := 5) ?hd (cs := #[.int .i64 x0, .int .i64 x1, .int .i64 x2, .int .i64 x3, .int .i64 x4]) (t := 37) ?hr ?_; (case hd => rfl); (case hg => rfl); (case hr => first | (go_simp; done) | (go_simp; rfl)); intro bx hg w1 hbox hb; replace HB := Aside0.mk (below_step HB.out hb); have BX := Aside0.mk hbox; clear hb hbox hg; obtain ⟨b0, b1, b2, b3, b4⟩ := em_box BX) | (go_at_call 98; (with_reducible refine (impl_InsOk.calls k _ _ _ _ _ _ _ _ _ HI.out).mono ?_); rintro e w' ⟨rfl, hb⟩; replace HB := Aside0.mk (below_step HB.out hb); replace BX := Aside0.mk (blk_below BX.out hb); clear hb; (try clear b0 b1 b2 b3 b4); obtain ⟨b0, b1, b2, b3, b4⟩ := em_box BX) | (go_at_call 99; (with_reducible refine (impl_ofChan.calls _ _ _ HO.out).mono ?_); rintro e w' ⟨rfl, hd⟩; have hb := em_drawn hd; clear hd; replace HB := Aside0.mk (below_step HB.out hb); replace BX := Aside0.mk (blk_below BX.out hb); clear hb; (try clear b0 b1 b2 b3 b4); obtain ⟨b0, b1, b2, b3, b4⟩ := em_box BX) | (go_at_call 100; (with_reducible refine (impl_single.calls _ _ _ _ _ _ _ l3 _ _ _ _ _ _ (Kd.C_below HR3.out HB.out) HC3.out HS.out).mono ?_); rintro e w' ⟨rfl, hb⟩; replace HB := Aside0.mk (below_step HB.out hb); replace BX := Aside0.mk (blk_below BX.out hb); clear hb; (try clear b0 b1 b2 b3 b4); obtain ⟨b0, b1, b2, b3, b4⟩ := em_box BX) | ((with_reducible refine gate_dst (N := 25) rfl ?_); refine Kd.R_lit k46 _ 46 ?hg (N := 25) ?hd (xs := ([⟨s1, s2, s3, s4, s5⟩] : List S46)) (inner := [.int .i64 s1, .int .i64 s2, .int .i64 s3, .int .i64 s4, .int .i64 s5]) (ok := fun _ => True) (okp := fun _ => True) ?hr ?hp (fun _ hk => hk) trivial (Below.refl _ _) (Nat.le_refl _) (by simp) ?_; (case hd => rfl); (case hg => rfl); (case hr => first | (go_simp; done) | (go_simp; rfl)); (case hp => exact (Reps.c5 (show Kd.M k46 _ _ _ (⟨s1, s2, s3, s4, s5⟩ : S46) [.int .i64 s1, .int .i64 s2, .int .i64 s3, .int .i64 s4, .int .i64 s5] from (k46_mkM _ _ _ (⟨s1, s2, s3, s4, s5⟩ : S46))) (Reps.none _ _))); intro vl wl hl hb hg_ hnew; have HX := Aside0.mk (Kd.R_lower hl HB.out.size); replace HB := Aside0.mk (below_step HB.out hb); clear hl hb hg_ hnew b0 b1 b2 b3 b4))
 go_ret
 exact ⟨_, rfl, HX.out, HB.out⟩
set_option maxHeartbeats 16000000 in
set_option maxRecDepth 100000 in
theorem em_nobase (k : Nat) (A0 : Option Addr) (c0 : Nat) (l0 : List Int) (x0 x1 x2 x3 x4 fr : Int) (A3 : Option Addr) (c3 : Nat) (l3 : List Int) (w0 : World) (hr0 : Kd.C (Kd.int .i64) w0 A0 l0.length l0) (hr3 : Kd.C (Kd.int .i64) w0 A3 l3.length l3) (hc0 : l0.length ≤ c0) (hc3 : l3.length ≤ c3) (ba : Int) (hi : impl_InsOk.f k x0 x1 x2 x3 x4 (l3.length : Int) (l0.length : Int) = some true) (ho : impl_ofChan.f x0 = some true) (hs : impl_Base.f k l0 x4 = some ba) (hn : ba < 0) :
  Calls Try.prog 22 #[.slice A0 l0.length c0, .agg #[.int .i64 x0, .int .i64 x1, .int .i64 x2, .int .i64 x3, .int .i64 x4], .int .i64 fr, .slice A3 l3.length c3] w0 fun e w' => ∃ v0_ : Value, e = .returned (v0_) ∧ Kd.R k46 46 w' w0.heap.size (fun _ => True) v0_ [] ∧ Below w0.heap.size w0 w' := by
 have hu126 := Try.underlying126
 have hu46 := Try.underlying46
 have hu37 := Try.underlying37
 have HR0 := Aside0.mk hr0
 have HR3 := Aside0.mk hr3
 have HC0 := Aside0.mk hc0
 have HC3 := Aside0.mk hc3
 have HB := Aside0.mk (Below.refl w0.heap.size w0)
 clear hr0 hr3 hc0 hc3
 have HI := Aside0.mk hi
 have HO := Aside0.mk ho
 have HS := Aside0.mk hs
 have c1 : decide (ba < 0) = true := decide_eq_true hn
 clear hi ho hs hn
 go_enter Try.func22, Try.ntmps22
 go_wp2_with (first | ((with_reducible refine gate_dst (N := 5) rfl ?_); refine box_event ?hg (N := 5) ?hd (cs := #[.int .i64 x0, .int .i64 x1, .int .i64 x2, .int .i64 x3, .int .i64 x4]) (t := 37) ?hr ?_; (case hd => rfl); (case hg => rfl); (case hr => first | (go_simp; done) | (go_simp; rfl)); intro bx hg w1 hbox hb; replace HB := Aside0.mk (below_step HB.out hb); have BX := Aside0.mk hbox; clear hb hbox hg; obtain ⟨b0, b1, b2, b3, b4⟩ := em_box BX) | (go_at_call 98; (with_reducible refine (impl_InsOk.calls k _ _ _ _ _ _ _ _ _ HI.out).mono ?_); rintro e w' ⟨rfl, hb⟩; replace HB := Aside0.mk (below_step HB.out hb); replace BX := Aside0.mk (blk_below BX.out hb); clear hb; (try clear b0 b1 b2 b3 b4); obtain ⟨b0, b1, b2, b3, b4⟩ := em_box BX) | (go_at_call 99; (with_reducible refine (impl_ofChan.calls _ _ _ HO.out).mono ?_); rintro e w' ⟨rfl, hd⟩; have hb := em_drawn hd; clear hd; replace HB := Aside0.mk (below_step HB.out hb); replace BX := Aside0.mk (blk_below BX.out hb); clear hb; (try clear b0 b1 b2 b3 b4); obtain ⟨b0, b1, b2, b3, b4⟩ := em_box BX) | (go_at_call 101; (with_reducible refine (impl_Base.calls k _ _ l0 _ _ _ (Kd.C_below HR0.out HB.out) HC0.out HS.out).mono ?_); rintro e w' ⟨rfl, hd⟩; have hb := em_drawn hd; clear hd; replace HB := Aside0.mk (below_step HB.out hb); replace BX := Aside0.mk (blk_below BX.out hb); clear hb; (try clear b0 b1 b2 b3 b4); obtain ⟨b0, b1, b2, b3, b4⟩ := em_box BX))
 go_ret
 exact ⟨_, rfl, Kd.R_nil _ _ _ _ _, HB.out⟩
set_option maxHeartbeats 16000000 in
set_option maxRecDepth 100000 in
theorem em_at_sendF (k : Nat) (A0 : Option Addr) (c0 : Nat) (l0 : List Int) (x1 x2 x3 x4 fr : Int) (A3 : Option Addr) (c3 : Nat) (l3 : List Int) (w0 : World) (hr0 : Kd.C (Kd.int .i64) w0 A0 l0.length l0) (hr3 : Kd.C (Kd.int .i64) w0 A3 l3.length l3) (hc0 : l0.length ≤ c0) (hc3 : l3.length ≤ c3) (ba : Int) (hi : impl_InsOk.f k 5 x1 x2 x3 x4 (l3.length : Int) (l0.length : Int) = some true) (ho : impl_ofChan.f 5 = some true) (hs : impl_Base.f k l0 x4 = some ba) (hn : ¬ ba < 0) (h0 : 0 ≤ x4) (h1 : x4 < (l0.length : Int)) :
  Calls Try.prog 22 #[.slice A0 l0.length c0, .agg #[.int .i64 5, .int .i64 x1, .int .i64 x2, .int .i64 x3, .int .i64 x4], .int .i64 fr, .slice A3 l3.length c3] w0 fun e w' => ∃ v0_ : Value, e = .returned (v0_) ∧ Kd.R k46 46 w' w0.heap.size (fun _ => True) v0_ (emLock fr ba ++ em_sendFL x1 x2 fr ba (rd l0 x4)) ∧ Below w0.heap.size w0 w' := by
 have hu126 := Try.underlying126
 have hu46 := Try.underlying46
 have hu37 := Try.underlying37
 have HR0 := Aside0.mk hr0
 have HR3 := Aside0.mk hr3
 have HC0 := Aside0.mk hc0
 have HC3 := Aside0.mk hc3
 have HB := Aside0.mk (Below.refl w0.heap.size w0)
 clear hr0 hr3 hc0 hc3
 have HI := Aside0.mk hi
 have HO := Aside0.mk ho
 have HS := Aside0.mk hs
 have c1 : decide (ba < 0) = false := decide_eq_false hn
 obtain ⟨ad, ead, hx0⟩ := Kd.at_int HR0.out x4 h0 h1
 subst ead
 have HX0 := Aside0.mk hx0
 have p0 : (0 ≤ x4) = True := eq_true h0
 have q0 : (x4 < (l0.length : Int)) = True := eq_true h1
 obtain ⟨ro, hro⟩ : ∃ ro, ro = rd l0 x4 := ⟨_, rfl⟩
 rw [← hro] at HX0
 (try rw [← hro])
 have HL := Aside0.mk (show ([] : List S46).length ≤ 900 from by simp)
 clear hi ho hs hn hx0 h0 h1 hro
 go_enter Try.func22, Try.ntmps22
 go_wp2_with (first | ((with_reducible refine gate_dst (N := 5) rfl ?_); refine box_event ?hg (N := 5) ?hd (cs := #[.int .i64 5, .int .i64 x1, .int .i64 x2, .int .i64 x3, .int .i64 x4]) (t := 37) ?hr ?_; (case hd => rfl); (case hg => rfl); (case hr => first | (go_simp; done) | (go_simp; rfl)); intro bx hg w1 hbox hb; replace HB := Aside0.mk (below_step HB.out hb); have BX := Aside0.mk hbox; clear hb hbox hg; obtain ⟨b0, b1, b2, b3, b4⟩ := em_box BX) | (go_at_call 98; (with_reducible refine (impl_InsOk.calls k _ _ _ _ _ _ _ _ _ HI.out).mono ?_); rintro e w' ⟨rfl, hb⟩; replace HB := Aside0.mk (below_step HB.out hb); replace BX := Aside0.mk (blk_below BX.out hb); clear hb; (try clear b0 b1 b2 b3 b4); obtain ⟨b0, b1, b2, b3, b4⟩ := em_box BX) | (go_at_call 99; (with_reducible refine (impl_ofChan.calls _ _ _ HO.out).mono ?_); rintro e w' ⟨rfl, hd⟩; have hb := em_drawn hd; clear hd; replace HB := Aside0.mk (below_step HB.out hb); replace BX := Aside0.mk (blk_below BX.out hb); clear hb; (try clear b0 b1 b2 b3 b4); obtain ⟨b0, b1, b2, b3, b4⟩ := em_box BX) | (go_at_call 101; (with_reducible refine (impl_Base.calls k _ _ l0 _ _ _ (Kd.C_below HR0.out HB.out) HC0.out HS.out).mono ?_); rintro e w' ⟨rfl, hd⟩; have hb := em_drawn hd; clear hd; replace HB := Aside0.mk (below_step HB.out hb); replace BX := Aside0.mk (blk_below BX.out hb); clear hb; (try clear b0 b1 b2 b3 b4); obtain ⟨b0, b1, b2, b3, b4⟩ := em_box BX; have hx := blc_ HB HX0.out) | ((with_reducible refine gate_dst (N := 40) rfl ?_); refine box_event ?hg (N := 40) ?hd (cs := #[.slice none 0 0, .int .i64 fr, .int .i64 ba, .int .i64 ro]) (t := 126) ?hr ?_; (case hd => rfl); (case hg => rfl); (case hr => first | (go_simp; done) | (go_simp; rfl)); intro g hg w2 hbox hb; have HN := Aside0.mk (show bx ≠ g from by have h2 := blk_lt BX.out; omega); have EM := Aside0.mk (show Em w0 w2 g [] fr ba ro from ⟨_, hbox, Kd.R_nil _ _ _ _ _, below_step HB.out hb, att9_0_2⟩); replace BX := Aside0.mk (blk_below BX.out hb); have FR := Aside0.mk (Fr.below (g := g) (Below.refl w2.heap.size w2)); clear hb hbox hg hx b0 b1 b2 b3 b4; obtain ⟨b0, b1, b2, b3, b4⟩ := em_box BX; obtain ⟨e1, e2, e3⟩ := Em.cells EM.out) | (go_at_call 102; (with_reducible refine (em_lock w0 _ g _ fr ba ro ?hl EM.out).mono ?_); (case hl => (try simp only [List.length_append, List.length_cons, List.length_nil, show (emLock fr ba).length = 4 from rfl]); have := HL.out; omega); rintro e w' ⟨rfl, hE, hF⟩; replace FR := Aside0.mk (FR.out.trans hF); replace BX := Aside0.mk (hF.2 _ _ _ BX.out (by decide) HN.out); (try clear b0 b1 b2 b3 b4); obtain ⟨b0, b1, b2, b3, b4⟩ := em_box BX; (try clear e1 e2 e3); replace EM := Aside0.mk hE; clear hE hF; obtain ⟨e1, e2, e3⟩ := Em.cells EM.out) | (go_at_call 103; (with_reducible refine (em_sendF w0 _ g _ fr ba ro _ _ _ _ ?hl EM.out).mono ?_); (case hl => (try simp only [List.length_append, List.length_cons, List.length_nil, show (emLock fr ba).length = 4 from rfl]); have := HL.out; omega); rintro e w' ⟨rfl, hE, hF⟩; replace FR := Aside0.mk (FR.out.trans hF); replace BX := Aside0.mk (hF.2 _ _ _ BX.out (by decide) HN.out); (try clear b0 b1 b2 b3 b4); obtain ⟨b0, b1, b2, b3, b4⟩ := em_box BX; (try clear e1 e2 e3); replace EM := Aside0.mk hE; clear hE hF; obtain ⟨e1, e2, e3⟩ := Em.cells EM.out; obtain ⟨vv, hv, hrr, hBB, hgg⟩ := EM.out; have f0 := (em_cells ⟨hv⟩).1; have HRR := Aside0.mk hrr; have HBB := Aside0.mk hBB; clear hv hrr hBB hgg))
 go_ret
 exact ⟨_, rfl, Kd.R_mono HRR.out (fun _ _ => trivial), HBB.out⟩
set_option maxHeartbeats 16000000 in
set_option maxRecDepth 100000 in
theorem em_at_sendT (k : Nat) (A0 : Option Addr) (c0 : Nat) (l0 : List Int) (x1 x2 x3 x4 fr : Int) (A3 : Option Addr) (c3 : Nat) (l3 : List Int) (w0 : World) (hr0 : Kd.C (Kd.int .i64) w0 A0 l0.length l0) (hr3 : Kd.C (Kd.int .i64) w0 A3 l3.length l3) (hc0 : l0.length ≤ c0) (hc3 : l3.length ≤ c3) (ba : Int) (hi : impl_InsOk.f k 7 x1 x2 x3 x4 (l3.length : Int) (l0.length : Int) = some true) (ho : impl_ofChan.f 7 = some true) (hs : impl_Base.f k l0 x4 = some ba) (hn : ¬ ba < 0) (h0 : 0 ≤ x4) (h1 : x4 < (l0.length : Int)) :
  Calls Try.prog 22 #[.slice A0 l0.length c0, .agg #[.int .i64 7, .int .i64 x1, .int .i64 x2, .int .i64 x3, .int .i64 x4], .int .i64 fr, .slice A3 l3.length c3] w0 fun e w' => ∃ v0_ : Value, e = .returned (v0_) ∧ Kd.R k46 46 w' w0.heap.size (fun _ => True) v0_ (emLock fr ba ++ em_sendTL x1 x2 fr ba (rd l0 x4)) ∧ Below w0.heap.size w0 w' := by
 have hu126 := Try.underlying126
 have hu46 := Try.underlying46
 have hu37 := Try.underlying37
 have HR0 := Aside0.mk hr0
 have HR3 := Aside0.mk hr3
 have HC0 := Aside0.mk hc0
 have HC3 := Aside0.mk hc3
 have HB := Aside0.mk (Below.refl w0.heap.size w0)
 clear hr0 hr3 hc0 hc3
 have HI := Aside0.mk hi
 have HO := Aside0.mk ho
 have HS := Aside0.mk hs
 have c1 : decide (ba < 0) = false := decide_eq_false hn
 obtain ⟨ad, ead, hx0⟩ := Kd.at_int HR0.out x4 h0 h1
 subst ead
 have HX0 := Aside0.mk hx0
 have p0 : (0 ≤ x4) = True := eq_true h0
 have q0 : (x4 < (l0.length : Int)) = True := eq_true h1
 obtain ⟨ro, hro⟩ : ∃ ro, ro = rd l0 x4 := ⟨_, rfl⟩
 rw [← hro] at HX0
 (try rw [← hro])
 have HL := Aside0.mk (show ([] : List S46).length ≤ 900 from by simp)
 clear hi ho hs hn hx0 h0 h1 hro
 go_enter Try.func22, Try.ntmps22
 go_wp2_with (first | ((with_reducible refine gate_dst (N := 5) rfl ?_); refine box_event ?hg (N := 5) ?hd (cs := #[.int .i64 7, .int .i64 x1, .int .i64 x2, .int .i64 x3, .int .i64 x4]) (t := 37) ?hr ?_; (case hd => rfl); (case hg => rfl); (case hr => first | (go_simp; done) | (go_simp; rfl)); intro bx hg w1 hbox hb; replace HB := Aside0.mk (below_step HB.out hb); have BX := Aside0.mk hbox; clear hb hbox hg; obtain ⟨b0, b1, b2, b3, b4⟩ := em_box BX) | (go_at_call 98; (with_reducible refine (impl_InsOk.calls k _ _ _ _ _ _ _ _ _ HI.out).mono ?_); rintro e w' ⟨rfl, hb⟩; replace HB := Aside0.mk (below_step HB.out hb); replace BX := Aside0.mk (blk_below BX.out hb); clear hb; (try clear b0 b1 b2 b3 b4); obtain ⟨b0, b1, b2, b3, b4⟩ := em_box BX) | (go_at_call 99; (with_reducible refine (impl_ofChan.calls _ _ _ HO.out).mono ?_); rintro e w' ⟨rfl, hd⟩; have hb := em_drawn hd; clear hd; replace HB := Aside0.mk (below_step HB.out hb); replace BX := Aside0.mk (blk_below BX.out hb); clear hb; (try clear b0 b1 b2 b3 b4); obtain ⟨b0, b1, b2, b3, b4⟩ := em_box BX) | (go_at_call 101; (with_reducible refine (impl_Base.calls k _ _ l0 _ _ _ (Kd.C_below HR0.out HB.out) HC0.out HS.out).mono ?_); rintro e w' ⟨rfl, hd⟩; have hb := em_drawn hd; clear hd; replace HB := Aside0.mk (below_step HB.out hb); replace BX := Aside0.mk (blk_below BX.out hb); clear hb; (try clear b0 b1 b2 b3 b4); obtain ⟨b0, b1, b2, b3, b4⟩ := em_box BX; have hx := blc_ HB HX0.out) | ((with_reducible refine gate_dst (N := 40) rfl ?_); refine box_event ?hg (N := 40) ?hd (cs := #[.slice none 0 0, .int .i64 fr, .int .i64 ba, .int .i64 ro]) (t := 126) ?hr ?_; (case hd => rfl); (case hg => rfl); (case hr => first | (go_simp; done) | (go_simp; rfl)); intro g hg w2 hbox hb; have HN := Aside0.mk (show bx ≠ g from by have h2 := blk_lt BX.out; omega); have EM := Aside0.mk (show Em w0 w2 g [] fr ba ro from ⟨_, hbox, Kd.R_nil _ _ _ _ _, below_step HB.out hb, att9_0_2⟩); replace BX := Aside0.mk (blk_below BX.out hb); have FR := Aside0.mk (Fr.below (g := g) (Below.refl w2.heap.size w2)); clear hb hbox hg hx b0 b1 b2 b3 b4; obtain ⟨b0, b1, b2, b3, b4⟩ := em_box BX; obtain ⟨e1, e2, e3⟩ := Em.cells EM.out) | (go_at_call 102; (with_reducible refine (em_lock w0 _ g _ fr ba ro ?hl EM.out).mono ?_); (case hl => (try simp only [List.length_append, List.length_cons, List.length_nil, show (emLock fr ba).length = 4 from rfl]); have := HL.out; omega); rintro e w' ⟨rfl, hE, hF⟩; replace FR := Aside0.mk (FR.out.trans hF); replace BX := Aside0.mk (hF.2 _ _ _ BX.out (by decide) HN.out); (try clear b0 b1 b2 b3 b4); obtain ⟨b0, b1, b2, b3, b4⟩ := em_box BX; (try clear e1 e2 e3); replace EM := Aside0.mk hE; clear hE hF; obtain ⟨e1, e2, e3⟩ := Em.cells EM.out) | (go_at_call 103; (with_reducible refine (em_sendT w0 _ g _ fr ba ro _ _ _ _ ?hl EM.out).mono ?_); (case hl => (try simp only [List.length_append, List.length_cons, List.length_nil, show (emLock fr ba).length = 4 from rfl]); have := HL.out; omega); rintro e w' ⟨rfl, hE, hF⟩; replace FR := Aside0.mk (FR.out.trans hF); replace BX := Aside0.mk (hF.2 _ _ _ BX.out (by decide) HN.out); (try clear b0 b1 b2 b3 b4); obtain ⟨b0, b1, b2, b3, b4⟩ := em_box BX; (try clear e1 e2 e3); replace EM := Aside0.mk hE; clear hE hF; obtain ⟨e1, e2, e3⟩ := Em.cells EM.out; obtain ⟨vv, hv, hrr, hBB, hgg⟩ := EM.out; have f0 := (em_cells ⟨hv⟩).1; have HRR := Aside0.mk hrr; have HBB := Aside0.mk hBB; clear hv hrr hBB hgg))
 go_ret
 exact ⟨_, rfl, Kd.R_mono HRR.out (fun _ _ => trivial), HBB.out⟩
set_option maxHeartbeats 16000000 in
set_option maxRecDepth 100000 in
theorem em_at_takeF (k : Nat) (A0 : Option Addr) (c0 : Nat) (l0 : List Int) (x1 x2 x3 x4 fr : Int) (A3 : Option Addr) (c3 : Nat) (l3 : List Int) (w0 : World) (hr0 : Kd.C (Kd.int .i64) w0 A0 l0.length l0) (hr3 : Kd.C (Kd.int .i64) w0 A3 l3.length l3) (hc0 : l0.length ≤ c0) (hc3 : l3.length ≤ c3) (ba : Int) (hi : impl_InsOk.f k 6 x1 x2 x3 x4 (l3.length : Int) (l0.length : Int) = some true) (ho : impl_ofChan.f 6 = some true) (hs : impl_Base.f k l0 x4 = some ba) (hn : ¬ ba < 0) (h0 : 0 ≤ x4) (h1 : x4 < (l0.length : Int)) :
  Calls Try.prog 22 #[.slice A0 l0.length c0, .agg #[.int .i64 6, .int .i64 x1, .int .i64 x2, .int .i64 x3, .int .i64 x4], .int .i64 fr, .slice A3 l3.length c3] w0 fun e w' => ∃ v0_ : Value, e = .returned (v0_) ∧ Kd.R k46 46 w' w0.heap.size (fun _ => True) v0_ (emLock fr ba ++ em_takeFL x1 x3 fr ba (rd l0 x4)) ∧ Below w0.heap.size w0 w' := by
 have hu126 := Try.underlying126
 have hu46 := Try.underlying46
 have hu37 := Try.underlying37
 have HR0 := Aside0.mk hr0
 have HR3 := Aside0.mk hr3
 have HC0 := Aside0.mk hc0
 have HC3 := Aside0.mk hc3
 have HB := Aside0.mk (Below.refl w0.heap.size w0)
 clear hr0 hr3 hc0 hc3
 have HI := Aside0.mk hi
 have HO := Aside0.mk ho
 have HS := Aside0.mk hs
 have c1 : decide (ba < 0) = false := decide_eq_false hn
 obtain ⟨ad, ead, hx0⟩ := Kd.at_int HR0.out x4 h0 h1
 subst ead
 have HX0 := Aside0.mk hx0
 have p0 : (0 ≤ x4) = True := eq_true h0
 have q0 : (x4 < (l0.length : Int)) = True := eq_true h1
 obtain ⟨ro, hro⟩ : ∃ ro, ro = rd l0 x4 := ⟨_, rfl⟩
 rw [← hro] at HX0
 (try rw [← hro])
 have HL := Aside0.mk (show ([] : List S46).length ≤ 900 from by simp)
 clear hi ho hs hn hx0 h0 h1 hro
 go_enter Try.func22, Try.ntmps22
 go_wp2_with (first | ((with_reducible refine gate_dst (N := 5) rfl ?_); refine box_event ?hg (N := 5) ?hd (cs := #[.int .i64 6, .int .i64 x1, .int .i64 x2, .int .i64 x3, .int .i64 x4]) (t := 37) ?hr ?_; (case hd => rfl); (case hg => rfl); (case hr => first | (go_simp; done) | (go_simp; rfl)); intro bx hg w1 hbox hb; replace HB := Aside0.mk (below_step HB.out hb); have BX := Aside0.mk hbox; clear hb hbox hg; obtain ⟨b0, b1, b2, b3, b4⟩ := em_box BX) | (go_at_call 98; (with_reducible refine (impl_InsOk.calls k _ _ _ _ _ _ _ _ _ HI.out).mono ?_); rintro e w' ⟨rfl, hb⟩; replace HB := Aside0.mk (below_step HB.out hb); replace BX := Aside0.mk (blk_below BX.out hb); clear hb; (try clear b0 b1 b2 b3 b4); obtain ⟨b0, b1, b2, b3, b4⟩ := em_box BX) | (go_at_call 99; (with_reducible refine (impl_ofChan.calls _ _ _ HO.out).mono ?_); rintro e w' ⟨rfl, hd⟩; have hb := em_drawn hd; clear hd; replace HB := Aside0.mk (below_step HB.out hb); replace BX := Aside0.mk (blk_below BX.out hb); clear hb; (try clear b0 b1 b2 b3 b4); obtain ⟨b0, b1, b2, b3, b4⟩ := em_box BX) | (go_at_call 101; (with_reducible refine (impl_Base.calls k _ _ l0 _ _ _ (Kd.C_below HR0.out HB.out) HC0.out HS.out).mono ?_); rintro e w' ⟨rfl, hd⟩; have hb := em_drawn hd; clear hd; replace HB := Aside0.mk (below_step HB.out hb); replace BX := Aside0.mk (blk_below BX.out hb); clear hb; (try clear b0 b1 b2 b3 b4); obtain ⟨b0, b1, b2, b3, b4⟩ := em_box BX; have hx := blc_ HB HX0.out) | ((with_reducible refine gate_dst (N := 40) rfl ?_); refine box_event ?hg (N := 40) ?hd (cs := #[.slice none 0 0, .int .i64 fr, .int .i64 ba, .int .i64 ro]) (t := 126) ?hr ?_; (case hd => rfl); (case hg => rfl); (case hr => first | (go_simp; done) | (go_simp; rfl)); intro g hg w2 hbox hb; have HN := Aside0.mk (show bx ≠ g from by have h2 := blk_lt BX.out; omega); have EM := Aside0.mk (show Em w0 w2 g [] fr ba ro from ⟨_, hbox, Kd.R_nil _ _ _ _ _, below_step HB.out hb, att9_0_2⟩); replace BX := Aside0.mk (blk_below BX.out hb); have FR := Aside0.mk (Fr.below (g := g) (Below.refl w2.heap.size w2)); clear hb hbox hg hx b0 b1 b2 b3 b4; obtain ⟨b0, b1, b2, b3, b4⟩ := em_box BX; obtain ⟨e1, e2, e3⟩ := Em.cells EM.out) | (go_at_call 102; (with_reducible refine (em_lock w0 _ g _ fr ba ro ?hl EM.out).mono ?_); (case hl => (try simp only [List.length_append, List.length_cons, List.length_nil, show (emLock fr ba).length = 4 from rfl]); have := HL.out; omega); rintro e w' ⟨rfl, hE, hF⟩; replace FR := Aside0.mk (FR.out.trans hF); replace BX := Aside0.mk (hF.2 _ _ _ BX.out (by decide) HN.out); (try clear b0 b1 b2 b3 b4); obtain ⟨b0, b1, b2, b3, b4⟩ := em_box BX; (try clear e1 e2 e3); replace EM := Aside0.mk hE; clear hE hF; obtain ⟨e1, e2, e3⟩ := Em.cells EM.out) | (go_at_call 104; (with_reducible refine (em_takeF w0 _ g _ fr ba ro _ _ _ _ ?hl EM.out).mono ?_); (case hl => (try simp only [List.length_append, List.length_cons, List.length_nil, show (emLock fr ba).length = 4 from rfl]); have := HL.out; omega); rintro e w' ⟨rfl, hE, hF⟩; replace FR := Aside0.mk (FR.out.trans hF); replace BX := Aside0.mk (hF.2 _ _ _ BX.out (by decide) HN.out); (try clear b0 b1 b2 b3 b4); obtain ⟨b0, b1, b2, b3, b4⟩ := em_box BX; (try clear e1 e2 e3); replace EM := Aside0.mk hE; clear hE hF; obtain ⟨e1, e2, e3⟩ := Em.cells EM.out; obtain ⟨vv, hv, hrr, hBB, hgg⟩ := EM.out; have f0 := (em_cells ⟨hv⟩).1; have HRR := Aside0.mk hrr; have HBB := Aside0.mk hBB; clear hv hrr hBB hgg))
 go_ret
 exact ⟨_, rfl, Kd.R_mono HRR.out (fun _ _ => trivial), HBB.out⟩
set_option maxHeartbeats 16000000 in
set_option maxRecDepth 100000 in
theorem em_at_takeT (k : Nat) (A0 : Option Addr) (c0 : Nat) (l0 : List Int) (x1 x2 x3 x4 fr : Int) (A3 : Option Addr) (c3 : Nat) (l3 : List Int) (w0 : World) (hr0 : Kd.C (Kd.int .i64) w0 A0 l0.length l0) (hr3 : Kd.C (Kd.int .i64) w0 A3 l3.length l3) (hc0 : l0.length ≤ c0) (hc3 : l3.length ≤ c3) (ba : Int) (hi : impl_InsOk.f k 8 x1 x2 x3 x4 (l3.length : Int) (l0.length : Int) = some true) (ho : impl_ofChan.f 8 = some true) (hs : impl_Base.f k l0 x4 = some ba) (hn : ¬ ba < 0) (h0 : 0 ≤ x4) (h1 : x4 < (l0.length : Int)) :
  Calls Try.prog 22 #[.slice A0 l0.length c0, .agg #[.int .i64 8, .int .i64 x1, .int .i64 x2, .int .i64 x3, .int .i64 x4], .int .i64 fr, .slice A3 l3.length c3] w0 fun e w' => ∃ v0_ : Value, e = .returned (v0_) ∧ Kd.R k46 46 w' w0.heap.size (fun _ => True) v0_ (emLock fr ba ++ em_takeTL x1 x3 fr ba (rd l0 x4)) ∧ Below w0.heap.size w0 w' := by
 have hu126 := Try.underlying126
 have hu46 := Try.underlying46
 have hu37 := Try.underlying37
 have HR0 := Aside0.mk hr0
 have HR3 := Aside0.mk hr3
 have HC0 := Aside0.mk hc0
 have HC3 := Aside0.mk hc3
 have HB := Aside0.mk (Below.refl w0.heap.size w0)
 clear hr0 hr3 hc0 hc3
 have HI := Aside0.mk hi
 have HO := Aside0.mk ho
 have HS := Aside0.mk hs
 have c1 : decide (ba < 0) = false := decide_eq_false hn
 obtain ⟨ad, ead, hx0⟩ := Kd.at_int HR0.out x4 h0 h1
 subst ead
 have HX0 := Aside0.mk hx0
 have p0 : (0 ≤ x4) = True := eq_true h0
 have q0 : (x4 < (l0.length : Int)) = True := eq_true h1
 obtain ⟨ro, hro⟩ : ∃ ro, ro = rd l0 x4 := ⟨_, rfl⟩
 rw [← hro] at HX0
 (try rw [← hro])
 have HL := Aside0.mk (show ([] : List S46).length ≤ 900 from by simp)
 clear hi ho hs hn hx0 h0 h1 hro
 go_enter Try.func22, Try.ntmps22
 go_wp2_with (first | ((with_reducible refine gate_dst (N := 5) rfl ?_); refine box_event ?hg (N := 5) ?hd (cs := #[.int .i64 8, .int .i64 x1, .int .i64 x2, .int .i64 x3, .int .i64 x4]) (t := 37) ?hr ?_; (case hd => rfl); (case hg => rfl); (case hr => first | (go_simp; done) | (go_simp; rfl)); intro bx hg w1 hbox hb; replace HB := Aside0.mk (below_step HB.out hb); have BX := Aside0.mk hbox; clear hb hbox hg; obtain ⟨b0, b1, b2, b3, b4⟩ := em_box BX) | (go_at_call 98; (with_reducible refine (impl_InsOk.calls k _ _ _ _ _ _ _ _ _ HI.out).mono ?_); rintro e w' ⟨rfl, hb⟩; replace HB := Aside0.mk (below_step HB.out hb); replace BX := Aside0.mk (blk_below BX.out hb); clear hb; (try clear b0 b1 b2 b3 b4); obtain ⟨b0, b1, b2, b3, b4⟩ := em_box BX) | (go_at_call 99; (with_reducible refine (impl_ofChan.calls _ _ _ HO.out).mono ?_); rintro e w' ⟨rfl, hd⟩; have hb := em_drawn hd; clear hd; replace HB := Aside0.mk (below_step HB.out hb); replace BX := Aside0.mk (blk_below BX.out hb); clear hb; (try clear b0 b1 b2 b3 b4); obtain ⟨b0, b1, b2, b3, b4⟩ := em_box BX) | (go_at_call 101; (with_reducible refine (impl_Base.calls k _ _ l0 _ _ _ (Kd.C_below HR0.out HB.out) HC0.out HS.out).mono ?_); rintro e w' ⟨rfl, hd⟩; have hb := em_drawn hd; clear hd; replace HB := Aside0.mk (below_step HB.out hb); replace BX := Aside0.mk (blk_below BX.out hb); clear hb; (try clear b0 b1 b2 b3 b4); obtain ⟨b0, b1, b2, b3, b4⟩ := em_box BX; have hx := blc_ HB HX0.out) | ((with_reducible refine gate_dst (N := 40) rfl ?_); refine box_event ?hg (N := 40) ?hd (cs := #[.slice none 0 0, .int .i64 fr, .int .i64 ba, .int .i64 ro]) (t := 126) ?hr ?_; (case hd => rfl); (case hg => rfl); (case hr => first | (go_simp; done) | (go_simp; rfl)); intro g hg w2 hbox hb; have HN := Aside0.mk (show bx ≠ g from by have h2 := blk_lt BX.out; omega); have EM := Aside0.mk (show Em w0 w2 g [] fr ba ro from ⟨_, hbox, Kd.R_nil _ _ _ _ _, below_step HB.out hb, att9_0_2⟩); replace BX := Aside0.mk (blk_below BX.out hb); have FR := Aside0.mk (Fr.below (g := g) (Below.refl w2.heap.size w2)); clear hb hbox hg hx b0 b1 b2 b3 b4; obtain ⟨b0, b1, b2, b3, b4⟩ := em_box BX; obtain ⟨e1, e2, e3⟩ := Em.cells EM.out) | (go_at_call 102; (with_reducible refine (em_lock w0 _ g _ fr ba ro ?hl EM.out).mono ?_); (case hl => (try simp only [List.length_append, List.length_cons, List.length_nil, show (emLock fr ba).length = 4 from rfl]); have := HL.out; omega); rintro e w' ⟨rfl, hE, hF⟩; replace FR := Aside0.mk (FR.out.trans hF); replace BX := Aside0.mk (hF.2 _ _ _ BX.out (by decide) HN.out); (try clear b0 b1 b2 b3 b4); obtain ⟨b0, b1, b2, b3, b4⟩ := em_box BX; (try clear e1 e2 e3); replace EM := Aside0.mk hE; clear hE hF; obtain ⟨e1, e2, e3⟩ := Em.cells EM.out) | (go_at_call 104; (with_reducible refine (em_takeT w0 _ g _ fr ba ro _ _ _ _ ?hl EM.out).mono ?_); (case hl => (try simp only [List.length_append, List.length_cons, List.length_nil, show (emLock fr ba).length = 4 from rfl]); have := HL.out; omega); rintro e w' ⟨rfl, hE, hF⟩; replace FR := Aside0.mk (FR.out.trans hF); replace BX := Aside0.mk (hF.2 _ _ _ BX.out (by decide) HN.out); (try clear b0 b1 b2 b3 b4); obtain ⟨b0, b1, b2, b3, b4⟩ := em_box BX; (try clear e1 e2 e3); replace EM := Aside0.mk hE; clear hE hF; obtain ⟨e1, e2, e3⟩ := Em.cells EM.out; obtain ⟨vv, hv, hrr, hBB, hgg⟩ := EM.out; have f0 := (em_cells ⟨hv⟩).1; have HRR := Aside0.mk hrr; have HBB := Aside0.mk hBB; clear hv hrr hBB hgg))
 go_ret
 exact ⟨_, rfl, Kd.R_mono HRR.out (fun _ _ => trivial), HBB.out⟩
set_option maxHeartbeats 16000000 in
set_option maxRecDepth 100000 in
theorem em_at_close (k : Nat) (A0 : Option Addr) (c0 : Nat) (l0 : List Int) (x0 x1 x2 x3 x4 fr : Int) (A3 : Option Addr) (c3 : Nat) (l3 : List Int) (w0 : World) (hr0 : Kd.C (Kd.int .i64) w0 A0 l0.length l0) (hr3 : Kd.C (Kd.int .i64) w0 A3 l3.length l3) (hc0 : l0.length ≤ c0) (hc3 : l3.length ≤ c3) (ba : Int) (hi : impl_InsOk.f k x0 x1 x2 x3 x4 (l3.length : Int) (l0.length : Int) = some true) (ho : impl_ofChan.f x0 = some true) (hs : impl_Base.f k l0 x4 = some ba) (hn : ¬ ba < 0) (h0 : 0 ≤ x4) (h1 : x4 < (l0.length : Int)) (hx : x0 ≠ 5 ∧ x0 ≠ 7 ∧ x0 ≠ 6 ∧ x0 ≠ 8) :
  Calls Try.prog 22 #[.slice A0 l0.length c0, .agg #[.int .i64 x0, .int .i64 x1, .int .i64 x2, .int .i64 x3, .int .i64 x4], .int .i64 fr, .slice A3 l3.length c3] w0 fun e w' => ∃ v0_ : Value, e = .returned (v0_) ∧ Kd.R k46 46 w' w0.heap.size (fun _ => True) v0_ (emLock fr ba ++ emClose fr ba) ∧ Below w0.heap.size w0 w' := by
 have hu126 := Try.underlying126
 have hu46 := Try.underlying46
 have hu37 := Try.underlying37
 have HR0 := Aside0.mk hr0
 have HR3 := Aside0.mk hr3
 have HC0 := Aside0.mk hc0
 have HC3 := Aside0.mk hc3
 have HB := Aside0.mk (Below.refl w0.heap.size w0)
 clear hr0 hr3 hc0 hc3
 have HI := Aside0.mk hi
 have HO := Aside0.mk ho
 have HS := Aside0.mk hs
 have c1 : decide (ba < 0) = false := decide_eq_false hn
 obtain ⟨ad, ead, hx0⟩ := Kd.at_int HR0.out x4 h0 h1
 subst ead
 have HX0 := Aside0.mk hx0
 have p0 : (0 ≤ x4) = True := eq_true h0
 have q0 : (x4 < (l0.length : Int)) = True := eq_true h1
 obtain ⟨ro, hro⟩ : ∃ ro, ro = rd l0 x4 := ⟨_, rfl⟩
 rw [← hro] at HX0
 (try rw [← hro])
 have HL := Aside0.mk (show ([] : List S46).length ≤ 900 from by simp)
 have d5 : (x0 == 5) = false := beq_eq_false_iff_ne.mpr (by omega)
 have d7 : (x0 == 7) = false := beq_eq_false_iff_ne.mpr (by omega)
 have d6 : (x0 == 6) = false := beq_eq_false_iff_ne.mpr (by omega)
 have d8 : (x0 == 8) = false := beq_eq_false_iff_ne.mpr (by omega)
 clear hx
 clear hi ho hs hn hx0 h0 h1 hro
 go_enter Try.func22, Try.ntmps22
 go_wp2_with (first | ((with_reducible refine gate_dst (N := 5) rfl ?_); refine box_event ?hg (N := 5) ?hd (cs := #[.int .i64 x0, .int .i64 x1, .int .i64 x2, .int .i64 x3, .int .i64 x4]) (t := 37) ?hr ?_; (case hd => rfl); (case hg => rfl); (case hr => first | (go_simp; done) | (go_simp; rfl)); intro bx hg w1 hbox hb; replace HB := Aside0.mk (below_step HB.out hb); have BX := Aside0.mk hbox; clear hb hbox hg; obtain ⟨b0, b1, b2, b3, b4⟩ := em_box BX) | (go_at_call 98; (with_reducible refine (impl_InsOk.calls k _ _ _ _ _ _ _ _ _ HI.out).mono ?_); rintro e w' ⟨rfl, hb⟩; replace HB := Aside0.mk (below_step HB.out hb); replace BX := Aside0.mk (blk_below BX.out hb); clear hb; (try clear b0 b1 b2 b3 b4); obtain ⟨b0, b1, b2, b3, b4⟩ := em_box BX) | (go_at_call 99; (with_reducible refine (impl_ofChan.calls _ _ _ HO.out).mono ?_); rintro e w' ⟨rfl, hd⟩; have hb := em_drawn hd; clear hd; replace HB := Aside0.mk (below_step HB.out hb); replace BX := Aside0.mk (blk_below BX.out hb); clear hb; (try clear b0 b1 b2 b3 b4); obtain ⟨b0, b1, b2, b3, b4⟩ := em_box BX) | (go_at_call 101; (with_reducible refine (impl_Base.calls k _ _ l0 _ _ _ (Kd.C_below HR0.out HB.out) HC0.out HS.out).mono ?_); rintro e w' ⟨rfl, hd⟩; have hb := em_drawn hd; clear hd; replace HB := Aside0.mk (below_step HB.out hb); replace BX := Aside0.mk (blk_below BX.out hb); clear hb; (try clear b0 b1 b2 b3 b4); obtain ⟨b0, b1, b2, b3, b4⟩ := em_box BX; have hx := blc_ HB HX0.out) | ((with_reducible refine gate_dst (N := 40) rfl ?_); refine box_event ?hg (N := 40) ?hd (cs := #[.slice none 0 0, .int .i64 fr, .int .i64 ba, .int .i64 ro]) (t := 126) ?hr ?_; (case hd => rfl); (case hg => rfl); (case hr => first | (go_simp; done) | (go_simp; rfl)); intro g hg w2 hbox hb; have HN := Aside0.mk (show bx ≠ g from by have h2 := blk_lt BX.out; omega); have EM := Aside0.mk (show Em w0 w2 g [] fr ba ro from ⟨_, hbox, Kd.R_nil _ _ _ _ _, below_step HB.out hb, att9_0_2⟩); replace BX := Aside0.mk (blk_below BX.out hb); have FR := Aside0.mk (Fr.below (g := g) (Below.refl w2.heap.size w2)); clear hb hbox hg hx b0 b1 b2 b3 b4; obtain ⟨b0, b1, b2, b3, b4⟩ := em_box BX; obtain ⟨e1, e2, e3⟩ := Em.cells EM.out) | (go_at_call 102; (with_reducible refine (em_lock w0 _ g _ fr ba ro ?hl EM.out).mono ?_); (case hl => (try simp only [List.length_append, List.length_cons, List.length_nil, show (emLock fr ba).length = 4 from rfl]); have := HL.out; omega); rintro e w' ⟨rfl, hE, hF⟩; replace FR := Aside0.mk (FR.out.trans hF); replace BX := Aside0.mk (hF.2 _ _ _ BX.out (by decide) HN.out); (try clear b0 b1 b2 b3 b4); obtain ⟨b0, b1, b2, b3, b4⟩ := em_box BX; (try clear e1 e2 e3); replace EM := Aside0.mk hE; clear hE hF; obtain ⟨e1, e2, e3⟩ := Em.cells EM.out) | (go_at_call 105; (with_reducible refine (em_close w0 _ g _ fr ba ro ?hl EM.out).mono ?_); (case hl => (try simp only [List.length_append, List.length_cons, List.length_nil, show (emLock fr ba).length = 4 from rfl]); have := HL.out; omega); rintro e w' ⟨rfl, hE, hF⟩; replace FR := Aside0.mk (FR.out.trans hF); replace BX := Aside0.mk (hF.2 _ _ _ BX.out (by decide) HN.out); (try clear b0 b1 b2 b3 b4); obtain ⟨b0, b1, b2, b3, b4⟩ := em_box BX; (try clear e1 e2 e3); replace EM := Aside0.mk hE; clear hE hF; obtain ⟨e1, e2, e3⟩ := Em.cells EM.out; obtain ⟨vv, hv, hrr, hBB, hgg⟩ := EM.out; have f0 := (em_cells ⟨hv⟩).1; have HRR := Aside0.mk hrr; have HBB := Aside0.mk hBB; clear hv hrr hBB hgg))
 go_ret
 exact ⟨_, rfl, Kd.R_mono HRR.out (fun _ _ => trivial), HBB.out⟩
theorem impl_Emit.calls (k : Nat) (A0 : Option Addr) (c0 : Nat) (l0 : List Int) (x0 x1 x2 x3 x4 fr : Int) (A3 : Option Addr) (c3 : Nat) (l3 : List Int) (r : List S46) (w0 : World) (hr0 : Kd.C (Kd.int .i64) w0 A0 l0.length l0) (hc0 : l0.length ≤ c0) (hr3 : Kd.C (Kd.int .i64) w0 A3 l3.length l3) (hc3 : l3.length ≤ c3) (h : impl_Emit.f k l0 x0 x1 x2 x3 x4 fr l3 = some r) :
  Calls Try.prog 22 #[.slice A0 l0.length c0, .agg #[.int .i64 x0, .int .i64 x1, .int .i64 x2, .int .i64 x3, .int .i64 x4], .int .i64 fr, .slice A3 l3.length c3] w0 fun e w' => ∃ v0_ : Value, e = .returned (v0_) ∧ Kd.R k46 46 w' w0.heap.size (fun _ => True) v0_ r ∧ Below w0.heap.size w0 w' := by
 unfold impl_Emit.f at h
 obtain ⟨t, hi, h⟩ := Option.bind_eq_some_iff.mp h
 cases t with
 | false =>
  rw [if_neg (by decide)] at h
  obtain rfl := Option.some.inj h
  exact em_bad k A0 c0 l0 x0 x1 x2 x3 x4 fr A3 c3 l3 w0 hr0 hr3 hc0 hc3 hi
 | true =>
  rw [if_pos rfl] at h
  obtain ⟨u, ho, h⟩ := Option.bind_eq_some_iff.mp h
  cases u with
  | false =>
   rw [if_neg (by decide)] at h
   obtain ⟨⟨s1, s2, s3, s4, s5⟩, hs, h⟩ := Option.bind_eq_some_iff.mp h
   obtain rfl := Option.some.inj h
   exact em_single k A0 c0 l0 x0 x1 x2 x3 x4 fr A3 c3 l3 w0 hr0 hr3 hc0 hc3 s1 s2 s3 s4 s5 hi ho hs
  | true =>
   rw [if_pos rfl] at h
   obtain ⟨ba, hs, h⟩ := Option.bind_eq_some_iff.mp h
   by_cases hn : ba < 0
   ·rw [if_pos hn] at h
    obtain rfl := Option.some.inj h
    exact em_nobase k A0 c0 l0 x0 x1 x2 x3 x4 fr A3 c3 l3 w0 hr0 hr3 hc0 hc3 ba hi ho hs hn
   ·rw [if_neg hn] at h
    by_cases hx : 0 ≤ x4 ∧ x4 < (l0.length : Int)
    ·rw [if_pos hx] at h
     obtain rfl := Option.some.inj h
     unfold emPart
     by_cases o5 : x0 = 5
     ·subst o5
      rw [if_pos rfl]
      exact em_at_sendF k A0 c0 l0 x1 x2 x3 x4 fr A3 c3 l3 w0 hr0 hr3 hc0 hc3 ba hi ho hs hn hx.1 hx.2
     rw [if_neg o5]
     by_cases o7 : x0 = 7
     ·subst o7
      rw [if_pos rfl]
      exact em_at_sendT k A0 c0 l0 x1 x2 x3 x4 fr A3 c3 l3 w0 hr0 hr3 hc0 hc3 ba hi ho hs hn hx.1 hx.2
     rw [if_neg o7]
     by_cases o6 : x0 = 6
     ·subst o6
      rw [if_pos rfl]
      exact em_at_takeF k A0 c0 l0 x1 x2 x3 x4 fr A3 c3 l3 w0 hr0 hr3 hc0 hc3 ba hi ho hs hn hx.1 hx.2
     rw [if_neg o6]
     by_cases o8 : x0 = 8
     ·subst o8
      rw [if_pos rfl]
      exact em_at_takeT k A0 c0 l0 x1 x2 x3 x4 fr A3 c3 l3 w0 hr0 hr3 hc0 hc3 ba hi ho hs hn hx.1 hx.2
     rw [if_neg o8]
     exact em_at_close k A0 c0 l0 x0 x1 x2 x3 x4 fr A3 c3 l3 w0 hr0 hr3 hc0 hc3 ba hi ho hs hn hx.1 hx.2 ⟨o5, o7, o6, o8⟩
    ·rw [if_neg hx] at h
     exact absurd h (by simp)

end Go.Proofs.Ytonlhgkpmjefkaa.XFnEmitted
