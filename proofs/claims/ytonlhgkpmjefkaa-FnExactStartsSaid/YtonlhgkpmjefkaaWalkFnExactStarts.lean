/- The walk of FnExactStarts, over what its functions answer; for every world. -/
import Derived.Test.YtonlhgkpmjefkaaXFnExactStartsx
import Derived.Test.YtonlhgkpmjefkaaMarkFnExactStarts
namespace Go.Proofs.Ytonlhgkpmjefkaa.XFnExactStarts
open Go.RowKit Go.Proofs.YtonlhgkpmjefkaaW.PrintWords Go.Proofs.YtonlhgkpmjefkaaW.PrintLast Go.Proofs.YtonlhgkpmjefkaaW.PrintMore
attribute [local go_sem] max2_int min2_int max_two min_two max_three min_three max_four min_four
set_option linter.unusedVariables false
set_option linter.unusedSimpArgs false
theorem held_ (k : Nat) (A0 : Option Addr) (c0 n : Nat) (l0 : List Int) (a1 r : Int) (w : World) (hr : n = l0.length ∧ n ≤ c0 ∧ Kd.C (Kd.int .i64) w A0 l0.length l0) (h : laws_heldIntS.f k l0 a1 = some r) : Calls Try.prog 66 #[.slice A0 n c0, .int .i64 a1] w fun e w' => e = .returned (.int .i64 r) ∧ Drawn0 w w' := by
  obtain ⟨rfl, h1, h2⟩ := hr
  exact laws_heldIntS.calls k A0 c0 l0 a1 r w h2 h1 h
set_option maxHeartbeats 8000000 in
set_option maxRecDepth 100000 in
theorem laws_FnExactStarts.small (k : Nat) (A0_0 : Option Addr) (c0_0 : Nat) (l0_0 : List Int) (A0_1 : Option Addr) (c0_1 : Nat) (l0_1 : List (List S82)) (a1 z : Int) (w : World) (hr0_0 : Kd.C (Kd.int .i64) w A0_0 l0_0.length l0_0) (hc0_0 : l0_0.length ≤ c0_0) (hr0_1 : Kd.C (Kd.slice 82 k82) w A0_1 l0_1.length l0_1) (hc0_1 : l0_1.length ≤ c0_1) (hsz : laws_szProg.f k l0_0 l0_1 1048576 = some z) (hz : z < 0) :
    Calls Try.prog 10 #[.agg #[.slice A0_0 l0_0.length c0_0, .slice A0_1 l0_1.length c0_1], .int .i64 a1] w fun e w' => e = .returned (.bool true) ∧ Below w.heap.size w w' := by
  have hu25 := Try.underlying25
  have hu30 := Try.underlying30
  have HR0_0 := Aside0.mk hr0_0
  have HC0_0 := Aside0.mk hc0_0
  have HR0_1 := Aside0.mk hr0_1
  have HC0_1 := Aside0.mk hc0_1
  have HSZ := Aside0.mk hsz
  have HB := Aside0.mk (Below.refl w.heap.size w)
  have z0 : decide (z < 0) = true := decide_eq_true hz
  have tk1 := Aside0.mk True.intro
  have tk2 := Aside0.mk True.intro
  clear hr0_0 hc0_0 hr0_1 hc0_1 hsz hz
  go_enter Try.func10, Try.ntmps10
  go_wp2_with (first | (clear tk1; (with_reducible refine gate_dst (N := 2) rfl ?_); refine box_event ?hg (N := 2) ?hd (cs := #[.slice A0_0 l0_0.length c0_0, .slice A0_1 l0_1.length c0_1]) (t := 25) ?hr ?_; (case hd => rfl); (case hg => rfl); (case hr => first | (go_simp; done) | (go_simp; rfl)); intro g1 hg w1_ hbox hb; have n_HB := Aside0.mk (below_step HB.out hb); have Zw1_ := Aside0.mk hb.size; have Gg1 := Aside0.mk (show w.heap.size ≤ g1 ∧ g1 < w1_.heap.size from ⟨Nat.le_of_eq hg.symm, blk_lt hbox⟩); have Bg1 := Aside0.mk hbox; clear HB; have HB := n_HB; clear n_HB; clear hb hbox hg; have hcz1_g1_0 : w1_.cell? ⟨g1, 0, none⟩ = some (.slice A0_0 l0_0.length c0_0) := (blk_cell Bg1.out 0).trans rfl; have hfz1_g1_0 := blk_frozen Bg1.out 0; have hcz1_g1_1 : w1_.cell? ⟨g1, 1, none⟩ = some (.slice A0_1 l0_1.length c0_1) := (blk_cell Bg1.out 1).trans rfl; have hfz1_g1_1 := blk_frozen Bg1.out 1) | (clear tk2; go_at_call 15; (with_reducible refine (laws_szProg.calls k _ _ l0_0 _ _ l0_1 1048576 z _ (Kd.C_below HR0_0.out HB.out) HC0_0.out (Kd.C_below HR0_1.out HB.out) HC0_1.out HSZ.out).mono ?_); rintro e w2_ ⟨rfl, hb⟩; (try clear hcz1_g1_0 hcz1_g1_1); (try clear hfz1_g1_0 hfz1_g1_1); have n_Bg1 := Aside0.mk (blk_b Bg1.out hb); have n_HB := Aside0.mk (below_step HB.out hb); have Zw2_ := Aside0.mk hb.size; clear Bg1; clear HB; have Bg1 := n_Bg1; have HB := n_HB; clear n_Bg1 n_HB; clear hb; have hcz2_g1_0 : w2_.cell? ⟨g1, 0, none⟩ = some (.slice A0_0 l0_0.length c0_0) := (blk_cell Bg1.out 0).trans rfl; have hfz2_g1_0 := blk_frozen Bg1.out 0; have hcz2_g1_1 : w2_.cell? ⟨g1, 1, none⟩ = some (.slice A0_1 l0_1.length c0_1) := (blk_cell Bg1.out 1).trans rfl; have hfz2_g1_1 := blk_frozen Bg1.out 1))
  go_ret
  exact ⟨rfl, HB.out⟩
set_option maxHeartbeats 8000000 in
set_option maxRecDepth 100000 in
theorem laws_FnExactStarts.walk (k : Nat) (A0_0 : Option Addr) (c0_0 : Nat) (l0_0 : List Int) (A0_1 : Option Addr) (c0_1 : Nat) (l0_1 : List (List S82)) (a1 z kk m : Int) (p1 q1 s g g' : List Int) (p2 q2 : List (List S37)) (w : World) (hr0_0 : Kd.C (Kd.int .i64) w A0_0 l0_0.length l0_0) (hc0_0 : l0_0.length ≤ c0_0) (hr0_1 : Kd.C (Kd.slice 82 k82) w A0_1 l0_1.length l0_1) (hc0_1 : l0_1.length ≤ c0_1)
    (hsz : laws_szProg.f k l0_0 l0_1 1048576 = some z) (hz : ¬ z < 0) (hto : laws_toProg.f k l0_0 l0_1 = some (p1, p2)) (hsp : spec_Starts.f k p1 p2 a1 = some s) (him : impl_Starts.f k p1 p2 a1 = some g) (hee : laws_eqIntS.f k g s = some true) (hep : laws_eqProg.f k p1 p2 p1 p2 = some true) (hmp : laws_markProg.f k p1 p2 1 = some (kk, q1, q2)) (hkk : 0 ≤ kk) (hmi : laws_markIntS.f k g 1 = some (m, g')) (hhe : laws_heldIntS.f k g' 1 = some m) (hm : 0 ≤ m) :
    Calls Try.prog 10 #[.agg #[.slice A0_0 l0_0.length c0_0, .slice A0_1 l0_1.length c0_1], .int .i64 a1] w fun e w' => e = .returned (.bool true) ∧ Below w.heap.size w w' := by
  have hu25 := Try.underlying25
  have hu30 := Try.underlying30
  have HR0_0 := Aside0.mk hr0_0
  have HC0_0 := Aside0.mk hc0_0
  have HR0_1 := Aside0.mk hr0_1
  have HC0_1 := Aside0.mk hc0_1
  have HSZ := Aside0.mk hsz
  have HTO := Aside0.mk hto
  have HSP := Aside0.mk hsp
  have HIM := Aside0.mk him
  have HEE := Aside0.mk hee
  have HEP := Aside0.mk hep
  have HMP := Aside0.mk hmp
  have HMI := Aside0.mk hmi
  have HHE := Aside0.mk hhe
  have HB := Aside0.mk (Below.refl w.heap.size w)
  have z0 : decide (z < 0) = false := decide_eq_false hz
  have kk0 : decide (kk < 0) = false := decide_eq_false (by omega)
  have m0 : decide (m < 0) = false := decide_eq_false (by omega)
  have tk1 := Aside0.mk True.intro
  have tk2 := Aside0.mk True.intro
  have tk3 := Aside0.mk True.intro
  have tk4 := Aside0.mk True.intro
  have tk5 := Aside0.mk True.intro
  have tk6 := Aside0.mk True.intro
  have tk7 := Aside0.mk True.intro
  have tk8 := Aside0.mk True.intro
  have tk9 := Aside0.mk True.intro
  have tk10 := Aside0.mk True.intro
  have tk11 := Aside0.mk True.intro
  have tk12 := Aside0.mk True.intro
  have tk13 := Aside0.mk True.intro
  have tk14 := Aside0.mk True.intro
  have tk15 := Aside0.mk True.intro
  have tk16 := Aside0.mk True.intro
  clear hr0_0 hc0_0 hr0_1 hc0_1 hsz hz hto hsp him hee hep hmp hkk hmi hhe hm
  go_enter Try.func10, Try.ntmps10
  go_upto_region 10 with (first | (clear tk1; (with_reducible refine gate_dst (N := 2) rfl ?_); refine box_event ?hg (N := 2) ?hd (cs := #[.slice A0_0 l0_0.length c0_0, .slice A0_1 l0_1.length c0_1]) (t := 25) ?hr ?_; (case hd => rfl); (case hg => rfl); (case hr => first | (go_simp; done) | (go_simp; rfl)); intro g1 hg w1_ hbox hb; have n_HB := Aside0.mk (below_step HB.out hb); have Zw1_ := Aside0.mk hb.size; have Gg1 := Aside0.mk (show w.heap.size ≤ g1 ∧ g1 < w1_.heap.size from ⟨Nat.le_of_eq hg.symm, blk_lt hbox⟩); have Bg1 := Aside0.mk hbox; clear HB; have HB := n_HB; clear n_HB; clear hb hbox hg; have hcz1_g1_0 : w1_.cell? ⟨g1, 0, none⟩ = some (.slice A0_0 l0_0.length c0_0) := (blk_cell Bg1.out 0).trans rfl; have hfz1_g1_0 := blk_frozen Bg1.out 0; have hcz1_g1_1 : w1_.cell? ⟨g1, 1, none⟩ = some (.slice A0_1 l0_1.length c0_1) := (blk_cell Bg1.out 1).trans rfl; have hfz1_g1_1 := blk_frozen Bg1.out 1) | (clear tk2; go_at_call 15; (with_reducible refine (laws_szProg.calls k _ _ l0_0 _ _ l0_1 1048576 z _ (Kd.C_below HR0_0.out HB.out) HC0_0.out (Kd.C_below HR0_1.out HB.out) HC0_1.out HSZ.out).mono ?_); rintro e w2_ ⟨rfl, hb⟩; (try clear hcz1_g1_0 hcz1_g1_1); (try clear hfz1_g1_0 hfz1_g1_1); have n_Bg1 := Aside0.mk (blk_b Bg1.out hb); have n_HB := Aside0.mk (below_step HB.out hb); have Zw2_ := Aside0.mk hb.size; clear Bg1; clear HB; have Bg1 := n_Bg1; have HB := n_HB; clear n_Bg1 n_HB; clear hb; have hcz2_g1_0 : w2_.cell? ⟨g1, 0, none⟩ = some (.slice A0_0 l0_0.length c0_0) := (blk_cell Bg1.out 0).trans rfl; have hfz2_g1_0 := blk_frozen Bg1.out 0; have hcz2_g1_1 : w2_.cell? ⟨g1, 1, none⟩ = some (.slice A0_1 l0_1.length c0_1) := (blk_cell Bg1.out 1).trans rfl; have hfz2_g1_1 := blk_frozen Bg1.out 1) | (clear tk3; go_at_call 17; (with_reducible refine (laws_toProg.calls k _ _ l0_0 _ _ l0_1 p1 p2 _ (Kd.C_below HR0_0.out HB.out) HC0_0.out (Kd.C_below HR0_1.out HB.out) HC0_1.out HTO.out).mono ?_); rintro e w3_ ⟨vT0, vT1, rfl, hT0, hT1, hb⟩; (try clear hcz2_g1_0 hcz2_g1_1); (try clear hfz2_g1_0 hfz2_g1_1); have n_Bg1 := Aside0.mk (blk_b Bg1.out hb); have T0 := Aside0.mk (OwnR.new hT0 HB.out.size); have T1 := Aside0.mk (Own.new hT1 HB.out.size); have n_HB := Aside0.mk (below_step HB.out hb); have Zw3_ := Aside0.mk hb.size; clear Bg1; clear HB; have Bg1 := n_Bg1; have HB := n_HB; clear n_Bg1 n_HB; clear hb; clear hT0; obtain ⟨AT0, cT0, eT0⟩ := OwnR.slice T0.out; subst eT0; clear hT1; obtain ⟨AT1, cT1, eT1⟩ := Own.slice T1.out; subst eT1; have hcz3_g1_0 : w3_.cell? ⟨g1, 0, none⟩ = some (.slice A0_0 l0_0.length c0_0) := (blk_cell Bg1.out 0).trans rfl; have hfz3_g1_0 := blk_frozen Bg1.out 0; have hcz3_g1_1 : w3_.cell? ⟨g1, 1, none⟩ = some (.slice A0_1 l0_1.length c0_1) := (blk_cell Bg1.out 1).trans rfl; have hfz3_g1_1 := blk_frozen Bg1.out 1) | (clear tk4; go_at_call 65; (with_reducible refine (spec_Starts.calls k _ _ p1 _ _ p2 a1 s _ (OwnR.reads T0.out).2.2 (OwnR.reads T0.out).2.1 (Own.reads T1.out).2.2 (Own.reads T1.out).2.1 HSP.out).mono ?_); rintro e w4_ ⟨vW0, rfl, hW0, hb⟩; (try clear hcz3_g1_0 hcz3_g1_1); (try clear hfz3_g1_0 hfz3_g1_1); have n_T0 := Aside0.mk (OwnR.below T0.out hb); have n_T1 := Aside0.mk (Own.below T1.out hb); have n_Bg1 := Aside0.mk (blk_b Bg1.out hb); have W0 := Aside0.mk (OwnR.new hW0 HB.out.size); have n_HB := Aside0.mk (below_step HB.out hb); have Zw4_ := Aside0.mk hb.size; clear T0; clear T1; clear Bg1; clear HB; have T0 := n_T0; have T1 := n_T1; have Bg1 := n_Bg1; have HB := n_HB; clear n_T0 n_T1 n_Bg1 n_HB; clear hb; clear hW0; obtain ⟨AW0, cW0, eW0⟩ := OwnR.slice W0.out; subst eW0; have hcz4_g1_0 : w4_.cell? ⟨g1, 0, none⟩ = some (.slice A0_0 l0_0.length c0_0) := (blk_cell Bg1.out 0).trans rfl; have hfz4_g1_0 := blk_frozen Bg1.out 0; have hcz4_g1_1 : w4_.cell? ⟨g1, 1, none⟩ = some (.slice A0_1 l0_1.length c0_1) := (blk_cell Bg1.out 1).trans rfl; have hfz4_g1_1 := blk_frozen Bg1.out 1) | (clear tk5; go_at_call 17; (with_reducible refine (laws_toProg.calls k _ _ l0_0 _ _ l0_1 p1 p2 _ (Kd.C_below HR0_0.out HB.out) HC0_0.out (Kd.C_below HR0_1.out HB.out) HC0_1.out HTO.out).mono ?_); rintro e w5_ ⟨vX0, vX1, rfl, hX0, hX1, hb⟩; (try clear hcz4_g1_0 hcz4_g1_1); (try clear hfz4_g1_0 hfz4_g1_1); have n_T0 := Aside0.mk (OwnR.below T0.out hb); have n_T1 := Aside0.mk (Own.below T1.out hb); have n_W0 := Aside0.mk (OwnR.below W0.out hb); have n_Bg1 := Aside0.mk (blk_b Bg1.out hb); have X0 := Aside0.mk (OwnR.new hX0 HB.out.size); have X1 := Aside0.mk (Own.new hX1 HB.out.size); have n_HB := Aside0.mk (below_step HB.out hb); have Zw5_ := Aside0.mk hb.size; clear T0; clear T1; clear W0; clear Bg1; clear HB; have T0 := n_T0; have T1 := n_T1; have W0 := n_W0; have Bg1 := n_Bg1; have HB := n_HB; clear n_T0 n_T1 n_W0 n_Bg1 n_HB; clear hb; clear hX0; obtain ⟨AX0, cX0, eX0⟩ := OwnR.slice X0.out; subst eX0; clear hX1; obtain ⟨AX1, cX1, eX1⟩ := Own.slice X1.out; subst eX1; have hcz5_g1_0 : w5_.cell? ⟨g1, 0, none⟩ = some (.slice A0_0 l0_0.length c0_0) := (blk_cell Bg1.out 0).trans rfl; have hfz5_g1_0 := blk_frozen Bg1.out 0; have hcz5_g1_1 : w5_.cell? ⟨g1, 1, none⟩ = some (.slice A0_1 l0_1.length c0_1) := (blk_cell Bg1.out 1).trans rfl; have hfz5_g1_1 := blk_frozen Bg1.out 1) | (clear tk6; (with_reducible refine gate_dst (N := 7) rfl ?_); refine box_event ?hg (N := 7) ?hd (cs := #[.slice none 0 0, .slice none 0 0]) (t := 30) ?hr ?_; (case hd => rfl); (case hg => rfl); (case hr => first | (go_simp; done) | (go_simp; rfl)); intro g2 hg w6_ hbox hb; (try clear hcz5_g1_0 hcz5_g1_1); (try clear hfz5_g1_0 hfz5_g1_1); have n_T0 := Aside0.mk (OwnR.below T0.out hb); have n_T1 := Aside0.mk (Own.below T1.out hb); have n_W0 := Aside0.mk (OwnR.below W0.out hb); have n_X0 := Aside0.mk (OwnR.below X0.out hb); have n_X1 := Aside0.mk (Own.below X1.out hb); have n_Bg1 := Aside0.mk (blk_b Bg1.out hb); have n_HB := Aside0.mk (below_step HB.out hb); have Zw6_ := Aside0.mk hb.size; have Gg2 := Aside0.mk (show w5_.heap.size ≤ g2 ∧ g2 < w6_.heap.size from ⟨Nat.le_of_eq hg.symm, blk_lt hbox⟩); have Bg2 := Aside0.mk hbox; clear T0; clear T1; clear W0; clear X0; clear X1; clear Bg1; clear HB; have T0 := n_T0; have T1 := n_T1; have W0 := n_W0; have X0 := n_X0; have X1 := n_X1; have Bg1 := n_Bg1; have HB := n_HB; clear n_T0 n_T1 n_W0 n_X0 n_X1 n_Bg1 n_HB; clear hb hbox hg; have hcz6_g1_0 : w6_.cell? ⟨g1, 0, none⟩ = some (.slice A0_0 l0_0.length c0_0) := (blk_cell Bg1.out 0).trans rfl; have hfz6_g1_0 := blk_frozen Bg1.out 0; have hcz6_g1_1 : w6_.cell? ⟨g1, 1, none⟩ = some (.slice A0_1 l0_1.length c0_1) := (blk_cell Bg1.out 1).trans rfl; have hfz6_g1_1 := blk_frozen Bg1.out 1; have hcz6_g2_0 : w6_.cell? ⟨g2, 0, none⟩ = some (.slice none 0 0) := (blk_cell Bg2.out 0).trans rfl; have hfz6_g2_0 := blk_frozen Bg2.out 0; have hcz6_g2_1 : w6_.cell? ⟨g2, 1, none⟩ = some (.slice none 0 0) := (blk_cell Bg2.out 1).trans rfl; have hfz6_g2_1 := blk_frozen Bg2.out 1) | (clear tk7; go_at_call 63; obtain ⟨w7_, hw⟩ : ∃ W_, W_ = ((w6_.setCell ⟨g2, 0, none⟩ (.slice AX0 p1.length cX0)).setCell ⟨g2, 1, none⟩ (.slice AX1 p2.length cX1)) := ⟨_, rfl⟩; rw [← hw]; (try clear hcz6_g1_0 hcz6_g1_1 hcz6_g2_0 hcz6_g2_1); (try clear hfz6_g1_0 hfz6_g1_1 hfz6_g2_0 hfz6_g2_1); have hK : Kept w6_ w7_ (fun k => k = g2) := (by first | (rw [hw]; exact set2_kept _ _ _ _) | rw [hw]); have n_Bg2 := Aside0.mk (show w7_.heap[g2]? = some (.cells #[.slice AX0 p1.length cX0, .slice AX1 p2.length cX1] 30 (0, 0)) by first | (rw [hw]; exact set2_blk Bg2.out _ _) | rw [hw]); have n_HB := Aside0.mk (show Below w.heap.size w w7_ by first | (rw [hw]; exact set2_below HB.out (by have := Zw1_.out; have := Zw2_.out; have := Zw3_.out; have := Zw4_.out; have := Zw5_.out; have := Zw6_.out; have := Gg1.out; have := Gg2.out; omega) _ _) | rw [hw]); have n_T0 := Aside0.mk (OwnR.kept T0.out hK (fun k h1 h2 h3 => by have := Zw1_.out; have := Zw2_.out; have := Zw3_.out; have := Zw4_.out; have := Zw5_.out; have := Zw6_.out; have := Gg1.out; have := Gg2.out; omega)); have n_T1 := Aside0.mk (Own.kept T1.out hK (fun k h1 h2 h3 => by have := Zw1_.out; have := Zw2_.out; have := Zw3_.out; have := Zw4_.out; have := Zw5_.out; have := Zw6_.out; have := Gg1.out; have := Gg2.out; omega)); have n_W0 := Aside0.mk (OwnR.kept W0.out hK (fun k h1 h2 h3 => by have := Zw1_.out; have := Zw2_.out; have := Zw3_.out; have := Zw4_.out; have := Zw5_.out; have := Zw6_.out; have := Gg1.out; have := Gg2.out; omega)); have n_X0 := Aside0.mk (OwnR.kept X0.out hK (fun k h1 h2 h3 => by have := Zw1_.out; have := Zw2_.out; have := Zw3_.out; have := Zw4_.out; have := Zw5_.out; have := Zw6_.out; have := Gg1.out; have := Gg2.out; omega)); have n_X1 := Aside0.mk (Own.kept X1.out hK (fun k h1 h2 h3 => by have := Zw1_.out; have := Zw2_.out; have := Zw3_.out; have := Zw4_.out; have := Zw5_.out; have := Zw6_.out; have := Gg1.out; have := Gg2.out; omega)); have n_Bg1 := Aside0.mk (blk_k Bg1.out hK (fun h3 => by have := Zw1_.out; have := Zw2_.out; have := Zw3_.out; have := Zw4_.out; have := Zw5_.out; have := Zw6_.out; have := Gg1.out; have := Gg2.out; omega)); have Zw7_ := Aside0.mk hK.1; clear T0; clear T1; clear W0; clear X0; clear X1; clear Bg1; clear Bg2; clear HB; have T0 := n_T0; have T1 := n_T1; have W0 := n_W0; have X0 := n_X0; have X1 := n_X1; have Bg1 := n_Bg1; have Bg2 := n_Bg2; have HB := n_HB; clear n_T0 n_T1 n_W0 n_X0 n_X1 n_Bg1 n_Bg2 n_HB; clear hK hw; have hcz7_g1_0 : w7_.cell? ⟨g1, 0, none⟩ = some (.slice A0_0 l0_0.length c0_0) := (blk_cell Bg1.out 0).trans rfl; have hfz7_g1_0 := blk_frozen Bg1.out 0; have hcz7_g1_1 : w7_.cell? ⟨g1, 1, none⟩ = some (.slice A0_1 l0_1.length c0_1) := (blk_cell Bg1.out 1).trans rfl; have hfz7_g1_1 := blk_frozen Bg1.out 1; have hcz7_g2_0 : w7_.cell? ⟨g2, 0, none⟩ = some (.slice AX0 p1.length cX0) := (blk_cell Bg2.out 0).trans rfl; have hfz7_g2_0 := blk_frozen Bg2.out 0; have hcz7_g2_1 : w7_.cell? ⟨g2, 1, none⟩ = some (.slice AX1 p2.length cX1) := (blk_cell Bg2.out 1).trans rfl; have hfz7_g2_1 := blk_frozen Bg2.out 1; (with_reducible refine (impl_Starts.calls k _ _ p1 _ _ p2 a1 g _ (OwnR.reads X0.out).2.2 (OwnR.reads X0.out).2.1 (Own.reads X1.out).2.2 (Own.reads X1.out).2.1 HIM.out).mono ?_); rintro e w8_ ⟨vG0, rfl, hG0, hb⟩; (try clear hcz7_g1_0 hcz7_g1_1 hcz7_g2_0 hcz7_g2_1); (try clear hfz7_g1_0 hfz7_g1_1 hfz7_g2_0 hfz7_g2_1); have n_T0 := Aside0.mk (OwnR.below T0.out hb); have n_T1 := Aside0.mk (Own.below T1.out hb); have n_W0 := Aside0.mk (OwnR.below W0.out hb); have n_X0 := Aside0.mk (OwnR.below X0.out hb); have n_X1 := Aside0.mk (Own.below X1.out hb); have n_Bg1 := Aside0.mk (blk_b Bg1.out hb); have n_Bg2 := Aside0.mk (blk_b Bg2.out hb); have G0 := Aside0.mk (OwnR.new hG0 HB.out.size); have n_HB := Aside0.mk (below_step HB.out hb); have Zw8_ := Aside0.mk hb.size; clear T0; clear T1; clear W0; clear X0; clear X1; clear Bg1; clear Bg2; clear HB; have T0 := n_T0; have T1 := n_T1; have W0 := n_W0; have X0 := n_X0; have X1 := n_X1; have Bg1 := n_Bg1; have Bg2 := n_Bg2; have HB := n_HB; clear n_T0 n_T1 n_W0 n_X0 n_X1 n_Bg1 n_Bg2 n_HB; clear hb; clear hG0; obtain ⟨AG0, cG0, eG0⟩ := OwnR.slice G0.out; subst eG0; have hcz8_g1_0 : w8_.cell? ⟨g1, 0, none⟩ = some (.slice A0_0 l0_0.length c0_0) := (blk_cell Bg1.out 0).trans rfl; have hfz8_g1_0 := blk_frozen Bg1.out 0; have hcz8_g1_1 : w8_.cell? ⟨g1, 1, none⟩ = some (.slice A0_1 l0_1.length c0_1) := (blk_cell Bg1.out 1).trans rfl; have hfz8_g1_1 := blk_frozen Bg1.out 1; have hcz8_g2_0 : w8_.cell? ⟨g2, 0, none⟩ = some (.slice AX0 p1.length cX0) := (blk_cell Bg2.out 0).trans rfl; have hfz8_g2_0 := blk_frozen Bg2.out 0; have hcz8_g2_1 : w8_.cell? ⟨g2, 1, none⟩ = some (.slice AX1 p2.length cX1) := (blk_cell Bg2.out 1).trans rfl; have hfz8_g2_1 := blk_frozen Bg2.out 1) | (clear tk8; go_at_call 38; (with_reducible refine (laws_eqIntS.calls k _ _ g _ _ s true _ (OwnR.reads G0.out).2.2 (OwnR.reads G0.out).2.1 (OwnR.reads W0.out).2.2 (OwnR.reads W0.out).2.1 HEE.out).mono ?_); rintro e w9_ ⟨rfl, hd⟩; have hb := drawn_below hd; clear hd; (try clear hcz8_g1_0 hcz8_g1_1 hcz8_g2_0 hcz8_g2_1); (try clear hfz8_g1_0 hfz8_g1_1 hfz8_g2_0 hfz8_g2_1); have n_T0 := Aside0.mk (OwnR.below T0.out hb); have n_T1 := Aside0.mk (Own.below T1.out hb); have n_W0 := Aside0.mk (OwnR.below W0.out hb); have n_X0 := Aside0.mk (OwnR.below X0.out hb); have n_X1 := Aside0.mk (Own.below X1.out hb); have n_G0 := Aside0.mk (OwnR.below G0.out hb); have n_Bg1 := Aside0.mk (blk_b Bg1.out hb); have n_Bg2 := Aside0.mk (blk_b Bg2.out hb); have n_HB := Aside0.mk (below_step HB.out hb); have Zw9_ := Aside0.mk hb.size; clear T0; clear T1; clear W0; clear X0; clear X1; clear G0; clear Bg1; clear Bg2; clear HB; have T0 := n_T0; have T1 := n_T1; have W0 := n_W0; have X0 := n_X0; have X1 := n_X1; have G0 := n_G0; have Bg1 := n_Bg1; have Bg2 := n_Bg2; have HB := n_HB; clear n_T0 n_T1 n_W0 n_X0 n_X1 n_G0 n_Bg1 n_Bg2 n_HB; clear hb; have hcz9_g1_0 : w9_.cell? ⟨g1, 0, none⟩ = some (.slice A0_0 l0_0.length c0_0) := (blk_cell Bg1.out 0).trans rfl; have hfz9_g1_0 := blk_frozen Bg1.out 0; have hcz9_g1_1 : w9_.cell? ⟨g1, 1, none⟩ = some (.slice A0_1 l0_1.length c0_1) := (blk_cell Bg1.out 1).trans rfl; have hfz9_g1_1 := blk_frozen Bg1.out 1; have hcz9_g2_0 : w9_.cell? ⟨g2, 0, none⟩ = some (.slice AX0 p1.length cX0) := (blk_cell Bg2.out 0).trans rfl; have hfz9_g2_0 := blk_frozen Bg2.out 0; have hcz9_g2_1 : w9_.cell? ⟨g2, 1, none⟩ = some (.slice AX1 p2.length cX1) := (blk_cell Bg2.out 1).trans rfl; have hfz9_g2_1 := blk_frozen Bg2.out 1))
  clear T0 T1
  (try simp only [Act.put, List.setIfInBounds_toArray, List.set_cons_zero, List.set_cons_succ])
  have hb := drew_below w9_
  have n_W0 := Aside0.mk (OwnR.below W0.out hb)
  have n_X0 := Aside0.mk (OwnR.below X0.out hb)
  have n_X1 := Aside0.mk (Own.below X1.out hb)
  have n_G0 := Aside0.mk (OwnR.below G0.out hb)
  have n_Bg1 := Aside0.mk (blk_b Bg1.out hb)
  have n_Bg2 := Aside0.mk (blk_b Bg2.out hb)
  have n_HB := Aside0.mk (below_step HB.out hb)
  have hz := Aside0.mk hb.size
  (try clear hcz9_g1_0 hcz9_g1_1 hcz9_g2_0 hcz9_g2_1)
  (try clear hfz9_g1_0 hfz9_g1_1 hfz9_g2_0 hfz9_g2_1)
  clear W0
  clear X0
  clear X1
  clear G0
  clear Bg1
  clear Bg2
  clear HB
  have W0 := n_W0
  have X0 := n_X0
  have X1 := n_X1
  have G0 := n_G0
  have Bg1 := n_Bg1
  have Bg2 := n_Bg2
  have HB := n_HB
  clear n_W0 n_X0 n_X1 n_G0 n_Bg1 n_Bg2 n_HB
  clear hb
  refine start_ (n := 5) (S := fun w' => w'.cell? ⟨g1, 0, none⟩ = some (.slice A0_0 l0_0.length c0_0) ∧ w'.cell? ⟨g1, 1, none⟩ = some (.slice A0_1 l0_1.length c0_1) ∧ w'.cell? ⟨g2, 0, none⟩ = some (.slice AX0 p1.length cX0) ∧ w'.cell? ⟨g2, 1, none⟩ = some (.slice AX1 p2.length cX1)) (ds := []) #[false, false, false, false, false] (by kernel_rfl) rfl rfl ⟨(blk_cell Bg1.out 0).trans rfl, (blk_cell Bg1.out 1).trans rfl, (blk_cell Bg2.out 0).trans rfl, (blk_cell Bg2.out 1).trans rfl⟩ (fun hHeld => ?_)
  generalize w9_.drew = w10_ at W0 X0 X1 G0 Bg1 Bg2 HB hz hHeld ⊢
  have Zw10_ := hz
  clear hz
  refine take_ (i := 0) (N := some 31) (v := ?_) (a' := ?_) #[true, false, false, false, false] rfl rfl (by kernel_rfl) (fun _ _ _ h => h) (Or.inl ⟨by rfl, ?_⟩) hHeld ?_ ?_
  rotate_left
  · rintro w' ⟨s0, s1, s2, s3⟩
    go_simp
    with_reducible rfl
  rotate_left
  · simp only [Act.put, List.setIfInBounds_toArray, List.set_cons_zero, List.set_cons_succ, i64_w, i32_w]
    rfl
  refine take_ (i := 1) (N := some 32) (v := ?_) (a' := ?_) #[true, true, false, false, false] rfl rfl (by kernel_rfl) (fun _ _ _ h => h) (Or.inl ⟨by rfl, ?_⟩) hHeld ?_ ?_
  rotate_left
  · rintro w' ⟨s0, s1, s2, s3⟩
    go_simp
    with_reducible rfl
  rotate_left
  · simp only [Act.put, List.setIfInBounds_toArray, List.set_cons_zero, List.set_cons_succ, i64_w, i32_w]
    rfl
  refine one_ (i := 2) (N := some 33) #[true, true, true, false, false] rfl rfl (by kernel_rfl) (by decide) (fun K hK => ?_)
  refine goes_ Try.func17 (by kernel_rfl) rfl #[.agg #[.slice A0_0 l0_0.length c0_0, .slice A0_1 l0_1.length c0_1]] (by rfl) rfl rfl (by (try simp only [List.map_toArray, List.map_cons, List.map_nil]); first | done | rfl | (simp only [List.length_drop, List.length_take]; rfl)) ?_
  with_reducible refine (laws_toProg.calls k _ _ l0_0 _ _ l0_1 p1 p2 _ (Kd.C_below HR0_0.out HB.out) HC0_0.out (Kd.C_below HR0_1.out HB.out) HC0_1.out HTO.out).mono ?_
  rintro e w11_ ⟨vY0, vY1, rfl, hY0, hY1, hb⟩
  refine ⟨_, rfl, ?_⟩
  (try clear hcz9_g1_0 hcz9_g1_1 hcz9_g2_0 hcz9_g2_1)
  (try clear hfz9_g1_0 hfz9_g1_1 hfz9_g2_0 hfz9_g2_1)
  have n_W0 := Aside0.mk (OwnR.below W0.out hb)
  have n_X0 := Aside0.mk (OwnR.below X0.out hb)
  have n_X1 := Aside0.mk (Own.below X1.out hb)
  have n_G0 := Aside0.mk (OwnR.below G0.out hb)
  have n_Bg1 := Aside0.mk (blk_b Bg1.out hb)
  have n_Bg2 := Aside0.mk (blk_b Bg2.out hb)
  have Y0 := Aside0.mk (OwnR.new hY0 HB.out.size)
  have Y1 := Aside0.mk (Own.new hY1 HB.out.size)
  have n_HB := Aside0.mk (below_step HB.out hb)
  have Zw11_ := Aside0.mk hb.size
  clear W0
  clear X0
  clear X1
  clear G0
  clear Bg1
  clear Bg2
  clear HB
  have W0 := n_W0
  have X0 := n_X0
  have X1 := n_X1
  have G0 := n_G0
  have Bg1 := n_Bg1
  have Bg2 := n_Bg2
  have HB := n_HB
  clear n_W0 n_X0 n_X1 n_G0 n_Bg1 n_Bg2 n_HB
  clear hb
  clear hY0
  obtain ⟨AY0, cY0, eY0⟩ := OwnR.slice Y0.out
  subst eY0
  clear hY1
  obtain ⟨AY1, cY1, eY1⟩ := Own.slice Y1.out
  subst eY1
  have hcz10_g1_0 : w11_.cell? ⟨g1, 0, none⟩ = some (.slice A0_0 l0_0.length c0_0) := (blk_cell Bg1.out 0).trans rfl
  have hfz10_g1_0 := blk_frozen Bg1.out 0
  have hcz10_g1_1 : w11_.cell? ⟨g1, 1, none⟩ = some (.slice A0_1 l0_1.length c0_1) := (blk_cell Bg1.out 1).trans rfl
  have hfz10_g1_1 := blk_frozen Bg1.out 1
  have hcz10_g2_0 : w11_.cell? ⟨g2, 0, none⟩ = some (.slice AX0 p1.length cX0) := (blk_cell Bg2.out 0).trans rfl
  have hfz10_g2_0 := blk_frozen Bg2.out 0
  have hcz10_g2_1 : w11_.cell? ⟨g2, 1, none⟩ = some (.slice AX1 p2.length cX1) := (blk_cell Bg2.out 1).trans rfl
  have hfz10_g2_1 := blk_frozen Bg2.out 1
  refine hK.out _ _ ⟨(blk_cell Bg1.out 0).trans rfl, (blk_cell Bg1.out 1).trans rfl, (blk_cell Bg2.out 0).trans rfl, (blk_cell Bg2.out 1).trans rfl⟩ (fun hHeld => ?_)
  clear hK K
  refine norm_ (a' := ?_) ?_ ?_
  rotate_left
  · show Act.put _ (some 33) _ = _
    simp only [Act.put, List.setIfInBounds_toArray, List.set_cons_zero, List.set_cons_succ, i64_w, i32_w]
    rfl
  refine one_ (i := 3) (N := some 34) #[true, true, true, true, false] rfl rfl (by kernel_rfl) (by decide) (fun K hK => ?_)
  refine goes_ Try.func19 (by kernel_rfl) rfl #[.agg #[.slice AX0 p1.length cX0, .slice AX1 p2.length cX1], .agg #[.slice AY0 p1.length cY0, .slice AY1 p2.length cY1]] (by rfl) rfl rfl (by (try simp only [List.map_toArray, List.map_cons, List.map_nil]); first | done | rfl | (simp only [List.length_drop, List.length_take]; rfl)) ?_
  with_reducible refine (laws_eqProg.calls k _ _ p1 _ _ p2 _ _ p1 _ _ p2 true _ (OwnR.reads X0.out).2.2 (OwnR.reads X0.out).2.1 (Own.reads X1.out).2.2 (Own.reads X1.out).2.1 (OwnR.reads Y0.out).2.2 (OwnR.reads Y0.out).2.1 (Own.reads Y1.out).2.2 (Own.reads Y1.out).2.1 HEP.out).mono ?_
  rintro e w12_ ⟨rfl, hb⟩
  refine ⟨_, rfl, ?_⟩
  (try clear hcz10_g1_0 hcz10_g1_1 hcz10_g2_0 hcz10_g2_1)
  (try clear hfz10_g1_0 hfz10_g1_1 hfz10_g2_0 hfz10_g2_1)
  have n_W0 := Aside0.mk (OwnR.below W0.out hb)
  have n_X0 := Aside0.mk (OwnR.below X0.out hb)
  have n_X1 := Aside0.mk (Own.below X1.out hb)
  have n_G0 := Aside0.mk (OwnR.below G0.out hb)
  have n_Y0 := Aside0.mk (OwnR.below Y0.out hb)
  have n_Y1 := Aside0.mk (Own.below Y1.out hb)
  have n_Bg1 := Aside0.mk (blk_b Bg1.out hb)
  have n_Bg2 := Aside0.mk (blk_b Bg2.out hb)
  have n_HB := Aside0.mk (below_step HB.out hb)
  have Zw12_ := Aside0.mk hb.size
  clear W0
  clear X0
  clear X1
  clear G0
  clear Y0
  clear Y1
  clear Bg1
  clear Bg2
  clear HB
  have W0 := n_W0
  have X0 := n_X0
  have X1 := n_X1
  have G0 := n_G0
  have Y0 := n_Y0
  have Y1 := n_Y1
  have Bg1 := n_Bg1
  have Bg2 := n_Bg2
  have HB := n_HB
  clear n_W0 n_X0 n_X1 n_G0 n_Y0 n_Y1 n_Bg1 n_Bg2 n_HB
  clear hb
  have hcz11_g1_0 : w12_.cell? ⟨g1, 0, none⟩ = some (.slice A0_0 l0_0.length c0_0) := (blk_cell Bg1.out 0).trans rfl
  have hfz11_g1_0 := blk_frozen Bg1.out 0
  have hcz11_g1_1 : w12_.cell? ⟨g1, 1, none⟩ = some (.slice A0_1 l0_1.length c0_1) := (blk_cell Bg1.out 1).trans rfl
  have hfz11_g1_1 := blk_frozen Bg1.out 1
  have hcz11_g2_0 : w12_.cell? ⟨g2, 0, none⟩ = some (.slice AX0 p1.length cX0) := (blk_cell Bg2.out 0).trans rfl
  have hfz11_g2_0 := blk_frozen Bg2.out 0
  have hcz11_g2_1 : w12_.cell? ⟨g2, 1, none⟩ = some (.slice AX1 p2.length cX1) := (blk_cell Bg2.out 1).trans rfl
  have hfz11_g2_1 := blk_frozen Bg2.out 1
  refine hK.out _ _ ⟨(blk_cell Bg1.out 0).trans rfl, (blk_cell Bg1.out 1).trans rfl, (blk_cell Bg2.out 0).trans rfl, (blk_cell Bg2.out 1).trans rfl⟩ (fun hHeld => ?_)
  clear hK K
  refine norm_ (a' := ?_) ?_ ?_
  rotate_left
  · show Act.put _ (some 34) _ = _
    simp only [Act.put, List.setIfInBounds_toArray, List.set_cons_zero, List.set_cons_succ, i64_w, i32_w]
    rfl
  refine pure_ (i := 4) (N := some 35) (v := ?_) (a' := ?_) #[true, true, true, true, true] rfl rfl (by kernel_rfl) (fun _ _ _ h => h) (Or.inl ⟨by rfl, ?_⟩) ?_ ?_
  rotate_left
  · intro w'
    go_simp
    with_reducible rfl
  rotate_left
  · simp only [Act.put, List.setIfInBounds_toArray, List.set_cons_zero, List.set_cons_succ, i64_w, i32_w]
    rfl
  refine done_ (by kernel_rfl) ?_
  clear Y0 Y1
  go_wp2_with (first | (clear tk9; go_at_call 40; (with_reducible refine (laws_markProg.calls k (w4_.heap.size) (w5_.heap.size) (.slice AX0 p1.length cX0) (.slice AX1 p2.length cX1) p1 p2 1 kk q1 q2 w _ HB.out (by have := Zw1_.out; have := Zw2_.out; have := Zw3_.out; have := Zw4_.out; have := Zw5_.out; have := Zw6_.out; have := Zw7_.out; have := Zw8_.out; have := Zw9_.out; have := Zw10_.out; have := Zw11_.out; have := Zw12_.out; omega) (by have := Zw1_.out; have := Zw2_.out; have := Zw3_.out; have := Zw4_.out; have := Zw5_.out; have := Zw6_.out; have := Zw7_.out; have := Zw8_.out; have := Zw9_.out; have := Zw10_.out; have := Zw11_.out; have := Zw12_.out; omega) X0.out X1.out HMP.out).mono ?_); rintro e w13_ ⟨rfl, hX0, hX1, hB, hK⟩; (try clear hcz11_g1_0 hcz11_g1_1 hcz11_g2_0 hcz11_g2_1); (try clear hfz11_g1_0 hfz11_g1_1 hfz11_g2_0 hfz11_g2_1); have n_W0 := Aside0.mk (OwnR.kept W0.out hK (fun k h1 h2 h3 => by have := Zw1_.out; have := Zw2_.out; have := Zw3_.out; have := Zw4_.out; have := Zw5_.out; have := Zw6_.out; have := Zw7_.out; have := Zw8_.out; have := Zw9_.out; have := Zw10_.out; have := Zw11_.out; have := Zw12_.out; have := Gg1.out; have := Gg2.out; omega)); have n_G0 := Aside0.mk (OwnR.kept G0.out hK (fun k h1 h2 h3 => by have := Zw1_.out; have := Zw2_.out; have := Zw3_.out; have := Zw4_.out; have := Zw5_.out; have := Zw6_.out; have := Zw7_.out; have := Zw8_.out; have := Zw9_.out; have := Zw10_.out; have := Zw11_.out; have := Zw12_.out; have := Gg1.out; have := Gg2.out; omega)); have n_Bg1 := Aside0.mk (blk_k Bg1.out hK (fun h3 => by have := Zw1_.out; have := Zw2_.out; have := Zw3_.out; have := Zw4_.out; have := Zw5_.out; have := Zw6_.out; have := Zw7_.out; have := Zw8_.out; have := Zw9_.out; have := Zw10_.out; have := Zw11_.out; have := Zw12_.out; have := Gg1.out; have := Gg2.out; omega)); have n_Bg2 := Aside0.mk (blk_k Bg2.out hK (fun h3 => by have := Zw1_.out; have := Zw2_.out; have := Zw3_.out; have := Zw4_.out; have := Zw5_.out; have := Zw6_.out; have := Zw7_.out; have := Zw8_.out; have := Zw9_.out; have := Zw10_.out; have := Zw11_.out; have := Zw12_.out; have := Gg1.out; have := Gg2.out; omega)); have n_X0 := Aside0.mk (OwnR.mark hX0 (by have := Zw1_.out; have := Zw2_.out; have := Zw3_.out; have := Zw4_.out; have := Zw5_.out; have := Zw6_.out; have := Zw7_.out; have := Zw8_.out; have := Zw9_.out; have := Zw10_.out; have := Zw11_.out; have := Zw12_.out; omega)); have n_X1 := Aside0.mk (Own.mark hX1 (by have := Zw1_.out; have := Zw2_.out; have := Zw3_.out; have := Zw4_.out; have := Zw5_.out; have := Zw6_.out; have := Zw7_.out; have := Zw8_.out; have := Zw9_.out; have := Zw10_.out; have := Zw11_.out; have := Zw12_.out; omega)); have n_HB := Aside0.mk hB; have Zw13_ := Aside0.mk hK.1; clear W0; clear G0; clear Bg1; clear Bg2; clear X0; clear X1; clear HB; have W0 := n_W0; have G0 := n_G0; have Bg1 := n_Bg1; have Bg2 := n_Bg2; have X0 := n_X0; have X1 := n_X1; have HB := n_HB; clear n_W0 n_G0 n_Bg1 n_Bg2 n_X0 n_X1 n_HB; clear hB hK hX0 hX1; have hcz12_g1_0 : w13_.cell? ⟨g1, 0, none⟩ = some (.slice A0_0 l0_0.length c0_0) := (blk_cell Bg1.out 0).trans rfl; have hfz12_g1_0 := blk_frozen Bg1.out 0; have hcz12_g1_1 : w13_.cell? ⟨g1, 1, none⟩ = some (.slice A0_1 l0_1.length c0_1) := (blk_cell Bg1.out 1).trans rfl; have hfz12_g1_1 := blk_frozen Bg1.out 1; have hcz12_g2_0 : w13_.cell? ⟨g2, 0, none⟩ = some (.slice AX0 p1.length cX0) := (blk_cell Bg2.out 0).trans rfl; have hfz12_g2_0 := blk_frozen Bg2.out 0; have hcz12_g2_1 : w13_.cell? ⟨g2, 1, none⟩ = some (.slice AX1 p2.length cX1) := (blk_cell Bg2.out 1).trans rfl; have hfz12_g2_1 := blk_frozen Bg2.out 1; clear X0 X1) | (clear tk10; go_at_call 38; (with_reducible refine (laws_eqIntS.calls k _ _ g _ _ s true _ (OwnR.reads G0.out).2.2 (OwnR.reads G0.out).2.1 (OwnR.reads W0.out).2.2 (OwnR.reads W0.out).2.1 HEE.out).mono ?_); rintro e w14_ ⟨rfl, hd⟩; have hb := drawn_below hd; clear hd; (try clear hcz12_g1_0 hcz12_g1_1 hcz12_g2_0 hcz12_g2_1); (try clear hfz12_g1_0 hfz12_g1_1 hfz12_g2_0 hfz12_g2_1); have n_W0 := Aside0.mk (OwnR.below W0.out hb); have n_G0 := Aside0.mk (OwnR.below G0.out hb); have n_Bg1 := Aside0.mk (blk_b Bg1.out hb); have n_Bg2 := Aside0.mk (blk_b Bg2.out hb); have n_HB := Aside0.mk (below_step HB.out hb); have Zw14_ := Aside0.mk hb.size; clear W0; clear G0; clear Bg1; clear Bg2; clear HB; have W0 := n_W0; have G0 := n_G0; have Bg1 := n_Bg1; have Bg2 := n_Bg2; have HB := n_HB; clear n_W0 n_G0 n_Bg1 n_Bg2 n_HB; clear hb; have hcz13_g1_0 : w14_.cell? ⟨g1, 0, none⟩ = some (.slice A0_0 l0_0.length c0_0) := (blk_cell Bg1.out 0).trans rfl; have hfz13_g1_0 := blk_frozen Bg1.out 0; have hcz13_g1_1 : w14_.cell? ⟨g1, 1, none⟩ = some (.slice A0_1 l0_1.length c0_1) := (blk_cell Bg1.out 1).trans rfl; have hfz13_g1_1 := blk_frozen Bg1.out 1; have hcz13_g2_0 : w14_.cell? ⟨g2, 0, none⟩ = some (.slice AX0 p1.length cX0) := (blk_cell Bg2.out 0).trans rfl; have hfz13_g2_0 := blk_frozen Bg2.out 0; have hcz13_g2_1 : w14_.cell? ⟨g2, 1, none⟩ = some (.slice AX1 p2.length cX1) := (blk_cell Bg2.out 1).trans rfl; have hfz13_g2_1 := blk_frozen Bg2.out 1) | (clear tk11; go_at_call 39; (with_reducible refine (laws_markIntS.calls k (fun k => w7_.heap.size ≤ k ∧ k < w8_.heap.size) (.slice AG0 g.length cG0) g 1 m g' w _ HB.out (OwnR.R G0.out) HMI.out).mono ?_); rintro e w15_ ⟨rfl, hG0, hB, hK⟩; (try clear hcz13_g1_0 hcz13_g1_1 hcz13_g2_0 hcz13_g2_1); (try clear hfz13_g1_0 hfz13_g1_1 hfz13_g2_0 hfz13_g2_1); have n_W0 := Aside0.mk (OwnR.kept W0.out hK (fun k h1 h2 h3 => by have := Zw1_.out; have := Zw2_.out; have := Zw3_.out; have := Zw4_.out; have := Zw5_.out; have := Zw6_.out; have := Zw7_.out; have := Zw8_.out; have := Zw9_.out; have := Zw10_.out; have := Zw11_.out; have := Zw12_.out; have := Zw13_.out; have := Zw14_.out; have := Gg1.out; have := Gg2.out; omega)); have n_Bg1 := Aside0.mk (blk_k Bg1.out hK (fun h3 => by have := Zw1_.out; have := Zw2_.out; have := Zw3_.out; have := Zw4_.out; have := Zw5_.out; have := Zw6_.out; have := Zw7_.out; have := Zw8_.out; have := Zw9_.out; have := Zw10_.out; have := Zw11_.out; have := Zw12_.out; have := Zw13_.out; have := Zw14_.out; have := Gg1.out; have := Gg2.out; omega)); have n_Bg2 := Aside0.mk (blk_k Bg2.out hK (fun h3 => by have := Zw1_.out; have := Zw2_.out; have := Zw3_.out; have := Zw4_.out; have := Zw5_.out; have := Zw6_.out; have := Zw7_.out; have := Zw8_.out; have := Zw9_.out; have := Zw10_.out; have := Zw11_.out; have := Zw12_.out; have := Zw13_.out; have := Zw14_.out; have := Gg1.out; have := Gg2.out; omega)); have n_G0 := Aside0.mk (OwnR.mark hG0 (by have := Zw1_.out; have := Zw2_.out; have := Zw3_.out; have := Zw4_.out; have := Zw5_.out; have := Zw6_.out; have := Zw7_.out; have := Zw8_.out; have := Zw9_.out; have := Zw10_.out; have := Zw11_.out; have := Zw12_.out; have := Zw13_.out; have := Zw14_.out; omega)); have n_HB := Aside0.mk hB; have Zw15_ := Aside0.mk hK.1; clear W0; clear Bg1; clear Bg2; clear G0; clear HB; have W0 := n_W0; have Bg1 := n_Bg1; have Bg2 := n_Bg2; have G0 := n_G0; have HB := n_HB; clear n_W0 n_Bg1 n_Bg2 n_G0 n_HB; clear hB hK hG0; have hcz14_g1_0 : w15_.cell? ⟨g1, 0, none⟩ = some (.slice A0_0 l0_0.length c0_0) := (blk_cell Bg1.out 0).trans rfl; have hfz14_g1_0 := blk_frozen Bg1.out 0; have hcz14_g1_1 : w15_.cell? ⟨g1, 1, none⟩ = some (.slice A0_1 l0_1.length c0_1) := (blk_cell Bg1.out 1).trans rfl; have hfz14_g1_1 := blk_frozen Bg1.out 1; have hcz14_g2_0 : w15_.cell? ⟨g2, 0, none⟩ = some (.slice AX0 p1.length cX0) := (blk_cell Bg2.out 0).trans rfl; have hfz14_g2_0 := blk_frozen Bg2.out 0; have hcz14_g2_1 : w15_.cell? ⟨g2, 1, none⟩ = some (.slice AX1 p2.length cX1) := (blk_cell Bg2.out 1).trans rfl; have hfz14_g2_1 := blk_frozen Bg2.out 1) | (clear tk12; go_at_call 66; (with_reducible refine (held_ k _ _ _ g' 1 m _ (OwnR.reads G0.out) HHE.out).mono ?_); rintro e w16_ ⟨rfl, hd⟩; have hb := drawn_below hd; clear hd; (try clear hcz14_g1_0 hcz14_g1_1 hcz14_g2_0 hcz14_g2_1); (try clear hfz14_g1_0 hfz14_g1_1 hfz14_g2_0 hfz14_g2_1); have n_W0 := Aside0.mk (OwnR.below W0.out hb); have n_G0 := Aside0.mk (OwnR.below G0.out hb); have n_Bg1 := Aside0.mk (blk_b Bg1.out hb); have n_Bg2 := Aside0.mk (blk_b Bg2.out hb); have n_HB := Aside0.mk (below_step HB.out hb); have Zw16_ := Aside0.mk hb.size; clear W0; clear G0; clear Bg1; clear Bg2; clear HB; have W0 := n_W0; have G0 := n_G0; have Bg1 := n_Bg1; have Bg2 := n_Bg2; have HB := n_HB; clear n_W0 n_G0 n_Bg1 n_Bg2 n_HB; clear hb; have hcz15_g1_0 : w16_.cell? ⟨g1, 0, none⟩ = some (.slice A0_0 l0_0.length c0_0) := (blk_cell Bg1.out 0).trans rfl; have hfz15_g1_0 := blk_frozen Bg1.out 0; have hcz15_g1_1 : w16_.cell? ⟨g1, 1, none⟩ = some (.slice A0_1 l0_1.length c0_1) := (blk_cell Bg1.out 1).trans rfl; have hfz15_g1_1 := blk_frozen Bg1.out 1; have hcz15_g2_0 : w16_.cell? ⟨g2, 0, none⟩ = some (.slice AX0 p1.length cX0) := (blk_cell Bg2.out 0).trans rfl; have hfz15_g2_0 := blk_frozen Bg2.out 0; have hcz15_g2_1 : w16_.cell? ⟨g2, 1, none⟩ = some (.slice AX1 p2.length cX1) := (blk_cell Bg2.out 1).trans rfl; have hfz15_g2_1 := blk_frozen Bg2.out 1) | (clear tk13; go_at_call 17; (with_reducible refine (laws_toProg.calls k _ _ l0_0 _ _ l0_1 p1 p2 _ (Kd.C_below HR0_0.out HB.out) HC0_0.out (Kd.C_below HR0_1.out HB.out) HC0_1.out HTO.out).mono ?_); rintro e w17_ ⟨vV0, vV1, rfl, hV0, hV1, hb⟩; (try clear hcz15_g1_0 hcz15_g1_1 hcz15_g2_0 hcz15_g2_1); (try clear hfz15_g1_0 hfz15_g1_1 hfz15_g2_0 hfz15_g2_1); have n_W0 := Aside0.mk (OwnR.below W0.out hb); have n_G0 := Aside0.mk (OwnR.below G0.out hb); have n_Bg1 := Aside0.mk (blk_b Bg1.out hb); have n_Bg2 := Aside0.mk (blk_b Bg2.out hb); have V0 := Aside0.mk (OwnR.new hV0 HB.out.size); have V1 := Aside0.mk (Own.new hV1 HB.out.size); have n_HB := Aside0.mk (below_step HB.out hb); have Zw17_ := Aside0.mk hb.size; clear W0; clear G0; clear Bg1; clear Bg2; clear HB; have W0 := n_W0; have G0 := n_G0; have Bg1 := n_Bg1; have Bg2 := n_Bg2; have HB := n_HB; clear n_W0 n_G0 n_Bg1 n_Bg2 n_HB; clear hb; clear hV0; obtain ⟨AV0, cV0, eV0⟩ := OwnR.slice V0.out; subst eV0; clear hV1; obtain ⟨AV1, cV1, eV1⟩ := Own.slice V1.out; subst eV1; have hcz16_g1_0 : w17_.cell? ⟨g1, 0, none⟩ = some (.slice A0_0 l0_0.length c0_0) := (blk_cell Bg1.out 0).trans rfl; have hfz16_g1_0 := blk_frozen Bg1.out 0; have hcz16_g1_1 : w17_.cell? ⟨g1, 1, none⟩ = some (.slice A0_1 l0_1.length c0_1) := (blk_cell Bg1.out 1).trans rfl; have hfz16_g1_1 := blk_frozen Bg1.out 1; have hcz16_g2_0 : w17_.cell? ⟨g2, 0, none⟩ = some (.slice AX0 p1.length cX0) := (blk_cell Bg2.out 0).trans rfl; have hfz16_g2_0 := blk_frozen Bg2.out 0; have hcz16_g2_1 : w17_.cell? ⟨g2, 1, none⟩ = some (.slice AX1 p2.length cX1) := (blk_cell Bg2.out 1).trans rfl; have hfz16_g2_1 := blk_frozen Bg2.out 1) | (clear tk14; go_at_call 63; (with_reducible refine (impl_Starts.calls k _ _ p1 _ _ p2 a1 g _ (OwnR.reads V0.out).2.2 (OwnR.reads V0.out).2.1 (Own.reads V1.out).2.2 (Own.reads V1.out).2.1 HIM.out).mono ?_); rintro e w18_ ⟨vH0, rfl, hH0, hb⟩; (try clear hcz16_g1_0 hcz16_g1_1 hcz16_g2_0 hcz16_g2_1); (try clear hfz16_g1_0 hfz16_g1_1 hfz16_g2_0 hfz16_g2_1); have n_W0 := Aside0.mk (OwnR.below W0.out hb); have n_G0 := Aside0.mk (OwnR.below G0.out hb); have n_V0 := Aside0.mk (OwnR.below V0.out hb); have n_V1 := Aside0.mk (Own.below V1.out hb); have n_Bg1 := Aside0.mk (blk_b Bg1.out hb); have n_Bg2 := Aside0.mk (blk_b Bg2.out hb); have H0 := Aside0.mk (OwnR.new hH0 HB.out.size); have n_HB := Aside0.mk (below_step HB.out hb); have Zw18_ := Aside0.mk hb.size; clear W0; clear G0; clear V0; clear V1; clear Bg1; clear Bg2; clear HB; have W0 := n_W0; have G0 := n_G0; have V0 := n_V0; have V1 := n_V1; have Bg1 := n_Bg1; have Bg2 := n_Bg2; have HB := n_HB; clear n_W0 n_G0 n_V0 n_V1 n_Bg1 n_Bg2 n_HB; clear hb; clear hH0; obtain ⟨AH0, cH0, eH0⟩ := OwnR.slice H0.out; subst eH0; have hcz17_g1_0 : w18_.cell? ⟨g1, 0, none⟩ = some (.slice A0_0 l0_0.length c0_0) := (blk_cell Bg1.out 0).trans rfl; have hfz17_g1_0 := blk_frozen Bg1.out 0; have hcz17_g1_1 : w18_.cell? ⟨g1, 1, none⟩ = some (.slice A0_1 l0_1.length c0_1) := (blk_cell Bg1.out 1).trans rfl; have hfz17_g1_1 := blk_frozen Bg1.out 1; have hcz17_g2_0 : w18_.cell? ⟨g2, 0, none⟩ = some (.slice AX0 p1.length cX0) := (blk_cell Bg2.out 0).trans rfl; have hfz17_g2_0 := blk_frozen Bg2.out 0; have hcz17_g2_1 : w18_.cell? ⟨g2, 1, none⟩ = some (.slice AX1 p2.length cX1) := (blk_cell Bg2.out 1).trans rfl; have hfz17_g2_1 := blk_frozen Bg2.out 1) | (clear tk15; go_at_call 38; (with_reducible refine (laws_eqIntS.calls k _ _ g _ _ s true _ (OwnR.reads H0.out).2.2 (OwnR.reads H0.out).2.1 (OwnR.reads W0.out).2.2 (OwnR.reads W0.out).2.1 HEE.out).mono ?_); rintro e w19_ ⟨rfl, hd⟩; have hb := drawn_below hd; clear hd; (try clear hcz17_g1_0 hcz17_g1_1 hcz17_g2_0 hcz17_g2_1); (try clear hfz17_g1_0 hfz17_g1_1 hfz17_g2_0 hfz17_g2_1); have n_W0 := Aside0.mk (OwnR.below W0.out hb); have n_G0 := Aside0.mk (OwnR.below G0.out hb); have n_V0 := Aside0.mk (OwnR.below V0.out hb); have n_V1 := Aside0.mk (Own.below V1.out hb); have n_H0 := Aside0.mk (OwnR.below H0.out hb); have n_Bg1 := Aside0.mk (blk_b Bg1.out hb); have n_Bg2 := Aside0.mk (blk_b Bg2.out hb); have n_HB := Aside0.mk (below_step HB.out hb); have Zw19_ := Aside0.mk hb.size; clear W0; clear G0; clear V0; clear V1; clear H0; clear Bg1; clear Bg2; clear HB; have W0 := n_W0; have G0 := n_G0; have V0 := n_V0; have V1 := n_V1; have H0 := n_H0; have Bg1 := n_Bg1; have Bg2 := n_Bg2; have HB := n_HB; clear n_W0 n_G0 n_V0 n_V1 n_H0 n_Bg1 n_Bg2 n_HB; clear hb; have hcz18_g1_0 : w19_.cell? ⟨g1, 0, none⟩ = some (.slice A0_0 l0_0.length c0_0) := (blk_cell Bg1.out 0).trans rfl; have hfz18_g1_0 := blk_frozen Bg1.out 0; have hcz18_g1_1 : w19_.cell? ⟨g1, 1, none⟩ = some (.slice A0_1 l0_1.length c0_1) := (blk_cell Bg1.out 1).trans rfl; have hfz18_g1_1 := blk_frozen Bg1.out 1; have hcz18_g2_0 : w19_.cell? ⟨g2, 0, none⟩ = some (.slice AX0 p1.length cX0) := (blk_cell Bg2.out 0).trans rfl; have hfz18_g2_0 := blk_frozen Bg2.out 0; have hcz18_g2_1 : w19_.cell? ⟨g2, 1, none⟩ = some (.slice AX1 p2.length cX1) := (blk_cell Bg2.out 1).trans rfl; have hfz18_g2_1 := blk_frozen Bg2.out 1) | (clear tk16; go_at_call 66; (with_reducible refine (held_ k _ _ _ g' 1 m _ (OwnR.reads G0.out) HHE.out).mono ?_); rintro e w20_ ⟨rfl, hd⟩; have hb := drawn_below hd; clear hd; (try clear hcz18_g1_0 hcz18_g1_1 hcz18_g2_0 hcz18_g2_1); (try clear hfz18_g1_0 hfz18_g1_1 hfz18_g2_0 hfz18_g2_1); have n_W0 := Aside0.mk (OwnR.below W0.out hb); have n_G0 := Aside0.mk (OwnR.below G0.out hb); have n_V0 := Aside0.mk (OwnR.below V0.out hb); have n_V1 := Aside0.mk (Own.below V1.out hb); have n_H0 := Aside0.mk (OwnR.below H0.out hb); have n_Bg1 := Aside0.mk (blk_b Bg1.out hb); have n_Bg2 := Aside0.mk (blk_b Bg2.out hb); have n_HB := Aside0.mk (below_step HB.out hb); have Zw20_ := Aside0.mk hb.size; clear W0; clear G0; clear V0; clear V1; clear H0; clear Bg1; clear Bg2; clear HB; have W0 := n_W0; have G0 := n_G0; have V0 := n_V0; have V1 := n_V1; have H0 := n_H0; have Bg1 := n_Bg1; have Bg2 := n_Bg2; have HB := n_HB; clear n_W0 n_G0 n_V0 n_V1 n_H0 n_Bg1 n_Bg2 n_HB; clear hb; have hcz19_g1_0 : w20_.cell? ⟨g1, 0, none⟩ = some (.slice A0_0 l0_0.length c0_0) := (blk_cell Bg1.out 0).trans rfl; have hfz19_g1_0 := blk_frozen Bg1.out 0; have hcz19_g1_1 : w20_.cell? ⟨g1, 1, none⟩ = some (.slice A0_1 l0_1.length c0_1) := (blk_cell Bg1.out 1).trans rfl; have hfz19_g1_1 := blk_frozen Bg1.out 1; have hcz19_g2_0 : w20_.cell? ⟨g2, 0, none⟩ = some (.slice AX0 p1.length cX0) := (blk_cell Bg2.out 0).trans rfl; have hfz19_g2_0 := blk_frozen Bg2.out 0; have hcz19_g2_1 : w20_.cell? ⟨g2, 1, none⟩ = some (.slice AX1 p2.length cX1) := (blk_cell Bg2.out 1).trans rfl; have hfz19_g2_1 := blk_frozen Bg2.out 1))
  go_ret
  exact ⟨rfl, HB.out⟩
/-- What the law asks, as a Lean function: true where all that it compares is alike; none where that isn't so. -/
def laws_FnExactStarts.f (k : Nat) (l0_0 : List Int) (l0_1 : List (List S82)) (a1 : Int) : Option Bool :=
  (laws_szProg.f k l0_0 l0_1 1048576).bind fun z => if z < 0 then some true else
  (laws_toProg.f k l0_0 l0_1).bind fun p => (spec_Starts.f k p.1 p.2 a1).bind fun s => (impl_Starts.f k p.1 p.2 a1).bind fun g =>
  (laws_eqIntS.f k g s).bind fun b1 => (laws_eqProg.f k p.1 p.2 p.1 p.2).bind fun b2 => (laws_markProg.f k p.1 p.2 1).bind fun q => (laws_markIntS.f k g 1).bind fun m => (laws_heldIntS.f k m.2 1).bind fun h =>
  if b1 = true ∧ b2 = true ∧ 0 ≤ q.1 ∧ h = m.1 ∧ 0 ≤ m.1 then some true else none
theorem laws_FnExactStarts.calls (k : Nat) (A0_0 : Option Addr) (c0_0 : Nat) (l0_0 : List Int) (A0_1 : Option Addr) (c0_1 : Nat) (l0_1 : List (List (S82))) (a1 : Int) (r : Bool) (w : World) (hr0_0 : Kd.C (Kd.int .i64) w A0_0 l0_0.length l0_0) (hc0_0 : l0_0.length ≤ c0_0) (hr0_1 : Kd.C (Kd.slice 82 k82) w A0_1 l0_1.length l0_1) (hc0_1 : l0_1.length ≤ c0_1) (h : laws_FnExactStarts.f k l0_0 l0_1 a1 = some r) :
    Calls Try.prog 10 #[.agg #[.slice A0_0 l0_0.length c0_0, .slice A0_1 l0_1.length c0_1], .int .i64 a1] w fun e w' => e = .returned (.bool r) ∧ Below w.heap.size w w' := by
  obtain ⟨z, hz, h⟩ := Option.bind_eq_some_iff.mp h
  by_cases c : z < 0
  · rw [if_pos c] at h
    obtain rfl := Option.some.inj h
    exact laws_FnExactStarts.small k A0_0 c0_0 l0_0 A0_1 c0_1 l0_1 a1 z w hr0_0 hc0_0 hr0_1 hc0_1 hz c
  · rw [if_neg c] at h
    obtain ⟨⟨p1, p2⟩, h1, h⟩ := Option.bind_eq_some_iff.mp h
    obtain ⟨s, h2, h⟩ := Option.bind_eq_some_iff.mp h
    obtain ⟨g, h3, h⟩ := Option.bind_eq_some_iff.mp h
    obtain ⟨b1, h4, h⟩ := Option.bind_eq_some_iff.mp h
    obtain ⟨b2, h5, h⟩ := Option.bind_eq_some_iff.mp h
    obtain ⟨⟨kk, q1, q2⟩, h6, h⟩ := Option.bind_eq_some_iff.mp h
    obtain ⟨⟨m, g'⟩, h7, h⟩ := Option.bind_eq_some_iff.mp h
    obtain ⟨hh, h8, h⟩ := Option.bind_eq_some_iff.mp h
    by_cases d : b1 = true ∧ b2 = true ∧ 0 ≤ kk ∧ hh = m ∧ 0 ≤ m
    · rw [if_pos d] at h
      obtain rfl := Option.some.inj h
      obtain ⟨rfl, rfl, d1, rfl, d2⟩ := d
      exact laws_FnExactStarts.walk k A0_0 c0_0 l0_0 A0_1 c0_1 l0_1 a1 z kk hh p1 q1 s g g' p2 q2 w hr0_0 hc0_0 hr0_1 hc0_1 hz c h1 h2 h3 h4 h5 h6 d1 h7 h8 d2
    · rw [if_neg d] at h
      cases h
end Go.Proofs.Ytonlhgkpmjefkaa.XFnExactStarts
