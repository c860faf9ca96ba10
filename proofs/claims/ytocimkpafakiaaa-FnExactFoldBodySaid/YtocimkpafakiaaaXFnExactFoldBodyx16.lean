/- Each Go function that the law reaches as a Lean function, and that Go comes to just its answer; written by this session's xprint.py over the kit's printer. -/
import Derived.Test.YtocimkpafakiaaaXFnExactFoldBodyx0
import Derived.Test.YtocimkpafakiaaaXFnExactFoldBodyx2
import Derived.Test.YtocimkpafakiaaaXFnExactFoldBodyx2
namespace Go.Proofs.Ytocimkpafakiaaa.XFnExactFoldBody
open Go.RowKit Go.Proofs.YtocimkpafakiaaaW.PrintWords Go.Proofs.YtocimkpafakiaaaW.PrintLast Go.Proofs.YtocimkpafakiaaaW.PrintMore
attribute [local go_sem] max2_int min2_int max_two min_two max_three min_three max_four min_four   -- for this text's walks alone
set_option linter.unusedVariables false
set_option linter.unusedSimpArgs false

theorem att17_0_0 {p : Prop} (h : p := by repeat (first | exact HK.out | refine Kept.setCell ?_ (by first | exact .inr GX.out.1 | exact .inl (HO0.out.1 go rfl).1) _ | apply Kept.drewN | apply Kept.drew)) : p := h
theorem att17_0_1 {p : Prop} (h : p := by repeat (first | exact HB.out | refine below_set ?_ (by first | exact GX.out.2 | exact GB.out) | apply pw_below_drewN | apply below_drew1)) : p := h
theorem att17_0_2 {p : Prop} (h : p := by (with_reducible repeat (first | apply Kd.R_drewN | apply Kd.R_drew)); exact Kd.R_mono (Kd.R_far (p := ⟨b, 1, none⟩) (Kd.R_far (p := ⟨b, 0, none⟩) HO1.out (fun _ hk => hk.2) _) (fun _ hk => hk.2) _) (fun _ hk => hk.1)) : p := h
theorem att17_0_3 {p : Prop} (h : p := by (with_reducible repeat (first | apply Kd.R_drewN | apply Kd.R_drew)); exact Kd.R_mono (Kd.R_far (p := ⟨b, 1, none⟩) (Kd.R_far (p := ⟨b, 0, none⟩) HO0.out (fun _ hk => hk.2) _) (fun _ hk => hk.2) _) (fun _ hk => hk.1)) : p := h
/-! ### impl_meet: function 94 -/
def impl_meet.l0 : Nat → List S83 → List S83 → Bool → Int → Option (Bool × List S83)
| 0, _, _, _, _ => none
| k + 1, x, y, t, i => if i < (x.length : Int) then (if 0 ≤ i then (if (rd_T83 x i).f0 = true then (if i < (y.length : Int) then (if (!((true) == ((rd_T83 y i).f0)) || (!(((rd_T83 x i).f1) == ((rd_T83 y i).f1)))) = true then (impl_meet.l0 k (x.set i.toNat (⟨false, 0⟩ : S83)) y true (wrap64 (i + 1))) else (impl_meet.l0 k x y t (wrap64 (i + 1)))) else none) else (impl_meet.l0 k x y t (wrap64 (i + 1)))) else none) else some (t, x)
def impl_meet.f (k : Nat) (l0 l1 : List S83) : Option (Bool × List S83) := impl_meet.l0 k l0 l1 false 0
theorem impl_meet.mono_l : ∀ k x y t i, LeO (impl_meet.l0 k x y t i) (impl_meet.l0 (k + 1) x y t i)
| 0, _, _, _, _ => fun r h => by simp [impl_meet.l0] at h
| k + 1, x, y, t, i => by
 have ih := impl_meet.mono_l k
 unfold impl_meet.l0
 repeat' first
 | (with_reducible exact ih _ _ _ _)
 | (with_reducible exact LeO.refl _)
 | (with_reducible exact LeO.none _)
 | (with_reducible refine LeO.ite ?_ ?_)
 | exact ih _ _ _ _
theorem impl_meet.mono : ∀ a0 a1 k, LeO (impl_meet.f k a0 a1) (impl_meet.f (k + 1) a0 a1) := fun a0 a1 k => impl_meet.mono_l k a0 a1 false 0
theorem own_ok {α : Type} {d : Kd α} {e base : Nat} {w : World} {ok : Nat → Prop} {v : Value} {xs : List α} (h : Kd.R d e w base ok v xs) : ∀ k, v.ownBlock = some k → ok k := h.1
theorem meet_put {W : World} {base go cap n : Nat} {ok : Nat → Prop} {x : List S83} (h : Kd.R k83 83 W base ok (.slice (some ⟨go, 0, none⟩) n cap) x) (i : Int) (h0 : 0 ≤ i) (h1 : i < (n : Int)) :
  Kd.R k83 83 ((W.setCell ⟨go, i.toNat * 2, none⟩ (.bool false)).setCell ⟨go, i.toNat * 2 + 1, none⟩ (.int .i64 0)) base ok (.slice (some ⟨go, 0, none⟩) n cap) (x.set i.toNat (⟨false, 0⟩ : S83)) ∧ W.grownBy ((W.setCell ⟨go, i.toNat * 2, none⟩ (.bool false)).setCell ⟨go, i.toNat * 2 + 1, none⟩ (.int .i64 0)) (some go) := by
 obtain ⟨ce, hcl, hM, hcc, hfr⟩ := Kd.R_elem h z83 i h0 h1
 obtain rfl := k83_openM hM
 exact Kd.R_seg h i h0 h1 (seg := [.bool false, .int .i64 0]) (j := 0) hcl hcc (show 2 ≤ 2 from by decide) (x' := (⟨false, 0⟩ : S83)) (k83_mkM _ _ _ (⟨false, 0⟩ : S83)) (fun _ hk => hk)
theorem meet_at {W : World} {base go cap n : Nat} {ok : Nat → Prop} {x : List S83} (h : Kd.R k83 83 W base ok (.slice (some ⟨go, 0, none⟩) n cap) x) (i : Int) (h0 : 0 ≤ i) (h1 : i < (n : Int)) :
  W.cell? ⟨go, i.toNat * 2, none⟩ = some (.bool (rd_T83 x i).f0) ∧ W.cell? ⟨go, i.toNat * 2 + 1, none⟩ = some (.int .i64 (rd_T83 x i).f1) ∧ W.frozen? ⟨go, i.toNat * 2, none⟩ = false ∧ W.frozen? ⟨go, i.toNat * 2 + 1, none⟩ = false := by
 obtain ⟨ce, hcl, hM, hcc, hfr⟩ := Kd.R_elem h z83 i h0 h1
 obtain rfl := k83_openM hM
 exact ⟨hcc 0 _ rfl, hcc 1 _ rfl, hfr 0, hfr 1⟩
attribute [local go_sem high] eqA83
set_option maxHeartbeats 80000000 in
set_option maxRecDepth 100000 in
theorem impl_meet.calls (k : Nat) (P0_ : Nat → Prop) (u : Value) (l0 : List S83) (A1 : Option Addr) (c1 : Nat) (l1 : List S83) (r : Bool × List S83) (w0 w : World) (hB : Below w0.heap.size w0 w) (ho0 : Kd.R k83 83 w w0.heap.size P0_ u l0) (ho1 : Kd.R k83 83 w w0.heap.size (fun k_ => ¬ P0_ k_) (.slice A1 l1.length c1) l1) (h : impl_meet.f k l0 l1 = some r) :
  Calls Try.prog 94 #[u, .slice A1 l1.length c1] w fun e w' => e = .returned (.bool r.1) ∧ Kd.R k83 83 w' w0.heap.size (fun k_ => P0_ k_) u r.2 ∧ Below w0.heap.size w0 w' ∧ Kept w w' (fun k_ => P0_ k_) := by
 have hu83 := Try.underlying83
 have HO0 := Aside0.mk (show Kd.R k83 83 w w0.heap.size (fun k_ => P0_ k_) u l0 from ho0)
 have HO1 := Aside0.mk ho1
 have HK := Aside0.mk (Kept.refl w (fun k_ => P0_ k_))
 have HB := Aside0.mk hB
 have H' := Aside0.mk (show impl_meet.l0 k l0 l1 false 0 = some r from h)
 clear hB ho0 ho1 h
 obtain ⟨A0, c0, e0⟩ := Kd.R_slice HO0.out
 subst e0
 go_enter Try.func94, Try.ntmps94
 go_wp2
 go_loopg [5, 10] k (fun kq v5 v10 w' => ∃ (x : List S83) (t : Bool) (i : Int), v5 = .bool t ∧ v10 = .int .i64 i ∧ Aside0 (impl_meet.l0 kq x l1 t i = some r) ∧ Aside0 (kq ≤ k) ∧ Aside0 (x.length = l0.length) ∧ Aside0 (Kd.R k83 83 w' w0.heap.size (fun k_ => P0_ k_) (.slice A0 l0.length c0) x) ∧ Aside0 (Kd.R k83 83 w' w0.heap.size (fun k_ => ¬ P0_ k_) (.slice A1 l1.length c1) l1) ∧ Aside0 (Kept w w' (fun k_ => P0_ k_)) ∧ Aside0 (Below w0.heap.size w0 w'))
 case atStart => exact ⟨l0, false, 0, rfl, rfl, H', ⟨Nat.le_refl _⟩, ⟨rfl⟩, HO0, HO1, HK, HB⟩
 case round =>
  clear H' HO0 HO1 HK HB
  obtain ⟨x, t, i, rfl, rfl, HA, HK1, HL, HO0, HO1, HK, HB⟩ := hrel
  cases gk with
  | zero => exact absurd HA.out (by simp [impl_meet.l0])
  | succ k1 =>
   have H := HA.out
   clear HA
   simp only [impl_meet.l0] at H
   rw [HL.out] at H
   by_cases c7 : i < (l0.length : Int)
   ·rw [if_pos c7] at H
    have c7b0 : decide (i < (l0.length : Int)) = true := decide_eq_true c7
    by_cases c8 : 0 ≤ i
    ·rw [if_pos c8] at H
     have c8b0 : decide (0 ≤ i) = true := decide_eq_true c8
     have CI := Aside0.mk c8
     have CN := Aside0.mk c7
     obtain ⟨go, cu, eu, gb, gl, cl, hgo⟩ := Kd.R_form HO0.out (by rw [HL.out]; omega)
     injection eu with ea en ec
     subst ea
     subst ec
     have GB := Aside0.mk gb
     clear en gb gl hgo
     obtain ⟨hx0, hx1, hf0, hf1⟩ := meet_at HO0.out i c8 c7
     replace c7 := eq_true c7
     replace c8 := eq_true c8
     by_cases c10 : (rd_T83 x i).f0 = true
     ·rw [if_pos c10] at H
      rw [c10] at hx0
      by_cases c11 : i < (l1.length : Int)
      ·rw [if_pos c11] at H
       have c11b0 : decide (i < (l1.length : Int)) = true := decide_eq_true c11
       have C11 := Aside0.mk c11
       obtain ⟨g1, d1, e1, _, _, _, _⟩ := Kd.R_form HO1.out (by have := CI.out; omega)
       injection e1 with ea1 en1 ec1
       subst ea1
       subst ec1
       clear en1
       replace c11 := eq_true c11
       by_cases c12 : (!((true) == ((rd_T83 l1 i).f0)) || (!(((rd_T83 x i).f1) == ((rd_T83 l1 i).f1)))) = true
       ·rw [if_pos c12] at H
        have H' := Aside0.mk H
        clear H
        have c12b : (!(rd_T83 l1 i).f0 || !((rd_T83 x i).f1 == (rd_T83 l1 i).f1)) = true := (by rw [← c12]; cases (rd_T83 l1 i).f0 <;> rfl)
        clear c12
        go_wp2_with (first | ((with_reducible refine gate_dst (N := 7) rfl ?_); refine box_event ?hg (N := 7) ?hd (cs := #[.bool false, .int .i64 0]) (t := 83) ?hr ?_; (case hd => rfl); (case hg => rfl); (case hr => first | (go_simp; done) | (go_simp; rfl)); intro b hg w1 hbox hb; have n0_ := Aside0.mk (Kd.R_below (Kd.R_elderB HO0.out b (Nat.le_of_eq hg.symm)) hb); have n1_ := Aside0.mk (Kd.R_below (Kd.R_elderB HO1.out b (Nat.le_of_eq hg.symm)) hb); have n2_ := Aside0.mk (below_step HB.out hb); have n3_ := Aside0.mk (Kept.below HK.out hb); have GX := Aside0.mk (show w.heap.size ≤ b ∧ w0.heap.size ≤ b from by rw [hg]; exact ⟨HK.out.1, HB.out.size⟩); clear HO0 HO1 HB HK hx0 hx1 hf0 hf1; have HO0 := n0_; have HO1 := n1_; have HB := n2_; have HK := n3_; clear n0_ n1_ n2_ n3_; have hb1 : go ≠ b := (HO0.out.1 go rfl).2; have hb2 : b ≠ go := fun e_ => hb1 e_.symm; have hb3 : g1 ≠ b := (HO1.out.1 g1 rfl).2; have hb4 : b ≠ g1 := fun e_ => hb3 e_.symm; obtain ⟨hx0, hx1, hf0, hf1⟩ := meet_at HO0.out i CI.out CN.out; rw [c10] at hx0; obtain ⟨hy0, hy1, _, _⟩ := meet_at HO1.out i CI.out C11.out; have hz0 : w1.cell? ⟨b, 0, none⟩ = some (.bool false) := (blk_cell hbox 0).trans rfl; have hz1 : w1.cell? ⟨b, 1, none⟩ = some (.int .i64 0) := (blk_cell hbox 1).trans rfl; have hzf0 := blk_frozen hbox 0; have hzf1 := blk_frozen hbox 1; clear hb hbox hg))
        go_quiet (fail)
        try go_wp2
        go_roundg k1
        case measure => have := HK1.out; omega
        case rel => exact ⟨x.set i.toNat (⟨false, 0⟩ : S83), true, wrap64 (i + 1), rfl, rfl, H', ⟨by have := HK1.out; omega⟩, ⟨by rw [List.length_set]; exact HL.out⟩, ⟨Kd.R_mono (meet_put (ok := fun k_ => P0_ k_ ∧ k_ ≠ b) (by (with_reducible repeat (first | apply Kd.R_drewN | apply Kd.R_drew)); exact Kd.R_far (p := ⟨b, 1, none⟩) (Kd.R_far (p := ⟨b, 0, none⟩) HO0.out (fun _ hk => hk.2) _) (fun _ hk => hk.2) _) i CI.out CN.out).1 (fun _ hk => hk.1)⟩, ⟨Kd.R_mono (Kd.R_far (ok := fun k_ => ¬ P0_ k_ ∧ k_ ≠ b) (p := ⟨go, i.toNat * 2 + 1, none⟩) (Kd.R_far (ok := fun k_ => ¬ P0_ k_ ∧ k_ ≠ b) (p := ⟨go, i.toNat * 2, none⟩) (by (with_reducible repeat (first | apply Kd.R_drewN | apply Kd.R_drew)); exact Kd.R_far (p := ⟨b, 1, none⟩) (Kd.R_far (p := ⟨b, 0, none⟩) HO1.out (fun _ hk => hk.2) _) (fun _ hk => hk.2) _) (fun k_ hk e_ => hk.1 (by rw [e_]; exact (HO0.out.1 go rfl).1)) _) (fun k_ hk e_ => hk.1 (by rw [e_]; exact (HO0.out.1 go rfl).1)) _) (fun _ hk => hk.1)⟩, ⟨att17_0_0⟩, ⟨att17_0_1⟩⟩
       ·rw [if_neg c12] at H
        have H' := Aside0.mk H
        clear H
        have c12b : (!(rd_T83 l1 i).f0 || !((rd_T83 x i).f1 == (rd_T83 l1 i).f1)) = false := (by rw [← Bool.eq_false_iff.mpr c12]; cases (rd_T83 l1 i).f0 <;> rfl)
        clear c12
        go_wp2_with (first | ((with_reducible refine gate_dst (N := 7) rfl ?_); refine box_event ?hg (N := 7) ?hd (cs := #[.bool false, .int .i64 0]) (t := 83) ?hr ?_; (case hd => rfl); (case hg => rfl); (case hr => first | (go_simp; done) | (go_simp; rfl)); intro b hg w1 hbox hb; have n0_ := Aside0.mk (Kd.R_below (Kd.R_elderB HO0.out b (Nat.le_of_eq hg.symm)) hb); have n1_ := Aside0.mk (Kd.R_below (Kd.R_elderB HO1.out b (Nat.le_of_eq hg.symm)) hb); have n2_ := Aside0.mk (below_step HB.out hb); have n3_ := Aside0.mk (Kept.below HK.out hb); have GX := Aside0.mk (show w.heap.size ≤ b ∧ w0.heap.size ≤ b from by rw [hg]; exact ⟨HK.out.1, HB.out.size⟩); clear HO0 HO1 HB HK hx0 hx1 hf0 hf1; have HO0 := n0_; have HO1 := n1_; have HB := n2_; have HK := n3_; clear n0_ n1_ n2_ n3_; have hb1 : go ≠ b := (HO0.out.1 go rfl).2; have hb2 : b ≠ go := fun e_ => hb1 e_.symm; have hb3 : g1 ≠ b := (HO1.out.1 g1 rfl).2; have hb4 : b ≠ g1 := fun e_ => hb3 e_.symm; obtain ⟨hx0, hx1, hf0, hf1⟩ := meet_at HO0.out i CI.out CN.out; rw [c10] at hx0; obtain ⟨hy0, hy1, _, _⟩ := meet_at HO1.out i CI.out C11.out; have hz0 : w1.cell? ⟨b, 0, none⟩ = some (.bool false) := (blk_cell hbox 0).trans rfl; have hz1 : w1.cell? ⟨b, 1, none⟩ = some (.int .i64 0) := (blk_cell hbox 1).trans rfl; have hzf0 := blk_frozen hbox 0; have hzf1 := blk_frozen hbox 1; clear hb hbox hg))
        go_quiet (fail)
        try go_wp2
        go_roundg k1
        case measure => have := HK1.out; omega
        case rel => exact ⟨x, t, wrap64 (i + 1), rfl, rfl, H', ⟨by have := HK1.out; omega⟩, HL, ⟨att17_0_3⟩, ⟨att17_0_2⟩, ⟨att17_0_0⟩, ⟨att17_0_1⟩⟩
      ·rw [if_neg c11] at H
       exact absurd H (by simp)
     ·rw [if_neg c10] at H
      have c10b : (rd_T83 x i).f0 = false := Bool.eq_false_iff.mpr c10
      have H' := Aside0.mk H
      clear H
      rw [c10b] at hx0
      go_wp2_with (first | ((with_reducible refine gate_dst (N := 7) rfl ?_); refine box_event ?hg (N := 7) ?hd (cs := #[.bool false, .int .i64 0]) (t := 83) ?hr ?_; (case hd => rfl); (case hg => rfl); (case hr => first | (go_simp; done) | (go_simp; rfl)); intro b hg w1 hbox hb; have n0_ := Aside0.mk (Kd.R_below (Kd.R_elderB HO0.out b (Nat.le_of_eq hg.symm)) hb); have n1_ := Aside0.mk (Kd.R_below (Kd.R_elderB HO1.out b (Nat.le_of_eq hg.symm)) hb); have n2_ := Aside0.mk (below_step HB.out hb); have n3_ := Aside0.mk (Kept.below HK.out hb); have GX := Aside0.mk (show w.heap.size ≤ b ∧ w0.heap.size ≤ b from by rw [hg]; exact ⟨HK.out.1, HB.out.size⟩); clear HO0 HO1 HB HK hx0 hx1 hf0 hf1; have HO0 := n0_; have HO1 := n1_; have HB := n2_; have HK := n3_; clear n0_ n1_ n2_ n3_; have hb1 : go ≠ b := (HO0.out.1 go rfl).2; have hb2 : b ≠ go := fun e_ => hb1 e_.symm; obtain ⟨hx0, hx1, hf0, hf1⟩ := meet_at HO0.out i CI.out CN.out; rw [c10b] at hx0; have hz0 : w1.cell? ⟨b, 0, none⟩ = some (.bool false) := (blk_cell hbox 0).trans rfl; have hz1 : w1.cell? ⟨b, 1, none⟩ = some (.int .i64 0) := (blk_cell hbox 1).trans rfl; have hzf0 := blk_frozen hbox 0; have hzf1 := blk_frozen hbox 1; clear hb hbox hg))
      go_quiet (fail)
      try go_wp2
      go_roundg k1
      case measure => have := HK1.out; omega
      case rel => exact ⟨x, t, wrap64 (i + 1), rfl, rfl, H', ⟨by have := HK1.out; omega⟩, HL, ⟨att17_0_3⟩, ⟨att17_0_2⟩, ⟨att17_0_0⟩, ⟨att17_0_1⟩⟩
    ·rw [if_neg c8] at H
     exact absurd H (by simp)
   ·rw [if_neg c7] at H
    have c7b0 : decide (i < (l0.length : Int)) = false := decide_eq_false c7
    clear c7
    obtain rfl := Option.some.inj H
    go_wp2
    go_ret
    exact ⟨rfl, HO0.out, HB.out, HK.out⟩

end Go.Proofs.Ytocimkpafakiaaa.XFnExactFoldBody
