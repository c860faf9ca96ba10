/- What writes into rows of rows (laws.markInsSS, laws.markProg), and rows whose blocks lie in an interval; for every world. -/
import Derived.Test.YtonlhgkpmjefkaaXFnExactStartsx4
namespace Go.Proofs.Ytonlhgkpmjefkaa.XFnExactStarts
open Go.RowKit Go.Proofs.YtonlhgkpmjefkaaW.PrintWords Go.Proofs.YtonlhgkpmjefkaaW.PrintLast Go.Proofs.YtonlhgkpmjefkaaW.PrintMore
attribute [local go_sem] max2_int min2_int max_two min_two max_three min_three max_four min_four
set_option linter.unusedVariables false
set_option linter.unusedSimpArgs false
/-! ### laws_markInsSS: function 127 -/
def laws_markInsSS.l0 : Nat → List (List S37) → Int → Int → Option (Int × List (List S37))
  | 0, _, _, _ => none
  | k + 1, x0, x1, x5 => if x5 < (x0.length : Int) then (if 0 ≤ x5 then ((laws_markInsS.f k (x0.getD x5.toNat []) x1).bind fun p => laws_markInsSS.l0 k (x0.set x5.toNat p.2) p.1 (wrap64 (x5 + 1))) else none) else some (x1, x0)
def laws_markInsSS.f (k : Nat) (l0 : List (List S37)) (a1 : Int) : Option (Int × List (List S37)) := laws_markInsSS.l0 k l0 a1 0
set_option maxHeartbeats 8000000 in
set_option maxRecDepth 100000 in
theorem laws_markInsSS.calls (k : Nat) (P0_ : Nat → Prop) (u9000_ : Value) (l0 : List (List S37)) (a1 r1 : Int) (r2 : List (List S37)) (w0 w : World) (hB : Below w0.heap.size w0 w) (ho0 : Kd.S (Kd.slice 37 k37) 51 w w0.heap.size P0_ u9000_ l0) (h : laws_markInsSS.f k l0 a1 = some (r1, r2)) :
    Calls Try.prog 127 #[u9000_, .int .i64 a1] w fun e w' => e = .returned (.int .i64 r1) ∧ Kd.S (Kd.slice 37 k37) 51 w' w0.heap.size (fun k_ => (P0_ k_ ∨ w.heap.size ≤ k_)) u9000_ r2 ∧ Below w0.heap.size w0 w' ∧ Kept w w' (fun k_ => P0_ k_) := by
  have HO0 := Aside0.mk (show Kd.S (Kd.slice 37 k37) 51 w w0.heap.size (fun k_ => (P0_ k_ ∨ w.heap.size ≤ k_)) u9000_ l0 from Kd.S_mono ho0 (fun k_ hk => (.inl hk)))
  have HK := Aside0.mk (Kept.refl w (fun k_ => P0_ k_))
  have HB := Aside0.mk hB
  have H' := Aside0.mk (show laws_markInsSS.l0 k l0 a1 0 = some (r1, r2) from h)
  clear hB ho0 h
  go_enter Try.func127, Try.ntmps127
  go_wp2
  go_loopg [1, 5] k (fun kq v1 v5 w' => ∃ (x0_1 : List (List S37)) (x1_1 : Int) (x5_1 : Int), v1 = .int .i64 x1_1 ∧ v5 = .int .i64 x5_1 ∧ Aside0 (laws_markInsSS.l0 kq x0_1 x1_1 x5_1 = some (r1, r2)) ∧ Aside0 (kq ≤ k) ∧ Aside0 (Kd.S (Kd.slice 37 k37) 51 w' w0.heap.size (fun k_ => (P0_ k_ ∨ w.heap.size ≤ k_)) u9000_ x0_1) ∧ Aside0 (Kept w w' (fun k_ => P0_ k_)) ∧ Aside0 (Below w0.heap.size w0 w'))
  case atStart => exact ⟨l0, a1, 0, rfl, rfl, H', ⟨Nat.le_refl _⟩, ⟨by (with_reducible repeat (first | apply Kd.S_alloc | apply Kd.S_drewN | apply Kd.S_drew)); exact HO0.out⟩, ⟨by repeat (first | (with_reducible first | exact HK.out | apply Kept.alloc | apply Kept.drewN | apply Kept.drew) | exact HK.out)⟩, ⟨by repeat (first | (with_reducible first | exact HB.out | apply below_alloc | apply pw_below_drewN | apply below_drew1) | exact HB.out)⟩⟩
  case round =>
    clear H'
    obtain ⟨x0_1, x1_1, x5_1, rfl, rfl, HA, HK1, HO_0, HK, HB⟩ := hrel
    cases gk with
    | zero => exact absurd HA.out (by simp [laws_markInsSS.l0])
    | succ k1 =>
      have H := HA.out
      clear HA
      simp only [laws_markInsSS.l0] at H
      by_cases c3 : x5_1 < (x0_1.length : Int)
      · rw [if_pos c3] at H
        have c3b0 : decide (x5_1 < (x0_1.length : Int)) = true := decide_eq_true c3
        by_cases c4 : 0 ≤ x5_1
        · rw [if_pos c4] at H
          have c4b0 : decide (0 ≤ x5_1) = true := decide_eq_true c4
          obtain ⟨Ao8, co8, eo8⟩ := Kd.S_slice HO_0.out
          subst eo8
          obtain ⟨go5, co5, eo5, gb5, gl5, cl5, HG5⟩ := Kd.S_form HO_0.out (by omega)
          (first | cases eo5 | (injection eo5 with ea_ en_ ec_; (first | subst ea_ | (injection ea_ with ea_; subst ea_)); subst ec_; clear en_))
          obtain ⟨oki, c, hcl, hM, hcc, hoki, hH⟩ := Kd.S_lend HO_0.out [] x5_1 c4 c3
          obtain ⟨ui, rfl, hRi⟩ := hM
          have hx5_0 : wr.cell? ⟨go5, (x5_1 : Int).toNat, none⟩ = some ui := by have h_ := hcc 0 _ rfl; rwa [show (Kd.slice 37 k37).sz = 1 from rfl, Nat.mul_one, Nat.add_zero] at h_
          obtain ⟨ri, hri⟩ : ∃ ri, ri = x0_1.getD x5_1.toNat [] := ⟨_, rfl⟩
          rw [← hri] at H hRi
          obtain ⟨⟨m1, m2⟩, hA, H⟩ := Option.bind_eq_some_iff.mp H
          have HAm := Aside0.mk hA
          have HRi := Aside0.mk hRi
          have HHi := Aside0.mk hH
          have HOk := Aside0.mk hoki
          have H' := Aside0.mk (show laws_markInsSS.l0 k1 (x0_1.set x5_1.toNat m2) m1 (wrap64 (x5_1 + 1)) = some (r1, r2) from H)
          clear H hA hRi hH hoki hcc hcl hri gb5 gl5 HG5
          replace c3 := eq_true c3
          replace c4 := eq_true c4
          go_wp2_with (first | (go_at_call 86; (with_reducible refine (laws_markInsS.calls k1 oki ui ri x1_1 m1 m2 w0 _ HB.out HRi.out HAm.out).mono ?_); rintro e w' ⟨rfl, hR', hB', hK'⟩; have HS' := Aside0.mk (Kd.H_back (Kd.H_step (Kd.H_widen HHi.out) (fun k hk hn hlt => hK'.2 k hlt (fun ho => hn (.inl ho)))) (x' := m2) ⟨ui, rfl, hR'⟩ (fun k hk => hk.elim .inl (fun h => .inr ⟨.inr (Nat.le_trans HK.out.1 h), h⟩))); have HK2 := Aside0.mk (show Kept w w' (fun k_ => P0_ k_) from ⟨Nat.le_trans HK.out.1 hK'.1, fun i hi hn => (hK'.2 i (Nat.lt_of_lt_of_le hi HK.out.1) (fun ho => (HOk.out i ho).1.elim hn (fun h => Nat.not_le.2 hi h))).trans (HK.out.2 i hi hn)⟩); have HB2 := Aside0.mk hB'; clear HO_0 HK HB HRi HHi hR' hB' hK'; have HO_0 := HS'; have HK := HK2; have HB := HB2; clear HS' HK2 HB2))
          go_roundg k1
          case measure => have := HK1.out; omega
          case rel => exact ⟨_, m1, (wrap64 (x5_1 + 1)), (by first | rfl | (simp; done) | (simp [*]; done)), (by first | rfl | (simp; done) | (simp [*]; done)), H', ⟨by have := HK1.out; omega⟩, ⟨by (with_reducible repeat (first | apply Kd.S_alloc | apply Kd.S_drewN | apply Kd.S_drew)); exact HO_0.out⟩, ⟨by repeat (first | (with_reducible first | exact HK.out | apply Kept.alloc | apply Kept.drewN | apply Kept.drew) | exact HK.out)⟩, ⟨by repeat (first | (with_reducible first | exact HB.out | apply below_alloc | apply pw_below_drewN | apply below_drew1) | exact HB.out)⟩⟩
        · rw [if_neg c4] at H
          exact absurd H (by simp)
      · rw [if_neg c3] at H
        have c3b0 : decide (x5_1 < (x0_1.length : Int)) = false := decide_eq_false c3
        clear c3
        simp only [Option.some.injEq, Prod.mk.injEq] at H
        obtain ⟨rfl, rfl⟩ := H
        obtain ⟨Ao15, co15, eo15⟩ := Kd.S_slice HO_0.out
        subst eo15
        go_wp2
        go_ret
        exact ⟨rfl, by (with_reducible repeat (first | apply Kd.S_alloc | apply Kd.S_drewN | apply Kd.S_drew)); exact HO_0.out, by repeat (first | (with_reducible first | exact HB.out | apply below_alloc | apply pw_below_drewN | apply below_drew1) | exact HB.out), by repeat (first | (with_reducible first | exact HK.out | apply Kept.alloc | apply Kept.drewN | apply Kept.drew) | exact HK.out)⟩

/-! ### rows that are the call's own: their blocks lie in an interval -/
def Own {α : Type} (d : Kd α) (e : Nat) (b : Nat) (w : World) (lo hi : Nat) (v : Value) (xs : List α) : Prop := Kd.S d e w b (fun k => lo ≤ k ∧ k < hi) v xs
def OwnR {α : Type} (d : Kd α) (e : Nat) (b : Nat) (w : World) (lo hi : Nat) (v : Value) (xs : List α) : Prop := Kd.R d e w b (fun k => lo ≤ k ∧ k < hi) v xs
section
variable {α : Type} {d : Kd α} {e b lo hi g : Nat} {w w' w0 : World} {v : Value} {xs : List α} {ok P : Nat → Prop} {o : Obj}
theorem Own.new {B : Nat} (h : Kd.S d e w' B ok v xs) (hb : b ≤ B) : Own d e b w' B w'.heap.size v xs := Kd.S_lower (Kd.S_mono (Kd.S_bound h) (fun k hk => ⟨hk.2.1, hk.2.2.1⟩)) hb
theorem OwnR.new {B : Nat} (h : Kd.R d e w' B ok v xs) (hb : b ≤ B) : OwnR d e b w' B w'.heap.size v xs := Kd.R_lower (Kd.R_mono (Kd.R_bound h) (fun k hk => ⟨hk.2.1, hk.2.2.1⟩)) hb
theorem Own.mark (h : Kd.S d e w' b (fun k => (lo ≤ k ∧ k < hi) ∨ w.heap.size ≤ k) v xs) (hl : lo ≤ w.heap.size) : Own d e b w' lo w'.heap.size v xs := Kd.S_mono (Kd.S_bound h) (fun k hk => ⟨hk.1.elim (fun h => h.1) (fun h => Nat.le_trans hl h), hk.2.2.1⟩)
theorem OwnR.mark (h : Kd.R d e w' b (fun k => (lo ≤ k ∧ k < hi) ∨ w.heap.size ≤ k) v xs) (hl : lo ≤ w.heap.size) : OwnR d e b w' lo w'.heap.size v xs := Kd.R_mono (Kd.R_bound h) (fun k hk => ⟨hk.1.elim (fun h => h.1) (fun h => Nat.le_trans hl h), hk.2.2.1⟩)
theorem Own.S (h : Own d e b w lo hi v xs) : Kd.S d e w b (fun k => lo ≤ k ∧ k < hi) v xs := h
theorem OwnR.R (h : OwnR d e b w lo hi v xs) : Kd.R d e w b (fun k => lo ≤ k ∧ k < hi) v xs := h
theorem Own.below (h : Own d e b w lo hi v xs) (hb : Below w.heap.size w w') : Own d e b w' lo hi v xs := Kd.S_below h hb
theorem OwnR.below (h : OwnR d e b w lo hi v xs) (hb : Below w.heap.size w w') : OwnR d e b w' lo hi v xs := Kd.R_below h hb
theorem Own.kept (h : Own d e b w lo hi v xs) (hk : Kept w w' P) (hp : ∀ k, lo ≤ k → k < hi → ¬ P k) : Own d e b w' lo hi v xs := Kd.S_step h (fun k ho hlt => hk.2 k hlt (hp k ho.1 ho.2))
theorem OwnR.kept (h : OwnR d e b w lo hi v xs) (hk : Kept w w' P) (hp : ∀ k, lo ≤ k → k < hi → ¬ P k) : OwnR d e b w' lo hi v xs := Kd.R_step h (fun k ho hlt => hk.2 k hlt (hp k ho.1 ho.2))
theorem Own.reads {A : Option Addr} {n c : Nat} (h : Own d e b w lo hi (.slice A n c) xs) : n = xs.length ∧ n ≤ c ∧ d.C w A xs.length xs := Kd.S_reads' h
theorem OwnR.reads {A : Option Addr} {n c : Nat} (h : OwnR d e b w lo hi (.slice A n c) xs) : n = xs.length ∧ n ≤ c ∧ d.C w A xs.length xs := Kd.R_reads' h
theorem Own.cap {A : Option Addr} {c : Nat} (h : Own d e b w lo hi (.slice A xs.length c) xs) : xs.length ≤ c := (Kd.S_reads' h).2.1
theorem OwnR.cap {A : Option Addr} {c : Nat} (h : OwnR d e b w lo hi (.slice A xs.length c) xs) : xs.length ≤ c := (Kd.R_reads' h).2.1
theorem Own.slice (h : Own d e b w lo hi v xs) : ∃ A c, v = .slice A xs.length c := Kd.S_slice h
theorem OwnR.slice (h : OwnR d e b w lo hi v xs) : ∃ A c, v = .slice A xs.length c := Kd.R_slice h
theorem drawn_below (h : Drawn0 w w') : Below w.heap.size w w' := by
  obtain ⟨n, rfl⟩ := h
  exact pw_below_drewN (Below.refl _ _) n
theorem blk_b (h : w.heap[g]? = some o) (hb : Below w.heap.size w w') : w'.heap[g]? = some o := (hb.block g (blk_lt h)).trans h
theorem blk_k (h : w.heap[g]? = some o) (hk : Kept w w' P) (hp : ¬ P g) : w'.heap[g]? = some o := (hk.2 g (blk_lt h) hp).trans h
theorem apart_types {β : Type} {d' : Kd β} {e' b' k : Nat} {ok' : Nat → Prop} {v' : Value} {ys : List β} (hk : ∃ q, q ∈ e :: d.E ∧ ∃ cells, w.heap[k]? = some (.cells cells q (0, 0))) (hR : d'.R e' w b' ok' v' ys) (he : some k = v'.ownBlock) (ht : ¬ e' ∈ e :: d.E) : False := by
  obtain ⟨q, hq, cells, hc⟩ := hk
  obtain ⟨cells', hc'⟩ := Kd.R_typed hR k he.symm
  rw [hc] at hc'
  simp at hc'
  have h3 : q = e' := hc'.2
  subst h3
  exact ht hq
theorem drew_below (w : World) : Below w.heap.size w w.drew := below_drew1 (Below.refl _ _)
end
theorem set2_kept (W : World) (g : Nat) (a b : Value) : Kept W ((W.setCell ⟨g, 0, none⟩ a).setCell ⟨g, 1, none⟩ b) (fun k => k = g) := Kept.setCell (S := fun k => k = g) (Kept.setCell (S := fun k => k = g) (Kept.refl _ _) (.inl rfl) a) (.inl rfl) b
theorem set2_blk {W : World} {g t : Nat} {x y : Value} (h : W.heap[g]? = some (.cells #[x, y] t (0, 0))) (a b : Value) : ((W.setCell ⟨g, 0, none⟩ a).setCell ⟨g, 1, none⟩ b).heap[g]? = some (.cells #[a, b] t (0, 0)) := blk_put (cs := #[a, y]) (blk_put (cs := #[x, y]) h 0 a rfl) 1 b rfl
theorem set2_below {w W : World} {g : Nat} (h : Below w.heap.size w W) (hg : w.heap.size ≤ g) (a b : Value) : Below w.heap.size w ((W.setCell ⟨g, 0, none⟩ a).setCell ⟨g, 1, none⟩ b) := below_set (below_set h hg) hg
/-! ### laws_markProg: function 40 -/
def laws_markProg.f (k : Nat) (l0 : List Int) (l1 : List (List S37)) (a1 : Int) : Option (Int × List Int × List (List S37)) := (laws_markIntS.f k l0 a1).bind fun p => (laws_markInsSS.f k l1 p.1).bind fun q => some (q.1, p.2, q.2)
set_option maxHeartbeats 8000000 in
set_option maxRecDepth 100000 in
theorem laws_markProg.calls (k lo hi : Nat) (v0 v1 : Value) (l0 : List Int) (l1 : List (List S37)) (a1 r1 : Int) (r2 : List Int) (r3 : List (List S37)) (w0 w : World) (hB : Below w0.heap.size w0 w) (hlo : w0.heap.size ≤ lo) (hlw : lo ≤ w.heap.size) (ho0 : OwnR (Kd.int .i64) 3 w0.heap.size w lo hi v0 l0) (ho1 : Own (Kd.slice 37 k37) 51 w0.heap.size w lo hi v1 l1) (h : laws_markProg.f k l0 l1 a1 = some (r1, r2, r3)) :
    Calls Try.prog 40 #[.agg #[v0, v1], .int .i64 a1] w fun e w' => e = .returned (.int .i64 r1) ∧ Kd.R (Kd.int .i64) 3 w' w0.heap.size (fun k => (lo ≤ k ∧ k < hi) ∨ w.heap.size ≤ k) v0 r2 ∧ Kd.S (Kd.slice 37 k37) 51 w' w0.heap.size (fun k => (lo ≤ k ∧ k < hi) ∨ w.heap.size ≤ k) v1 r3 ∧ Below w0.heap.size w0 w' ∧ Kept w w' (fun k => lo ≤ k ∧ k < hi) := by
  obtain ⟨⟨m1, M1⟩, hm1, h⟩ := Option.bind_eq_some_iff.mp h
  obtain ⟨⟨m2, M2⟩, hm2, h⟩ := Option.bind_eq_some_iff.mp h
  simp only [Option.some.injEq, Prod.mk.injEq] at h
  obtain ⟨rfl, rfl, rfl⟩ := h
  have HM1 := Aside0.mk hm1
  have HM2 := Aside0.mk hm2
  have HB := Aside0.mk hB
  have HL := Aside0.mk hlo
  have HW := Aside0.mk hlw
  have HO0 := Aside0.mk ho0
  have HO1 := Aside0.mk ho1
  clear hm1 hm2 hB ho0 ho1 hlo hlw
  obtain ⟨A0, c0, e0⟩ := OwnR.slice HO0.out
  subst e0
  obtain ⟨A1, c1, e1⟩ := Own.slice HO1.out
  subst e1
  go_enter Try.func40, Try.ntmps40
  go_wp2_with (first | ((with_reducible refine gate_dst (N := 2) rfl ?_); refine box_event ?hg (N := 2) ?hd (cs := #[.slice A0 l0.length c0, .slice A1 l1.length c1]) (t := 30) ?hr ?_; (case hd => rfl); (case hg => rfl); (case hr => first | (go_simp; done) | (go_simp; rfl)); intro g hg w1 hbox hb; have n_0 := Aside0.mk (OwnR.below HO0.out hb); have n_1 := Aside0.mk (Own.below HO1.out hb); have n_B := Aside0.mk (below_then HB.out HB.out.size hb); have HZ := Aside0.mk hb.size; have BG := Aside0.mk hbox; have HG := Aside0.mk (show w.heap.size ≤ g from Nat.le_of_eq hg.symm); have HK := Aside0.mk (Kept.of_below hb (fun k => lo ≤ k ∧ k < hi)); clear HO0 HO1 HB hb hbox hg; have HO0 := n_0; have HO1 := n_1; have HB := n_B; clear n_0 n_1 n_B; have hcz0 : w1.cell? ⟨g, 0, none⟩ = some (.slice A0 l0.length c0) := (blk_cell BG.out 0).trans rfl; have hcz1 : w1.cell? ⟨g, 1, none⟩ = some (.slice A1 l1.length c1) := (blk_cell BG.out 1).trans rfl) | (go_at_call 39; (with_reducible refine (laws_markIntS.calls k (fun k => some k = (Value.slice A0 l0.length c0).ownBlock) (.slice A0 l0.length c0) l0 a1 m1 M1 w0 _ HB.out (Kd.R_tight rfl (OwnR.R HO0.out)) HM1.out).mono ?_); rintro e w2 ⟨rfl, hR, hB2, hK2⟩; have hin : ∀ k, some k = (Value.slice A0 l0.length c0).ownBlock → (lo ≤ k ∧ k < hi) ∧ k < w1.heap.size := (fun k hk => ⟨(OwnR.R HO0.out).1 k hk.symm, Kd.R_lt (OwnR.R HO0.out) k hk.symm⟩); have hap : ∀ k, k = g → ¬ some k = (Value.slice A0 l0.length c0).ownBlock := (fun k hk he => Kd.R_ne (OwnR.R HO0.out) BG.out (by decide) (hk ▸ he)); have HKK := Aside0.mk (Kept.then_ HK.out hK2 (fun k hk => .inl (hin k hk).1)); have NB := Aside0.mk (blk_k BG.out hK2 (hap g rfl)); have NS := Aside0.mk (show Own (Kd.slice 37 k37) 51 w0.heap.size w2 lo hi (.slice A1 l1.length c1) l1 from Kd.S_mono (Kd.S_step (Kd.S_bound (Own.S HO1.out)) (fun k hk hlt => hK2.2 k hlt (fun he => apart_types hk.2.2.2 (OwnR.R HO0.out) he (by decide)))) (fun k hk => hk.1)); have NR := Aside0.mk (show OwnR (Kd.int .i64) 3 w0.heap.size w2 lo hi (.slice A0 l0.length c0) M1 from Kd.R_mono (Kd.R_tight rfl hR) (fun k hk => (hin k hk).1)); have NHB := Aside0.mk hB2; have NZ := Aside0.mk (Nat.le_trans HZ.out hK2.1); clear hR hB2 hK2 hin hap HK BG HO0 HO1 HB HZ hcz0 hcz1; have HK := HKK; have BG := NB; have HO1 := NS; have HO0 := NR; have HB := NHB; have HZ := NZ; clear HKK NB NS NR NHB NZ; have hcz0 : w2.cell? ⟨g, 0, none⟩ = some (.slice A0 l0.length c0) := (blk_cell BG.out 0).trans rfl; have hcz1 : w2.cell? ⟨g, 1, none⟩ = some (.slice A1 l1.length c1) := (blk_cell BG.out 1).trans rfl) | (go_at_call 127; (with_reducible refine (laws_markInsSS.calls k (fun k => (lo ≤ k ∧ k < hi) ∧ ¬ some k = (Value.slice A0 l0.length c0).ownBlock) (.slice A1 l1.length c1) l1 m1 m2 M2 w0 _ HB.out ?hs HM2.out).mono ?_); (case hs => exact Kd.S_mono (Kd.S_bound (Own.S HO1.out)) (fun k hk => ⟨hk.1, fun he => apart_types hk.2.2.2 (OwnR.R HO0.out) he (by decide)⟩)); rintro e w3 ⟨rfl, hS, hB3, hK3⟩; have HKK := Aside0.mk (Kept.then_ HK.out hK3 (fun k hk => .inl hk.1)); have NR := Aside0.mk (show OwnR (Kd.int .i64) 3 w0.heap.size w3 lo hi (.slice A0 l0.length c0) M1 from Kd.R_mono (Kd.R_step (Kd.R_tight rfl (OwnR.R HO0.out)) (fun k hk hlt => hK3.2 k hlt (fun h => h.2 hk))) (fun k hk => (OwnR.R HO0.out).1 k hk.symm)); have NS := Aside0.mk (show Kd.S (Kd.slice 37 k37) 51 w3 w0.heap.size (fun k => (lo ≤ k ∧ k < hi) ∨ w.heap.size ≤ k) (.slice A1 l1.length c1) M2 from Kd.S_mono hS (fun k hk => hk.elim (fun h => .inl h.1) (fun h => .inr (Nat.le_trans HZ.out h)))); have NHB := Aside0.mk hB3; clear hS hB3 hK3 HK HO0 HB hcz0 hcz1; have HK := HKK; have HO0 := NR; have HB := NHB; clear HKK NR NHB))
  go_ret
  exact ⟨rfl, Kd.R_mono (OwnR.R HO0.out) (fun k h => .inl h), NS.out, HB.out, HK.out⟩
end Go.Proofs.Ytonlhgkpmjefkaa.XFnExactStarts
