/- The walk of FnExactTrimProg, over what its functions answer; for every world. -/
import Derived.Test.YtocimkpafakiaaaEachFnExactTrimProg
namespace Go.Proofs.Ytocimkpafakiaaa.XFnExactTrimProg
open Go.RowKit Go.Proofs.YtocimkpafakiaaaW.PrintWords Go.Proofs.YtocimkpafakiaaaW.PrintLast Go.Proofs.YtocimkpafakiaaaW.PrintMore
attribute [local go_sem] max2_int min2_int max_two min_two max_three min_three max_four min_four
set_option linter.unusedVariables false
set_option linter.unusedSimpArgs false
theorem atw_0_0 {p : Prop} (h : p := by have := Zw1_.out; have := Zw2_.out; have := Zw3_.out; have := Zw4_.out; have := Zw5_.out; have := Zw6_.out; have := Zw7_.out; have := Zw8_.out; have := Zw9_.out; have := Zw10_.out; have := Zw11_.out; have := Zw12_.out; have := Zw13_.out; have := Zw14_.out; have := Zw15_.out; have := Zw16_.out; have := Zw17_.out; have := Zw18_.out; have := Zw19_.out; have := Zw20_.out; have := Zw21_.out; have := Zw22_.out; have := Zw23_.out; have := Gb1.out; have := Gb2.out; have := Gb3.out; have := Gb4.out; have := Gb5.out; omega) : p := h
theorem atw_0_1 {p : Prop} (h : p := by have := Zw1_.out; have := Zw2_.out; have := Zw3_.out; have := Zw4_.out; have := Zw5_.out; have := Zw6_.out; have := Zw7_.out; have := Zw8_.out; have := Zw9_.out; have := Zw10_.out; have := Zw11_.out; have := Gb1.out; have := Gb2.out; have := Gb3.out; have := Gb4.out; omega) : p := h
theorem atw_0_2 {p : Prop} (h : p := by have := Zw1_.out; have := Zw2_.out; have := Zw3_.out; have := Zw4_.out; have := Zw5_.out; have := Zw6_.out; have := Zw7_.out; have := Zw8_.out; have := Zw9_.out; have := Zw10_.out; have := Zw11_.out; have := Zw12_.out; have := Zw13_.out; have := Zw14_.out; have := Zw15_.out; have := Zw16_.out; have := Gb1.out; have := Gb2.out; have := Gb3.out; have := Gb4.out; omega) : p := h
theorem atw_0_3 {p : Prop} (h : p := by have := Zw1_.out; have := Zw2_.out; have := Zw3_.out; have := Zw4_.out; have := Zw5_.out; have := Zw6_.out; have := Zw7_.out; have := Zw8_.out; have := Gb1.out; have := Gb2.out; have := Gb3.out; omega) : p := h
theorem atw_0_4 {p : Prop} (h : p := by have := Zw1_.out; have := Zw2_.out; have := Zw3_.out; have := Zw4_.out; have := Zw5_.out; have := Zw6_.out; have := Zw7_.out; have := Zw8_.out; have := Zw9_.out; have := Zw10_.out; have := Zw11_.out; have := Zw12_.out; have := Zw13_.out; have := Zw14_.out; have := Zw15_.out; have := Zw16_.out; have := Zw17_.out; have := Zw18_.out; have := Gb1.out; have := Gb2.out; have := Gb3.out; have := Gb4.out; omega) : p := h
theorem atw_0_5 {p : Prop} (h : p := by have := Zw1_.out; have := Zw2_.out; have := Zw3_.out; have := Zw4_.out; have := Zw5_.out; have := Zw6_.out; have := Zw7_.out; have := Zw8_.out; have := Zw9_.out; have := Zw10_.out; have := Zw11_.out; have := Zw12_.out; have := Zw13_.out; have := Zw14_.out; have := Zw15_.out; have := Zw16_.out; have := Zw17_.out; have := Zw18_.out; omega) : p := h
theorem atw_0_6 {p : Prop} (h : p := by have := Zw1_.out; have := Zw2_.out; have := Zw3_.out; have := Zw4_.out; have := Zw5_.out; have := Zw6_.out; have := Zw7_.out; have := Zw8_.out; have := Zw9_.out; have := Zw10_.out; have := Zw11_.out; have := Zw12_.out; have := Zw13_.out; have := Zw14_.out; have := Zw15_.out; have := Zw16_.out; omega) : p := h
theorem atw_0_7 {p : Prop} (h : p := by have := Zw1_.out; have := Zw2_.out; have := Zw3_.out; have := Zw4_.out; have := Zw5_.out; have := Gb1.out; have := Gb2.out; omega) : p := h
theorem atw_0_8 {p : Prop} (h : p := by repeat (first | (with_reducible first | exact HK.out | apply Kept.alloc | apply Kept.drewN | apply Kept.drew) | exact HK.out)) : p := h
theorem atw_0_9 {p : Prop} (h : p := by first | (rw [hw]; exact set2_kept _ _ _ _) | rw [hw]) : p := h
theorem atw_0_10 {p : Prop} (h : p := by (try simp only [List.map_toArray, List.map_cons, List.map_nil]); first | done | rfl | (simp only [List.length_drop, List.length_take]; rfl)) : p := h
theorem atw_0_11 {p : Prop} (h : p := by repeat (first | (with_reducible first | exact HB.out | apply below_alloc | apply pw_below_drewN | apply below_drew1) | exact HB.out)) : p := h
/-! ### laws_markInsSS: function 108 -/
def laws_markInsSS.l0 : Nat → List (List S63) → Int → Int → Option (Int × List (List S63))
  | 0, _, _, _ => none
  | k + 1, x0, x1, x5 => if x5 < (x0.length : Int) then (if 0 ≤ x5 then ((laws_markInsS.f k (x0.getD x5.toNat []) x1).bind fun p => laws_markInsSS.l0 k (x0.set x5.toNat p.2) p.1 (wrap64 (x5 + 1))) else none) else some (x1, x0)
def laws_markInsSS.f (k : Nat) (l0 : List (List S63)) (a1 : Int) : Option (Int × List (List S63)) := laws_markInsSS.l0 k l0 a1 0
set_option maxHeartbeats 80000000 in
set_option maxRecDepth 100000 in
theorem laws_markInsSS.calls (k : Nat) (P0_ : Nat → Prop) (u9000_ : Value) (l0 : List (List S63)) (a1 r1 : Int) (r2 : List (List S63)) (w0 w : World) (hB : Below w0.heap.size w0 w) (ho0 : Kd.S (Kd.slice 63 k63) 24 w w0.heap.size P0_ u9000_ l0) (h : laws_markInsSS.f k l0 a1 = some (r1, r2)) :
    Calls Try.prog 108 #[u9000_, .int .i64 a1] w fun e w' => e = .returned (.int .i64 r1) ∧ Kd.S (Kd.slice 63 k63) 24 w' w0.heap.size (fun k_ => (P0_ k_ ∨ w.heap.size ≤ k_)) u9000_ r2 ∧ Below w0.heap.size w0 w' ∧ Kept w w' (fun k_ => P0_ k_) := by
  have HO0 := Aside0.mk (show Kd.S (Kd.slice 63 k63) 24 w w0.heap.size (fun k_ => (P0_ k_ ∨ w.heap.size ≤ k_)) u9000_ l0 from Kd.S_mono ho0 (fun k_ hk => (.inl hk)))
  have HK := Aside0.mk (Kept.refl w (fun k_ => P0_ k_))
  have HB := Aside0.mk hB
  have H' := Aside0.mk (show laws_markInsSS.l0 k l0 a1 0 = some (r1, r2) from h)
  clear hB ho0 h
  go_enter Try.func108, Try.ntmps108
  go_wp2
  go_loopg [1, 5] k (fun kq v1 v5 w' => ∃ (x0_1 : List (List S63)) (x1_1 : Int) (x5_1 : Int), v1 = .int .i64 x1_1 ∧ v5 = .int .i64 x5_1 ∧ Aside0 (laws_markInsSS.l0 kq x0_1 x1_1 x5_1 = some (r1, r2)) ∧ Aside0 (kq ≤ k) ∧ Aside0 (Kd.S (Kd.slice 63 k63) 24 w' w0.heap.size (fun k_ => (P0_ k_ ∨ w.heap.size ≤ k_)) u9000_ x0_1) ∧ Aside0 (Kept w w' (fun k_ => P0_ k_)) ∧ Aside0 (Below w0.heap.size w0 w'))
  case atStart => exact ⟨l0, a1, 0, rfl, rfl, H', ⟨Nat.le_refl _⟩, ⟨by (with_reducible repeat (first | apply Kd.S_alloc | apply Kd.S_drewN | apply Kd.S_drew)); exact HO0.out⟩, ⟨atw_0_8⟩, ⟨atw_0_11⟩⟩
  case round =>
    clear H'
    obtain ⟨x0_1, x1_1, x5_1, rfl, rfl, HA, HK1, HO_0, HK, HB⟩ := hrel
    cases gk with
    | zero => exact absurd HA.out (by simp [laws_markInsSS.l0])
    | succ k1 =>
      have H := HA.out
      clear HA
      simp only [laws_markInsSS.l0] at H
      by_cases c3 : x5_1 < (x0_1.length : Int)
      · rw [if_pos c3] at H
        have c3b0 : decide (x5_1 < (x0_1.length : Int)) = true := decide_eq_true c3
        by_cases c4 : 0 ≤ x5_1
        · rw [if_pos c4] at H
          have c4b0 : decide (0 ≤ x5_1) = true := decide_eq_true c4
          obtain ⟨Ao8, co8, eo8⟩ := Kd.S_slice HO_0.out
          subst eo8
          obtain ⟨go5, co5, eo5, gb5, gl5, cl5, HG5⟩ := Kd.S_form HO_0.out (by omega)
          (first | cases eo5 | (injection eo5 with ea_ en_ ec_; (first | subst ea_ | (injection ea_ with ea_; subst ea_)); subst ec_; clear en_))
          obtain ⟨oki, c, hcl, hM, hcc, hoki, hH⟩ := Kd.S_lend HO_0.out [] x5_1 c4 c3
          obtain ⟨ui, rfl, hRi⟩ := hM
          have hx5_0 : wr.cell? ⟨go5, (x5_1 : Int).toNat, none⟩ = some ui := by have h_ := hcc 0 _ rfl; rwa [show (Kd.slice 63 k63).sz = 1 from rfl, Nat.mul_one, Nat.add_zero] at h_
          obtain ⟨ri, hri⟩ : ∃ ri, ri = x0_1.getD x5_1.toNat [] := ⟨_, rfl⟩
          rw [← hri] at H hRi
          obtain ⟨⟨m1, m2⟩, hA, H⟩ := Option.bind_eq_some_iff.mp H
          have HAm := Aside0.mk hA
          have HRi := Aside0.mk hRi
          have HHi := Aside0.mk hH
          have HOk := Aside0.mk hoki
          have H' := Aside0.mk (show laws_markInsSS.l0 k1 (x0_1.set x5_1.toNat m2) m1 (wrap64 (x5_1 + 1)) = some (r1, r2) from H)
          clear H hA hRi hH hoki hcc hcl hri gb5 gl5 HG5
          replace c3 := eq_true c3
          replace c4 := eq_true c4
          go_wp2_with (first | (go_at_call 17; (with_reducible refine (laws_markInsS.calls k1 oki ui ri x1_1 m1 m2 w0 _ HB.out HRi.out HAm.out).mono ?_); rintro e w' ⟨rfl, hR', hB', hK'⟩; have HS' := Aside0.mk (Kd.H_back (Kd.H_step (Kd.H_widen HHi.out) (fun k hk hn hlt => hK'.2 k hlt (fun ho => hn (.inl ho)))) (x' := m2) ⟨ui, rfl, hR'⟩ (fun k hk => hk.elim .inl (fun h => .inr ⟨.inr (Nat.le_trans HK.out.1 h), h⟩))); have HK2 := Aside0.mk (show Kept w w' (fun k_ => P0_ k_) from ⟨Nat.le_trans HK.out.1 hK'.1, fun i hi hn => (hK'.2 i (Nat.lt_of_lt_of_le hi HK.out.1) (fun ho => (HOk.out i ho).1.elim hn (fun h => Nat.not_le.2 hi h))).trans (HK.out.2 i hi hn)⟩); have HB2 := Aside0.mk hB'; clear HO_0 HK HB HRi HHi hR' hB' hK'; have HO_0 := HS'; have HK := HK2; have HB := HB2; clear HS' HK2 HB2))
          go_roundg k1
          case measure => have := HK1.out; omega
          case rel => exact ⟨_, m1, (wrap64 (x5_1 + 1)), (by first | rfl | (simp; done) | (simp [*]; done)), (by first | rfl | (simp; done) | (simp [*]; done)), H', ⟨by have := HK1.out; omega⟩, ⟨by (with_reducible repeat (first | apply Kd.S_alloc | apply Kd.S_drewN | apply Kd.S_drew)); exact HO_0.out⟩, ⟨atw_0_8⟩, ⟨atw_0_11⟩⟩
        · rw [if_neg c4] at H
          exact absurd H (by simp)
      · rw [if_neg c3] at H
        have c3b0 : decide (x5_1 < (x0_1.length : Int)) = false := decide_eq_false c3
        clear c3
        simp only [Option.some.injEq, Prod.mk.injEq] at H
        obtain ⟨rfl, rfl⟩ := H
        obtain ⟨Ao15, co15, eo15⟩ := Kd.S_slice HO_0.out
        subst eo15
        go_wp2
        go_ret
        exact ⟨rfl, by (with_reducible repeat (first | apply Kd.S_alloc | apply Kd.S_drewN | apply Kd.S_drew)); exact HO_0.out, by repeat (first | (with_reducible first | exact HB.out | apply below_alloc | apply pw_below_drewN | apply below_drew1) | exact HB.out), atw_0_8⟩

def OwnN {α : Type} (d : Kd α) (e : Nat) (b : Nat) (w : World) (lo hi : Nat) (v : Value) (xs : List α) : Prop := Kd.N d e w b (fun k => lo ≤ k ∧ k < hi) v xs
section
variable {α : Type} {d : Kd α} {e b lo hi : Nat} {w w' : World} {v : Value} {xs : List α} {ok P : Nat → Prop}
theorem OwnN.new {B : Nat} (h : Kd.N d e w' B ok v xs) (hB : ∀ k, ok k → B ≤ k) (hb : b ≤ B) : OwnN d e b w' B w'.heap.size v xs := Kd.N_lower (Kd.N_mono (Kd.N_bound h) (fun k hk => ⟨hB k hk.1, hk.2⟩)) hb
theorem OwnN.below (h : OwnN d e b w lo hi v xs) (hb : Below w.heap.size w w') : OwnN d e b w' lo hi v xs := Kd.N_below h hb
theorem OwnN.kept (h : OwnN d e b w lo hi v xs) (hk : Kept w w' P) (hp : ∀ k, lo ≤ k → k < hi → ¬ P k) : OwnN d e b w' lo hi v xs := Kd.N_step h (fun k ho hlt => hk.2 k hlt (hp k ho.1 ho.2))
theorem OwnN.reads {A : Option Addr} {n c : Nat} (h : OwnN d e b w lo hi (.slice A n c) xs) : n = xs.length ∧ n ≤ c ∧ d.C w A xs.length xs := Kd.N_reads' h
theorem OwnN.slice (h : OwnN d e b w lo hi v xs) : ∃ A c, v = .slice A xs.length c := Kd.N_slice h
end
/-! ### laws_markProg: function 59 -/
def laws_markProg.f (k : Nat) (l0 : List Int) (l1 : List (List S63)) (a1 : Int) : Option (Int × List Int × List (List S63)) := (laws_markIntS.f k l0 a1).bind fun p => (laws_markInsSS.f k l1 p.1).bind fun q => some (q.1, p.2, q.2)
set_option maxHeartbeats 80000000 in
set_option maxRecDepth 100000 in
theorem laws_markProg.calls (k lo hi : Nat) (v0 v1 : Value) (l0 : List Int) (l1 : List (List S63)) (a1 r1 : Int) (r2 : List Int) (r3 : List (List S63)) (w0 w : World) (hB : Below w0.heap.size w0 w) (hlo : w0.heap.size ≤ lo) (hlw : lo ≤ w.heap.size) (ho0 : OwnR (Kd.int .i64) 3 w0.heap.size w lo hi v0 l0) (ho1 : Own (Kd.slice 63 k63) 24 w0.heap.size w lo hi v1 l1) (h : laws_markProg.f k l0 l1 a1 = some (r1, r2, r3)) :
    Calls Try.prog 59 #[.agg #[v0, v1], .int .i64 a1] w fun e w' => e = .returned (.int .i64 r1) ∧ Kd.R (Kd.int .i64) 3 w' w0.heap.size (fun k => (lo ≤ k ∧ k < hi) ∨ w.heap.size ≤ k) v0 r2 ∧ Kd.S (Kd.slice 63 k63) 24 w' w0.heap.size (fun k => (lo ≤ k ∧ k < hi) ∨ w.heap.size ≤ k) v1 r3 ∧ Below w0.heap.size w0 w' ∧ Kept w w' (fun k => lo ≤ k ∧ k < hi) := by
  obtain ⟨⟨m1, M1⟩, hm1, h⟩ := Option.bind_eq_some_iff.mp h
  obtain ⟨⟨m2, M2⟩, hm2, h⟩ := Option.bind_eq_some_iff.mp h
  simp only [Option.some.injEq, Prod.mk.injEq] at h
  obtain ⟨rfl, rfl, rfl⟩ := h
  have HM1 := Aside0.mk hm1
  have HM2 := Aside0.mk hm2
  have HB := Aside0.mk hB
  have HL := Aside0.mk hlo
  have HW := Aside0.mk hlw
  have HO0 := Aside0.mk ho0
  have HO1 := Aside0.mk ho1
  clear hm1 hm2 hB ho0 ho1 hlo hlw
  obtain ⟨A0, c0, e0⟩ := OwnR.slice HO0.out
  subst e0
  obtain ⟨A1, c1, e1⟩ := Own.slice HO1.out
  subst e1
  go_enter Try.func59, Try.ntmps59
  go_wp2_with (first | ((with_reducible refine gate_dst (N := 2) rfl ?_); refine box_event ?hg (N := 2) ?hd (cs := #[.slice A0 l0.length c0, .slice A1 l1.length c1]) (t := 56) ?hr ?_; (case hd => rfl); (case hg => rfl); (case hr => first | (go_simp; done) | (go_simp; rfl)); intro g hg w1 hbox hb; have n_0 := Aside0.mk (OwnR.below HO0.out hb); have n_1 := Aside0.mk (Own.below HO1.out hb); have n_B := Aside0.mk (below_then HB.out HB.out.size hb); have HZ := Aside0.mk hb.size; have BG := Aside0.mk hbox; have HG := Aside0.mk (show w.heap.size ≤ g from Nat.le_of_eq hg.symm); have HK := Aside0.mk (Kept.of_below hb (fun k => lo ≤ k ∧ k < hi)); clear HO0 HO1 HB hb hbox hg; have HO0 := n_0; have HO1 := n_1; have HB := n_B; clear n_0 n_1 n_B; have hcz0 : w1.cell? ⟨g, 0, none⟩ = some (.slice A0 l0.length c0) := (blk_cell BG.out 0).trans rfl; have hcz1 : w1.cell? ⟨g, 1, none⟩ = some (.slice A1 l1.length c1) := (blk_cell BG.out 1).trans rfl) | (go_at_call 43; (with_reducible refine (laws_markIntS.calls k (fun k => some k = (Value.slice A0 l0.length c0).ownBlock) (.slice A0 l0.length c0) l0 a1 m1 M1 w0 _ HB.out (Kd.R_tight rfl (OwnR.R HO0.out)) HM1.out).mono ?_); rintro e w2 ⟨rfl, hR, hB2, hK2⟩; have hin : ∀ k, some k = (Value.slice A0 l0.length c0).ownBlock → (lo ≤ k ∧ k < hi) ∧ k < w1.heap.size := (fun k hk => ⟨(OwnR.R HO0.out).1 k hk.symm, Kd.R_lt (OwnR.R HO0.out) k hk.symm⟩); have hap : ∀ k, k = g → ¬ some k = (Value.slice A0 l0.length c0).ownBlock := (fun k hk he => Kd.R_ne (OwnR.R HO0.out) BG.out (by decide) (hk ▸ he)); have HKK := Aside0.mk (Kept.then_ HK.out hK2 (fun k hk => .inl (hin k hk).1)); have NB := Aside0.mk (blk_k BG.out hK2 (hap g rfl)); have NS := Aside0.mk (show Own (Kd.slice 63 k63) 24 w0.heap.size w2 lo hi (.slice A1 l1.length c1) l1 from Kd.S_mono (Kd.S_step (Kd.S_bound (Own.S HO1.out)) (fun k hk hlt => hK2.2 k hlt (fun he => apart_types hk.2.2.2 (OwnR.R HO0.out) he (by decide)))) (fun k hk => hk.1)); have NR := Aside0.mk (show OwnR (Kd.int .i64) 3 w0.heap.size w2 lo hi (.slice A0 l0.length c0) M1 from Kd.R_mono (Kd.R_tight rfl hR) (fun k hk => (hin k hk).1)); have NHB := Aside0.mk hB2; have NZ := Aside0.mk (Nat.le_trans HZ.out hK2.1); clear hR hB2 hK2 hin hap HK BG HO0 HO1 HB HZ hcz0 hcz1; have HK := HKK; have BG := NB; have HO1 := NS; have HO0 := NR; have HB := NHB; have HZ := NZ; clear HKK NB NS NR NHB NZ; have hcz0 : w2.cell? ⟨g, 0, none⟩ = some (.slice A0 l0.length c0) := (blk_cell BG.out 0).trans rfl; have hcz1 : w2.cell? ⟨g, 1, none⟩ = some (.slice A1 l1.length c1) := (blk_cell BG.out 1).trans rfl) | (go_at_call 108; (with_reducible refine (laws_markInsSS.calls k (fun k => (lo ≤ k ∧ k < hi) ∧ ¬ some k = (Value.slice A0 l0.length c0).ownBlock) (.slice A1 l1.length c1) l1 m1 m2 M2 w0 _ HB.out ?hs HM2.out).mono ?_); (case hs => exact Kd.S_mono (Kd.S_bound (Own.S HO1.out)) (fun k hk => ⟨hk.1, fun he => apart_types hk.2.2.2 (OwnR.R HO0.out) he (by decide)⟩)); rintro e w3 ⟨rfl, hS, hB3, hK3⟩; have HKK := Aside0.mk (Kept.then_ HK.out hK3 (fun k hk => .inl hk.1)); have NR := Aside0.mk (show OwnR (Kd.int .i64) 3 w0.heap.size w3 lo hi (.slice A0 l0.length c0) M1 from Kd.R_mono (Kd.R_step (Kd.R_tight rfl (OwnR.R HO0.out)) (fun k hk hlt => hK3.2 k hlt (fun h => h.2 hk))) (fun k hk => (OwnR.R HO0.out).1 k hk.symm)); have NS := Aside0.mk (show Kd.S (Kd.slice 63 k63) 24 w3 w0.heap.size (fun k => (lo ≤ k ∧ k < hi) ∨ w.heap.size ≤ k) (.slice A1 l1.length c1) M2 from Kd.S_mono hS (fun k hk => hk.elim (fun h => .inl h.1) (fun h => .inr (Nat.le_trans HZ.out h)))); have NHB := Aside0.mk hB3; clear hS hB3 hK3 HK HO0 HB hcz0 hcz1; have HK := HKK; have HO0 := NR; have HB := NHB; clear HKK NR NHB))
  go_ret
  exact ⟨rfl, Kd.R_mono (OwnR.R HO0.out) (fun k h => .inl h), NS.out, HB.out, HK.out⟩

theorem held_ (k : Nat) (A0 : Option Addr) (c0 n : Nat) (l0 : List Int) (A1 : Option Addr) (c1 n1 : Nat) (l1 : List (List S63)) (a1 r : Int) (w : World) (hr : n = l0.length ∧ n ≤ c0 ∧ Kd.C (Kd.int .i64) w A0 l0.length l0) (hr2 : n1 = l1.length ∧ n1 ≤ c1 ∧ Kd.C (Kd.slice 63 k63) w A1 l1.length l1) (h : laws_heldProg.f k l0 l1 a1 = some r) : Calls Try.prog 60 #[.agg #[.slice A0 n c0, .slice A1 n1 c1], .int .i64 a1] w fun e w' => e = .returned (.int .i64 r) ∧ Below w.heap.size w w' := by
  obtain ⟨rfl, h1, h2⟩ := hr
  obtain ⟨rfl, h3, h4⟩ := hr2
  exact laws_heldProg.calls k A0 c0 l0 A1 c1 l1 a1 r w h2 h1 h4 h3 h
set_option maxHeartbeats 80000000 in
set_option maxRecDepth 100000 in
theorem laws_FnExactTrimProg.small (k : Nat) (A0 : Option Addr) (c0 : Nat) (l0 : List Int) (A1 : Option Addr) (c1 : Nat) (l1 : List (List S65)) (z : Int) (w : World) (hr0 : Kd.C (Kd.int .i64) w A0 l0.length l0) (hc0 : l0.length ≤ c0) (hr1 : Kd.C (Kd.slice 65 k65) w A1 l1.length l1) (hc1 : l1.length ≤ c1) (hsz : laws_szProg.f k l0 l1 1048576 = some z) (hz : z < 0) :
    Calls Try.prog 11 #[.agg #[.slice A0 l0.length c0, .slice A1 l1.length c1]] w fun e w' => e = .returned (.bool true) ∧ Below w.heap.size w w' := by
  have hu52 := Try.underlying52
  have hu56 := Try.underlying56
  have HR0 := Aside0.mk hr0
  have HC0 := Aside0.mk hc0
  have HR1 := Aside0.mk hr1
  have HC1 := Aside0.mk hc1
  have HSZ := Aside0.mk hsz
  have HB := Aside0.mk (Below.refl w.heap.size w)
  have z0 : decide (z < 0) = true := decide_eq_true hz
  have tk1 := Aside0.mk True.intro
  have tk2 := Aside0.mk True.intro
  clear hr0 hc0 hr1 hc1 hsz hz
  go_enter Try.func11, Try.ntmps11
  go_wp2_with (first | (clear tk1; (with_reducible refine gate_dst (N := 1) rfl ?_); refine box_event ?hg (N := 1) ?hd (cs := #[.slice A0 l0.length c0, .slice A1 l1.length c1]) (t := 52) ?hr ?_; (case hd => rfl); (case hg => rfl); (case hr => first | (go_simp; done) | (go_simp; rfl)); intro b1 hg w1_ hbox hb; replace HB := Aside0.mk (below_step HB.out hb); have Zw1_ := Aside0.mk hb.size; have Gb1 := Aside0.mk (show w.heap.size ≤ b1 ∧ b1 < w1_.heap.size from ⟨Nat.le_of_eq hg.symm, blk_lt hbox⟩); have Bb1 := Aside0.mk hbox; clear hb hbox hg; obtain ⟨b1c, b1d, b1e, b1f⟩ := cells2 Bb1.out) | (clear tk2; go_at_call 54; (with_reducible refine (laws_szProg.calls k _ _ l0 _ _ l1 1048576 z _ (Kd.C_below HR0.out HB.out) HC0.out (Kd.C_below HR1.out HB.out) HC1.out HSZ.out).mono ?_); rintro e w2_ ⟨rfl, hb⟩; (try clear b1c b1d b1e b1f); replace Bb1 := Aside0.mk (blk_b Bb1.out hb); replace HB := Aside0.mk (below_step HB.out hb); have Zw2_ := Aside0.mk hb.size; clear hb; obtain ⟨b1c, b1d, b1e, b1f⟩ := cells2 Bb1.out))
  go_ret
  exact ⟨rfl, HB.out⟩
set_option maxHeartbeats 80000000 in
set_option maxRecDepth 100000 in
theorem laws_FnExactTrimProg.walk (k : Nat) (A0 : Option Addr) (c0 : Nat) (l0 : List Int) (A1 : Option Addr) (c1 : Nat) (l1 : List (List S65)) (z kk m : Int) (p1 s1 g1 x1 q1 : List Int) (p2 s2 g2 x2 q2 : List (List S63)) (w : World) (hr0 : Kd.C (Kd.int .i64) w A0 l0.length l0) (hc0 : l0.length ≤ c0) (hr1 : Kd.C (Kd.slice 65 k65) w A1 l1.length l1) (hc1 : l1.length ≤ c1)
    (hsz : laws_szProg.f k l0 l1 1048576 = some z) (hz : ¬ z < 0) (hto : laws_toProg.f k l0 l1 = some (p1, p2)) (hsp : spec_TrimProg.f k p1 p2 = some (s1, s2)) (him : impl_TrimProg.f k p1 p2 = some (g1, g2)) (hep : laws_eqProg.f k g1 g2 s1 s2 = some true) (hee : laws_eqProg.f k p1 p2 p1 p2 = some true) (hmx : laws_markProg.f k p1 p2 1 = some (kk, x1, x2)) (hkk : 0 ≤ kk) (hmp : laws_markProg.f k g1 g2 1 = some (m, q1, q2)) (hhe : laws_heldProg.f k q1 q2 1 = some m) (hm : 0 ≤ m) :
    Calls Try.prog 11 #[.agg #[.slice A0 l0.length c0, .slice A1 l1.length c1]] w fun e w' => e = .returned (.bool true) ∧ Below w.heap.size w w' := by
  have hu52 := Try.underlying52
  have hu56 := Try.underlying56
  have HR0 := Aside0.mk hr0
  have HC0 := Aside0.mk hc0
  have HR1 := Aside0.mk hr1
  have HC1 := Aside0.mk hc1
  have HSZ := Aside0.mk hsz
  have HB := Aside0.mk (Below.refl w.heap.size w)
  have HTO := Aside0.mk hto
  have HSP := Aside0.mk hsp
  have HIM := Aside0.mk him
  have HEP := Aside0.mk hep
  have HEE := Aside0.mk hee
  have HMX := Aside0.mk hmx
  have HMP := Aside0.mk hmp
  have HHE := Aside0.mk hhe
  have z0 : decide (z < 0) = false := decide_eq_false hz
  have kk0 : decide (kk < 0) = false := decide_eq_false (by omega)
  have m0 : decide (m < 0) = false := decide_eq_false (by omega)
  have tk1 := Aside0.mk True.intro
  have tk2 := Aside0.mk True.intro
  have tk3 := Aside0.mk True.intro
  have tk4 := Aside0.mk True.intro
  have tk5 := Aside0.mk True.intro
  have tk6 := Aside0.mk True.intro
  have tk7 := Aside0.mk True.intro
  have tk8 := Aside0.mk True.intro
  have tk9 := Aside0.mk True.intro
  have tk10 := Aside0.mk True.intro
  have tk11 := Aside0.mk True.intro
  have tk12 := Aside0.mk True.intro
  have tk13 := Aside0.mk True.intro
  have tk14 := Aside0.mk True.intro
  have tk15 := Aside0.mk True.intro
  have tk16 := Aside0.mk True.intro
  have tk17 := Aside0.mk True.intro
  have tk18 := Aside0.mk True.intro
  have tk19 := Aside0.mk True.intro
  clear hr0 hc0 hr1 hc1 hsz hz hto hsp him hep hee hmx hkk hmp hhe hm
  go_enter Try.func11, Try.ntmps11
  go_upto_region 10 with (first | (clear tk1; (with_reducible refine gate_dst (N := 1) rfl ?_); refine box_event ?hg (N := 1) ?hd (cs := #[.slice A0 l0.length c0, .slice A1 l1.length c1]) (t := 52) ?hr ?_; (case hd => rfl); (case hg => rfl); (case hr => first | (go_simp; done) | (go_simp; rfl)); intro b1 hg w1_ hbox hb; replace HB := Aside0.mk (below_step HB.out hb); have Zw1_ := Aside0.mk hb.size; have Gb1 := Aside0.mk (show w.heap.size ≤ b1 ∧ b1 < w1_.heap.size from ⟨Nat.le_of_eq hg.symm, blk_lt hbox⟩); have Bb1 := Aside0.mk hbox; clear hb hbox hg; obtain ⟨b1c, b1d, b1e, b1f⟩ := cells2 Bb1.out) | (clear tk2; go_at_call 54; (with_reducible refine (laws_szProg.calls k _ _ l0 _ _ l1 1048576 z _ (Kd.C_below HR0.out HB.out) HC0.out (Kd.C_below HR1.out HB.out) HC1.out HSZ.out).mono ?_); rintro e w2_ ⟨rfl, hb⟩; (try clear b1c b1d b1e b1f); replace Bb1 := Aside0.mk (blk_b Bb1.out hb); replace HB := Aside0.mk (below_step HB.out hb); have Zw2_ := Aside0.mk hb.size; clear hb; obtain ⟨b1c, b1d, b1e, b1f⟩ := cells2 Bb1.out) | (clear tk3; go_at_call 56; (with_reducible refine (laws_toProg.calls k _ _ l0 _ _ l1 p1 p2 _ (Kd.C_below HR0.out HB.out) HC0.out (Kd.C_below HR1.out HB.out) HC1.out HTO.out).mono ?_); rintro e w3_ ⟨vT0, vT1, rfl, hT0, hT1, hb⟩; (try clear b1c b1d b1e b1f); replace Bb1 := Aside0.mk (blk_b Bb1.out hb); have T0 := Aside0.mk (OwnR.new hT0 HB.out.size); have T1 := Aside0.mk (Own.new hT1 HB.out.size); replace HB := Aside0.mk (below_step HB.out hb); have Zw3_ := Aside0.mk hb.size; clear hb; clear hT0; obtain ⟨AT0, cT0, eT0⟩ := OwnR.slice T0.out; subst eT0; clear hT1; obtain ⟨AT1, cT1, eT1⟩ := Own.slice T1.out; subst eT1; obtain ⟨b1c, b1d, b1e, b1f⟩ := cells2 Bb1.out) | (clear tk4; go_at_call 61; (with_reducible refine (spec_TrimProg.calls k _ _ p1 _ _ p2 s1 s2 _ (OwnR.reads T0.out).2.2 (OwnR.reads T0.out).2.1 (Own.reads T1.out).2.2 (Own.reads T1.out).2.1 HSP.out).mono ?_); rintro e w4_ ⟨vW0, vW1, rfl, hW0, hW1, hb⟩; (try clear b1c b1d b1e b1f); replace T0 := Aside0.mk (OwnR.below T0.out hb); replace T1 := Aside0.mk (Own.below T1.out hb); replace Bb1 := Aside0.mk (blk_b Bb1.out hb); have W0 := Aside0.mk (OwnR.new hW0 HB.out.size); have W1 := Aside0.mk (OwnN.new hW1 (fun k hk => hk.1) HB.out.size); replace HB := Aside0.mk (below_step HB.out hb); have Zw4_ := Aside0.mk hb.size; clear hb; clear hW0; obtain ⟨AW0, cW0, eW0⟩ := OwnR.slice W0.out; subst eW0; clear hW1; obtain ⟨AW1, cW1, eW1⟩ := OwnN.slice W1.out; subst eW1; obtain ⟨b1c, b1d, b1e, b1f⟩ := cells2 Bb1.out) | (clear tk5; (with_reducible refine gate_dst (N := 4) rfl ?_); refine box_event ?hg (N := 4) ?hd (cs := #[.slice none 0 0, .slice none 0 0]) (t := 56) ?hr ?_; (case hd => rfl); (case hg => rfl); (case hr => first | (go_simp; done) | (go_simp; rfl)); intro b2 hg w5_ hbox hb; (try clear b1c b1d b1e b1f); replace T0 := Aside0.mk (OwnR.below T0.out hb); replace T1 := Aside0.mk (Own.below T1.out hb); replace W0 := Aside0.mk (OwnR.below W0.out hb); replace W1 := Aside0.mk (OwnN.below W1.out hb); replace Bb1 := Aside0.mk (blk_b Bb1.out hb); replace HB := Aside0.mk (below_step HB.out hb); have Zw5_ := Aside0.mk hb.size; have Gb2 := Aside0.mk (show w4_.heap.size ≤ b2 ∧ b2 < w5_.heap.size from ⟨Nat.le_of_eq hg.symm, blk_lt hbox⟩); have Bb2 := Aside0.mk hbox; clear hb hbox hg; obtain ⟨b1c, b1d, b1e, b1f⟩ := cells2 Bb1.out; obtain ⟨b2c, b2d, b2e, b2f⟩ := cells2 Bb2.out; have hn_b1_b2 : b1 ≠ b2 := atw_0_7; have hn_b2_b1 : b2 ≠ b1 := atw_0_7) | (clear tk6; go_at_call 56; obtain ⟨w6_, hw⟩ : ∃ W_, W_ = ((w5_.setCell ⟨b2, 0, none⟩ (.slice AW0 s1.length cW0)).setCell ⟨b2, 1, none⟩ (.slice AW1 s2.length cW1)) := ⟨_, rfl⟩; rw [← hw]; (try clear b1c b1d b1e b1f b2c b2d b2e b2f); have hK : Kept w5_ w6_ (fun k => k = b2) := atw_0_9; replace Bb2 := Aside0.mk (show w6_.heap[b2]? = some (.cells #[.slice AW0 s1.length cW0, .slice AW1 s2.length cW1] 56 (0, 0)) by first | (rw [hw]; exact set2_blk Bb2.out _ _) | rw [hw]); replace HB := Aside0.mk (show Below w.heap.size w w6_ by first | (rw [hw]; exact set2_below HB.out atw_0_7 _ _) | rw [hw]); replace T0 := Aside0.mk (OwnR.kept T0.out hK (fun k h1 h2 h3 => atw_0_7)); replace T1 := Aside0.mk (Own.kept T1.out hK (fun k h1 h2 h3 => atw_0_7)); replace W0 := Aside0.mk (OwnR.kept W0.out hK (fun k h1 h2 h3 => atw_0_7)); replace W1 := Aside0.mk (OwnN.kept W1.out hK (fun k h1 h2 h3 => atw_0_7)); replace Bb1 := Aside0.mk (blk_k Bb1.out hK (fun h3 => atw_0_7)); have Zw6_ := Aside0.mk hK.1; clear hK hw; obtain ⟨b1c, b1d, b1e, b1f⟩ := cells2 Bb1.out; obtain ⟨b2c, b2d, b2e, b2f⟩ := cells2 Bb2.out; (with_reducible refine (laws_toProg.calls k _ _ l0 _ _ l1 p1 p2 _ (Kd.C_below HR0.out HB.out) HC0.out (Kd.C_below HR1.out HB.out) HC1.out HTO.out).mono ?_); rintro e w7_ ⟨vX0, vX1, rfl, hX0, hX1, hb⟩; (try clear b1c b1d b1e b1f b2c b2d b2e b2f); replace T0 := Aside0.mk (OwnR.below T0.out hb); replace T1 := Aside0.mk (Own.below T1.out hb); replace W0 := Aside0.mk (OwnR.below W0.out hb); replace W1 := Aside0.mk (OwnN.below W1.out hb); replace Bb1 := Aside0.mk (blk_b Bb1.out hb); replace Bb2 := Aside0.mk (blk_b Bb2.out hb); have X0 := Aside0.mk (OwnR.new hX0 HB.out.size); have X1 := Aside0.mk (Own.new hX1 HB.out.size); replace HB := Aside0.mk (below_step HB.out hb); have Zw7_ := Aside0.mk hb.size; clear hb; clear hX0; obtain ⟨AX0, cX0, eX0⟩ := OwnR.slice X0.out; subst eX0; clear hX1; obtain ⟨AX1, cX1, eX1⟩ := Own.slice X1.out; subst eX1; obtain ⟨b1c, b1d, b1e, b1f⟩ := cells2 Bb1.out; obtain ⟨b2c, b2d, b2e, b2f⟩ := cells2 Bb2.out) | (clear tk7; (with_reducible refine gate_dst (N := 5) rfl ?_); refine box_event ?hg (N := 5) ?hd (cs := #[.slice none 0 0, .slice none 0 0]) (t := 56) ?hr ?_; (case hd => rfl); (case hg => rfl); (case hr => first | (go_simp; done) | (go_simp; rfl)); intro b3 hg w8_ hbox hb; (try clear b1c b1d b1e b1f b2c b2d b2e b2f); replace T0 := Aside0.mk (OwnR.below T0.out hb); replace T1 := Aside0.mk (Own.below T1.out hb); replace W0 := Aside0.mk (OwnR.below W0.out hb); replace W1 := Aside0.mk (OwnN.below W1.out hb); replace X0 := Aside0.mk (OwnR.below X0.out hb); replace X1 := Aside0.mk (Own.below X1.out hb); replace Bb1 := Aside0.mk (blk_b Bb1.out hb); replace Bb2 := Aside0.mk (blk_b Bb2.out hb); replace HB := Aside0.mk (below_step HB.out hb); have Zw8_ := Aside0.mk hb.size; have Gb3 := Aside0.mk (show w7_.heap.size ≤ b3 ∧ b3 < w8_.heap.size from ⟨Nat.le_of_eq hg.symm, blk_lt hbox⟩); have Bb3 := Aside0.mk hbox; clear hb hbox hg; obtain ⟨b1c, b1d, b1e, b1f⟩ := cells2 Bb1.out; obtain ⟨b2c, b2d, b2e, b2f⟩ := cells2 Bb2.out; obtain ⟨b3c, b3d, b3e, b3f⟩ := cells2 Bb3.out; have hn_b1_b3 : b1 ≠ b3 := atw_0_3; have hn_b3_b1 : b3 ≠ b1 := atw_0_3; have hn_b2_b3 : b2 ≠ b3 := atw_0_3; have hn_b3_b2 : b3 ≠ b2 := atw_0_3) | (clear tk8; go_at_call 62; obtain ⟨w9_, hw⟩ : ∃ W_, W_ = ((w8_.setCell ⟨b3, 0, none⟩ (.slice AX0 p1.length cX0)).setCell ⟨b3, 1, none⟩ (.slice AX1 p2.length cX1)) := ⟨_, rfl⟩; rw [← hw]; (try clear b1c b1d b1e b1f b2c b2d b2e b2f b3c b3d b3e b3f); have hK : Kept w8_ w9_ (fun k => k = b3) := atw_0_9; replace Bb3 := Aside0.mk (show w9_.heap[b3]? = some (.cells #[.slice AX0 p1.length cX0, .slice AX1 p2.length cX1] 56 (0, 0)) by first | (rw [hw]; exact set2_blk Bb3.out _ _) | rw [hw]); replace HB := Aside0.mk (show Below w.heap.size w w9_ by first | (rw [hw]; exact set2_below HB.out atw_0_3 _ _) | rw [hw]); replace T0 := Aside0.mk (OwnR.kept T0.out hK (fun k h1 h2 h3 => atw_0_3)); replace T1 := Aside0.mk (Own.kept T1.out hK (fun k h1 h2 h3 => atw_0_3)); replace W0 := Aside0.mk (OwnR.kept W0.out hK (fun k h1 h2 h3 => atw_0_3)); replace W1 := Aside0.mk (OwnN.kept W1.out hK (fun k h1 h2 h3 => atw_0_3)); replace X0 := Aside0.mk (OwnR.kept X0.out hK (fun k h1 h2 h3 => atw_0_3)); replace X1 := Aside0.mk (Own.kept X1.out hK (fun k h1 h2 h3 => atw_0_3)); replace Bb1 := Aside0.mk (blk_k Bb1.out hK (fun h3 => atw_0_3)); replace Bb2 := Aside0.mk (blk_k Bb2.out hK (fun h3 => atw_0_3)); have Zw9_ := Aside0.mk hK.1; clear hK hw; obtain ⟨b1c, b1d, b1e, b1f⟩ := cells2 Bb1.out; obtain ⟨b2c, b2d, b2e, b2f⟩ := cells2 Bb2.out; obtain ⟨b3c, b3d, b3e, b3f⟩ := cells2 Bb3.out; (with_reducible refine (impl_TrimProg.calls k _ _ p1 _ _ p2 g1 g2 _ (OwnR.reads X0.out).2.2 (OwnR.reads X0.out).2.1 (Own.reads X1.out).2.2 (Own.reads X1.out).2.1 HIM.out).mono ?_); rintro e w10_ ⟨vG0, vG1, rfl, hG0, hG1, hb⟩; (try clear b1c b1d b1e b1f b2c b2d b2e b2f b3c b3d b3e b3f); replace T0 := Aside0.mk (OwnR.below T0.out hb); replace T1 := Aside0.mk (Own.below T1.out hb); replace W0 := Aside0.mk (OwnR.below W0.out hb); replace W1 := Aside0.mk (OwnN.below W1.out hb); replace X0 := Aside0.mk (OwnR.below X0.out hb); replace X1 := Aside0.mk (Own.below X1.out hb); replace Bb1 := Aside0.mk (blk_b Bb1.out hb); replace Bb2 := Aside0.mk (blk_b Bb2.out hb); replace Bb3 := Aside0.mk (blk_b Bb3.out hb); have G0 := Aside0.mk (OwnR.new hG0 HB.out.size); have G1 := Aside0.mk (Own.new hG1 HB.out.size); replace HB := Aside0.mk (below_step HB.out hb); have Zw10_ := Aside0.mk hb.size; clear hb; clear hG0; obtain ⟨AG0, cG0, eG0⟩ := OwnR.slice G0.out; subst eG0; clear hG1; obtain ⟨AG1, cG1, eG1⟩ := Own.slice G1.out; subst eG1; obtain ⟨b1c, b1d, b1e, b1f⟩ := cells2 Bb1.out; obtain ⟨b2c, b2d, b2e, b2f⟩ := cells2 Bb2.out; obtain ⟨b3c, b3d, b3e, b3f⟩ := cells2 Bb3.out) | (clear tk9; (with_reducible refine gate_dst (N := 6) rfl ?_); refine box_event ?hg (N := 6) ?hd (cs := #[.slice none 0 0, .slice none 0 0]) (t := 56) ?hr ?_; (case hd => rfl); (case hg => rfl); (case hr => first | (go_simp; done) | (go_simp; rfl)); intro b4 hg w11_ hbox hb; (try clear b1c b1d b1e b1f b2c b2d b2e b2f b3c b3d b3e b3f); replace T0 := Aside0.mk (OwnR.below T0.out hb); replace T1 := Aside0.mk (Own.below T1.out hb); replace W0 := Aside0.mk (OwnR.below W0.out hb); replace W1 := Aside0.mk (OwnN.below W1.out hb); replace X0 := Aside0.mk (OwnR.below X0.out hb); replace X1 := Aside0.mk (Own.below X1.out hb); replace G0 := Aside0.mk (OwnR.below G0.out hb); replace G1 := Aside0.mk (Own.below G1.out hb); replace Bb1 := Aside0.mk (blk_b Bb1.out hb); replace Bb2 := Aside0.mk (blk_b Bb2.out hb); replace Bb3 := Aside0.mk (blk_b Bb3.out hb); replace HB := Aside0.mk (below_step HB.out hb); have Zw11_ := Aside0.mk hb.size; have Gb4 := Aside0.mk (show w10_.heap.size ≤ b4 ∧ b4 < w11_.heap.size from ⟨Nat.le_of_eq hg.symm, blk_lt hbox⟩); have Bb4 := Aside0.mk hbox; clear hb hbox hg; obtain ⟨b1c, b1d, b1e, b1f⟩ := cells2 Bb1.out; obtain ⟨b2c, b2d, b2e, b2f⟩ := cells2 Bb2.out; obtain ⟨b3c, b3d, b3e, b3f⟩ := cells2 Bb3.out; obtain ⟨b4c, b4d, b4e, b4f⟩ := cells2 Bb4.out; have hn_b1_b4 : b1 ≠ b4 := atw_0_1; have hn_b4_b1 : b4 ≠ b1 := atw_0_1; have hn_b2_b4 : b2 ≠ b4 := atw_0_1; have hn_b4_b2 : b4 ≠ b2 := atw_0_1; have hn_b3_b4 : b3 ≠ b4 := atw_0_1; have hn_b4_b3 : b4 ≠ b3 := atw_0_1) | (clear tk10; go_at_call 58; obtain ⟨w12_, hw⟩ : ∃ W_, W_ = ((w11_.setCell ⟨b4, 0, none⟩ (.slice AG0 g1.length cG0)).setCell ⟨b4, 1, none⟩ (.slice AG1 g2.length cG1)) := ⟨_, rfl⟩; rw [← hw]; (try clear b1c b1d b1e b1f b2c b2d b2e b2f b3c b3d b3e b3f b4c b4d b4e b4f); have hK : Kept w11_ w12_ (fun k => k = b4) := atw_0_9; replace Bb4 := Aside0.mk (show w12_.heap[b4]? = some (.cells #[.slice AG0 g1.length cG0, .slice AG1 g2.length cG1] 56 (0, 0)) by first | (rw [hw]; exact set2_blk Bb4.out _ _) | rw [hw]); replace HB := Aside0.mk (show Below w.heap.size w w12_ by first | (rw [hw]; exact set2_below HB.out atw_0_1 _ _) | rw [hw]); replace T0 := Aside0.mk (OwnR.kept T0.out hK (fun k h1 h2 h3 => atw_0_1)); replace T1 := Aside0.mk (Own.kept T1.out hK (fun k h1 h2 h3 => atw_0_1)); replace W0 := Aside0.mk (OwnR.kept W0.out hK (fun k h1 h2 h3 => atw_0_1)); replace W1 := Aside0.mk (OwnN.kept W1.out hK (fun k h1 h2 h3 => atw_0_1)); replace X0 := Aside0.mk (OwnR.kept X0.out hK (fun k h1 h2 h3 => atw_0_1)); replace X1 := Aside0.mk (Own.kept X1.out hK (fun k h1 h2 h3 => atw_0_1)); replace G0 := Aside0.mk (OwnR.kept G0.out hK (fun k h1 h2 h3 => atw_0_1)); replace G1 := Aside0.mk (Own.kept G1.out hK (fun k h1 h2 h3 => atw_0_1)); replace Bb1 := Aside0.mk (blk_k Bb1.out hK (fun h3 => atw_0_1)); replace Bb2 := Aside0.mk (blk_k Bb2.out hK (fun h3 => atw_0_1)); replace Bb3 := Aside0.mk (blk_k Bb3.out hK (fun h3 => atw_0_1)); have Zw12_ := Aside0.mk hK.1; clear hK hw; obtain ⟨b1c, b1d, b1e, b1f⟩ := cells2 Bb1.out; obtain ⟨b2c, b2d, b2e, b2f⟩ := cells2 Bb2.out; obtain ⟨b3c, b3d, b3e, b3f⟩ := cells2 Bb3.out; obtain ⟨b4c, b4d, b4e, b4f⟩ := cells2 Bb4.out; (with_reducible refine (laws_eqProg.calls k _ _ g1 _ _ g2 _ _ s1 _ _ s2 true _ (OwnR.reads G0.out).2.2 (OwnR.reads G0.out).2.1 (Own.reads G1.out).2.2 (Own.reads G1.out).2.1 (OwnR.reads W0.out).2.2 (OwnR.reads W0.out).2.1 (OwnN.reads W1.out).2.2 (OwnN.reads W1.out).2.1 HEP.out).mono ?_); rintro e w13_ ⟨rfl, hb⟩; (try clear b1c b1d b1e b1f b2c b2d b2e b2f b3c b3d b3e b3f b4c b4d b4e b4f); replace T0 := Aside0.mk (OwnR.below T0.out hb); replace T1 := Aside0.mk (Own.below T1.out hb); replace W0 := Aside0.mk (OwnR.below W0.out hb); replace W1 := Aside0.mk (OwnN.below W1.out hb); replace X0 := Aside0.mk (OwnR.below X0.out hb); replace X1 := Aside0.mk (Own.below X1.out hb); replace G0 := Aside0.mk (OwnR.below G0.out hb); replace G1 := Aside0.mk (Own.below G1.out hb); replace Bb1 := Aside0.mk (blk_b Bb1.out hb); replace Bb2 := Aside0.mk (blk_b Bb2.out hb); replace Bb3 := Aside0.mk (blk_b Bb3.out hb); replace Bb4 := Aside0.mk (blk_b Bb4.out hb); replace HB := Aside0.mk (below_step HB.out hb); have Zw13_ := Aside0.mk hb.size; clear hb; obtain ⟨b1c, b1d, b1e, b1f⟩ := cells2 Bb1.out; obtain ⟨b2c, b2d, b2e, b2f⟩ := cells2 Bb2.out; obtain ⟨b3c, b3d, b3e, b3f⟩ := cells2 Bb3.out; obtain ⟨b4c, b4d, b4e, b4f⟩ := cells2 Bb4.out))
  clear T0 T1
  (try simp only [Act.put, List.setIfInBounds_toArray, List.set_cons_zero, List.set_cons_succ])
  have hb := drew_below w13_
  replace W0 := Aside0.mk (OwnR.below W0.out hb)
  replace W1 := Aside0.mk (OwnN.below W1.out hb)
  replace X0 := Aside0.mk (OwnR.below X0.out hb)
  replace X1 := Aside0.mk (Own.below X1.out hb)
  replace G0 := Aside0.mk (OwnR.below G0.out hb)
  replace G1 := Aside0.mk (Own.below G1.out hb)
  replace Bb1 := Aside0.mk (blk_b Bb1.out hb)
  replace Bb2 := Aside0.mk (blk_b Bb2.out hb)
  replace Bb3 := Aside0.mk (blk_b Bb3.out hb)
  replace Bb4 := Aside0.mk (blk_b Bb4.out hb)
  replace HB := Aside0.mk (below_step HB.out hb)
  have hz := Aside0.mk hb.size
  (try clear b1c b1d b1e b1f b2c b2d b2e b2f b3c b3d b3e b3f b4c b4d b4e b4f)
  clear hb
  refine start_ (n := 5) (S := fun w' => w'.cell? ⟨b1, 0, none⟩ = some (.slice A0 l0.length c0) ∧ w'.cell? ⟨b1, 1, none⟩ = some (.slice A1 l1.length c1) ∧ w'.cell? ⟨b2, 0, none⟩ = some (.slice AW0 s1.length cW0) ∧ w'.cell? ⟨b2, 1, none⟩ = some (.slice AW1 s2.length cW1) ∧ w'.cell? ⟨b3, 0, none⟩ = some (.slice AX0 p1.length cX0) ∧ w'.cell? ⟨b3, 1, none⟩ = some (.slice AX1 p2.length cX1) ∧ w'.cell? ⟨b4, 0, none⟩ = some (.slice AG0 g1.length cG0) ∧ w'.cell? ⟨b4, 1, none⟩ = some (.slice AG1 g2.length cG1)) (ds := []) (tf_ 0 5) (by kernel_rfl) rfl rfl ⟨(blk_cell Bb1.out 0).trans rfl, (blk_cell Bb1.out 1).trans rfl, (blk_cell Bb2.out 0).trans rfl, (blk_cell Bb2.out 1).trans rfl, (blk_cell Bb3.out 0).trans rfl, (blk_cell Bb3.out 1).trans rfl, (blk_cell Bb4.out 0).trans rfl, (blk_cell Bb4.out 1).trans rfl⟩ (fun hHeld => ?_)
  generalize w13_.drew = w14_ at W0 W1 X0 X1 G0 G1 Bb1 Bb2 Bb3 Bb4 HB hz hHeld ⊢
  have Zw14_ := hz
  clear hz
  refine take_ (i := 0) (N := some 27) (v := ?_) (a' := ?_) (tf_ 1 4) rfl rfl (by kernel_rfl) (fun _ _ _ h => h) (Or.inl ⟨by rfl, ?_⟩) hHeld ?_ ?_
  rotate_left
  · rintro w' ⟨s0, s1, s2, s3, s4, s5, s6, s7⟩
    go_simp
    with_reducible rfl
  rotate_left
  · simp only [Act.put, List.setIfInBounds_toArray, List.set_cons_zero, List.set_cons_succ, i64_w, i32_w]
    rfl
  refine take_ (i := 1) (N := some 28) (v := ?_) (a' := ?_) (tf_ 2 3) rfl rfl (by kernel_rfl) (fun _ _ _ h => h) (Or.inl ⟨by rfl, ?_⟩) hHeld ?_ ?_
  rotate_left
  · rintro w' ⟨s0, s1, s2, s3, s4, s5, s6, s7⟩
    go_simp
    with_reducible rfl
  rotate_left
  · simp only [Act.put, List.setIfInBounds_toArray, List.set_cons_zero, List.set_cons_succ, i64_w, i32_w]
    rfl
  refine one_ (i := 2) (N := some 29) (tf_ 3 2) rfl rfl (by kernel_rfl) (by decide) (fun K hK => ?_)
  refine goes_ Try.func56 (by kernel_rfl) rfl #[.agg #[.slice A0 l0.length c0, .slice A1 l1.length c1]] (by rfl) rfl rfl atw_0_10 ?_
  with_reducible refine (laws_toProg.calls k _ _ l0 _ _ l1 p1 p2 _ (Kd.C_below HR0.out HB.out) HC0.out (Kd.C_below HR1.out HB.out) HC1.out HTO.out).mono ?_
  rintro e w15_ ⟨vY0, vY1, rfl, hY0, hY1, hb⟩
  refine ⟨_, rfl, ?_⟩
  (try clear b1c b1d b1e b1f b2c b2d b2e b2f b3c b3d b3e b3f b4c b4d b4e b4f)
  replace W0 := Aside0.mk (OwnR.below W0.out hb)
  replace W1 := Aside0.mk (OwnN.below W1.out hb)
  replace X0 := Aside0.mk (OwnR.below X0.out hb)
  replace X1 := Aside0.mk (Own.below X1.out hb)
  replace G0 := Aside0.mk (OwnR.below G0.out hb)
  replace G1 := Aside0.mk (Own.below G1.out hb)
  replace Bb1 := Aside0.mk (blk_b Bb1.out hb)
  replace Bb2 := Aside0.mk (blk_b Bb2.out hb)
  replace Bb3 := Aside0.mk (blk_b Bb3.out hb)
  replace Bb4 := Aside0.mk (blk_b Bb4.out hb)
  have Y0 := Aside0.mk (OwnR.new hY0 HB.out.size)
  have Y1 := Aside0.mk (Own.new hY1 HB.out.size)
  replace HB := Aside0.mk (below_step HB.out hb)
  have Zw15_ := Aside0.mk hb.size
  clear hb
  clear hY0
  obtain ⟨AY0, cY0, eY0⟩ := OwnR.slice Y0.out
  subst eY0
  clear hY1
  obtain ⟨AY1, cY1, eY1⟩ := Own.slice Y1.out
  subst eY1
  obtain ⟨b1c, b1d, b1e, b1f⟩ := cells2 Bb1.out
  obtain ⟨b2c, b2d, b2e, b2f⟩ := cells2 Bb2.out
  obtain ⟨b3c, b3d, b3e, b3f⟩ := cells2 Bb3.out
  obtain ⟨b4c, b4d, b4e, b4f⟩ := cells2 Bb4.out
  refine hK.out _ _ ⟨(blk_cell Bb1.out 0).trans rfl, (blk_cell Bb1.out 1).trans rfl, (blk_cell Bb2.out 0).trans rfl, (blk_cell Bb2.out 1).trans rfl, (blk_cell Bb3.out 0).trans rfl, (blk_cell Bb3.out 1).trans rfl, (blk_cell Bb4.out 0).trans rfl, (blk_cell Bb4.out 1).trans rfl⟩ (fun hHeld => ?_)
  clear hK K
  refine norm_ (a' := ?_) ?_ ?_
  rotate_left
  · show Act.put _ (some 29) _ = _
    simp only [Act.put, List.setIfInBounds_toArray, List.set_cons_zero, List.set_cons_succ, i64_w, i32_w]
    rfl
  refine one_ (i := 3) (N := some 30) (tf_ 4 1) rfl rfl (by kernel_rfl) (by decide) (fun K hK => ?_)
  refine goes_ Try.func58 (by kernel_rfl) rfl #[.agg #[.slice AX0 p1.length cX0, .slice AX1 p2.length cX1], .agg #[.slice AY0 p1.length cY0, .slice AY1 p2.length cY1]] (by rfl) rfl rfl atw_0_10 ?_
  with_reducible refine (laws_eqProg.calls k _ _ p1 _ _ p2 _ _ p1 _ _ p2 true _ (OwnR.reads X0.out).2.2 (OwnR.reads X0.out).2.1 (Own.reads X1.out).2.2 (Own.reads X1.out).2.1 (OwnR.reads Y0.out).2.2 (OwnR.reads Y0.out).2.1 (Own.reads Y1.out).2.2 (Own.reads Y1.out).2.1 HEE.out).mono ?_
  rintro e w16_ ⟨rfl, hb⟩
  refine ⟨_, rfl, ?_⟩
  (try clear b1c b1d b1e b1f b2c b2d b2e b2f b3c b3d b3e b3f b4c b4d b4e b4f)
  replace W0 := Aside0.mk (OwnR.below W0.out hb)
  replace W1 := Aside0.mk (OwnN.below W1.out hb)
  replace X0 := Aside0.mk (OwnR.below X0.out hb)
  replace X1 := Aside0.mk (Own.below X1.out hb)
  replace G0 := Aside0.mk (OwnR.below G0.out hb)
  replace G1 := Aside0.mk (Own.below G1.out hb)
  replace Y0 := Aside0.mk (OwnR.below Y0.out hb)
  replace Y1 := Aside0.mk (Own.below Y1.out hb)
  replace Bb1 := Aside0.mk (blk_b Bb1.out hb)
  replace Bb2 := Aside0.mk (blk_b Bb2.out hb)
  replace Bb3 := Aside0.mk (blk_b Bb3.out hb)
  replace Bb4 := Aside0.mk (blk_b Bb4.out hb)
  replace HB := Aside0.mk (below_step HB.out hb)
  have Zw16_ := Aside0.mk hb.size
  clear hb
  obtain ⟨b1c, b1d, b1e, b1f⟩ := cells2 Bb1.out
  obtain ⟨b2c, b2d, b2e, b2f⟩ := cells2 Bb2.out
  obtain ⟨b3c, b3d, b3e, b3f⟩ := cells2 Bb3.out
  obtain ⟨b4c, b4d, b4e, b4f⟩ := cells2 Bb4.out
  refine hK.out _ _ ⟨(blk_cell Bb1.out 0).trans rfl, (blk_cell Bb1.out 1).trans rfl, (blk_cell Bb2.out 0).trans rfl, (blk_cell Bb2.out 1).trans rfl, (blk_cell Bb3.out 0).trans rfl, (blk_cell Bb3.out 1).trans rfl, (blk_cell Bb4.out 0).trans rfl, (blk_cell Bb4.out 1).trans rfl⟩ (fun hHeld => ?_)
  clear hK K
  refine norm_ (a' := ?_) ?_ ?_
  rotate_left
  · show Act.put _ (some 30) _ = _
    simp only [Act.put, List.setIfInBounds_toArray, List.set_cons_zero, List.set_cons_succ, i64_w, i32_w]
    rfl
  refine pure_ (i := 4) (N := some 31) (v := ?_) (a' := ?_) (tf_ 5 0) rfl rfl (by kernel_rfl) (fun _ _ _ h => h) (Or.inl ⟨by rfl, ?_⟩) ?_ ?_
  rotate_left
  · intro w'
    go_simp
    with_reducible rfl
  rotate_left
  · simp only [Act.put, List.setIfInBounds_toArray, List.set_cons_zero, List.set_cons_succ, i64_w, i32_w]
    rfl
  refine done_ (by kernel_rfl) ?_
  clear Y0 Y1
  go_wp2_with (first | (clear tk11; go_at_call 59; (with_reducible refine (laws_markProg.calls k (w6_.heap.size) (w7_.heap.size) (.slice AX0 p1.length cX0) (.slice AX1 p2.length cX1) p1 p2 1 kk x1 x2 w _ HB.out atw_0_6 atw_0_6 X0.out X1.out HMX.out).mono ?_); rintro e w17_ ⟨rfl, hX0, hX1, hB, hK⟩; (try clear b1c b1d b1e b1f b2c b2d b2e b2f b3c b3d b3e b3f b4c b4d b4e b4f); replace W0 := Aside0.mk (OwnR.kept W0.out hK (fun k h1 h2 h3 => atw_0_2)); replace W1 := Aside0.mk (OwnN.kept W1.out hK (fun k h1 h2 h3 => atw_0_2)); replace G0 := Aside0.mk (OwnR.kept G0.out hK (fun k h1 h2 h3 => atw_0_2)); replace G1 := Aside0.mk (Own.kept G1.out hK (fun k h1 h2 h3 => atw_0_2)); replace Bb1 := Aside0.mk (blk_k Bb1.out hK (fun h3 => atw_0_2)); replace Bb2 := Aside0.mk (blk_k Bb2.out hK (fun h3 => atw_0_2)); replace Bb3 := Aside0.mk (blk_k Bb3.out hK (fun h3 => atw_0_2)); replace Bb4 := Aside0.mk (blk_k Bb4.out hK (fun h3 => atw_0_2)); replace X0 := Aside0.mk (OwnR.mark hX0 atw_0_6); replace X1 := Aside0.mk (Own.mark hX1 atw_0_6); replace HB := Aside0.mk hB; have Zw17_ := Aside0.mk hK.1; clear hB hK hX0 hX1; obtain ⟨b1c, b1d, b1e, b1f⟩ := cells2 Bb1.out; obtain ⟨b2c, b2d, b2e, b2f⟩ := cells2 Bb2.out; obtain ⟨b3c, b3d, b3e, b3f⟩ := cells2 Bb3.out; obtain ⟨b4c, b4d, b4e, b4f⟩ := cells2 Bb4.out; clear X0 X1) | (clear tk12; go_at_call 58; (with_reducible refine (laws_eqProg.calls k _ _ g1 _ _ g2 _ _ s1 _ _ s2 true _ (OwnR.reads G0.out).2.2 (OwnR.reads G0.out).2.1 (Own.reads G1.out).2.2 (Own.reads G1.out).2.1 (OwnR.reads W0.out).2.2 (OwnR.reads W0.out).2.1 (OwnN.reads W1.out).2.2 (OwnN.reads W1.out).2.1 HEP.out).mono ?_); rintro e w18_ ⟨rfl, hb⟩; (try clear b1c b1d b1e b1f b2c b2d b2e b2f b3c b3d b3e b3f b4c b4d b4e b4f); replace W0 := Aside0.mk (OwnR.below W0.out hb); replace W1 := Aside0.mk (OwnN.below W1.out hb); replace G0 := Aside0.mk (OwnR.below G0.out hb); replace G1 := Aside0.mk (Own.below G1.out hb); replace Bb1 := Aside0.mk (blk_b Bb1.out hb); replace Bb2 := Aside0.mk (blk_b Bb2.out hb); replace Bb3 := Aside0.mk (blk_b Bb3.out hb); replace Bb4 := Aside0.mk (blk_b Bb4.out hb); replace HB := Aside0.mk (below_step HB.out hb); have Zw18_ := Aside0.mk hb.size; clear hb; obtain ⟨b1c, b1d, b1e, b1f⟩ := cells2 Bb1.out; obtain ⟨b2c, b2d, b2e, b2f⟩ := cells2 Bb2.out; obtain ⟨b3c, b3d, b3e, b3f⟩ := cells2 Bb3.out; obtain ⟨b4c, b4d, b4e, b4f⟩ := cells2 Bb4.out) | (clear tk13; go_at_call 59; (with_reducible refine (laws_markProg.calls k (w9_.heap.size) (w10_.heap.size) (.slice AG0 g1.length cG0) (.slice AG1 g2.length cG1) g1 g2 1 m q1 q2 w _ HB.out atw_0_5 atw_0_5 G0.out G1.out HMP.out).mono ?_); rintro e w19_ ⟨rfl, hG0, hG1, hB, hK⟩; (try clear b1c b1d b1e b1f b2c b2d b2e b2f b3c b3d b3e b3f b4c b4d b4e b4f); replace W0 := Aside0.mk (OwnR.kept W0.out hK (fun k h1 h2 h3 => atw_0_4)); replace W1 := Aside0.mk (OwnN.kept W1.out hK (fun k h1 h2 h3 => atw_0_4)); replace Bb1 := Aside0.mk (blk_k Bb1.out hK (fun h3 => atw_0_4)); replace Bb2 := Aside0.mk (blk_k Bb2.out hK (fun h3 => atw_0_4)); replace Bb3 := Aside0.mk (blk_k Bb3.out hK (fun h3 => atw_0_4)); replace Bb4 := Aside0.mk (blk_k Bb4.out hK (fun h3 => atw_0_4)); replace G0 := Aside0.mk (OwnR.mark hG0 atw_0_5); replace G1 := Aside0.mk (Own.mark hG1 atw_0_5); replace HB := Aside0.mk hB; have Zw19_ := Aside0.mk hK.1; clear hB hK hG0 hG1; obtain ⟨b1c, b1d, b1e, b1f⟩ := cells2 Bb1.out; obtain ⟨b2c, b2d, b2e, b2f⟩ := cells2 Bb2.out; obtain ⟨b3c, b3d, b3e, b3f⟩ := cells2 Bb3.out; obtain ⟨b4c, b4d, b4e, b4f⟩ := cells2 Bb4.out) | (clear tk14; go_at_call 60; (with_reducible refine (held_ k _ _ _ q1 _ _ _ q2 1 m _ (OwnR.reads G0.out) (Own.reads G1.out) HHE.out).mono ?_); rintro e w20_ ⟨rfl, hb⟩; (try clear b1c b1d b1e b1f b2c b2d b2e b2f b3c b3d b3e b3f b4c b4d b4e b4f); replace W0 := Aside0.mk (OwnR.below W0.out hb); replace W1 := Aside0.mk (OwnN.below W1.out hb); replace G0 := Aside0.mk (OwnR.below G0.out hb); replace G1 := Aside0.mk (Own.below G1.out hb); replace Bb1 := Aside0.mk (blk_b Bb1.out hb); replace Bb2 := Aside0.mk (blk_b Bb2.out hb); replace Bb3 := Aside0.mk (blk_b Bb3.out hb); replace Bb4 := Aside0.mk (blk_b Bb4.out hb); replace HB := Aside0.mk (below_step HB.out hb); have Zw20_ := Aside0.mk hb.size; clear hb; obtain ⟨b1c, b1d, b1e, b1f⟩ := cells2 Bb1.out; obtain ⟨b2c, b2d, b2e, b2f⟩ := cells2 Bb2.out; obtain ⟨b3c, b3d, b3e, b3f⟩ := cells2 Bb3.out; obtain ⟨b4c, b4d, b4e, b4f⟩ := cells2 Bb4.out) | (clear tk15; go_at_call 56; (with_reducible refine (laws_toProg.calls k _ _ l0 _ _ l1 p1 p2 _ (Kd.C_below HR0.out HB.out) HC0.out (Kd.C_below HR1.out HB.out) HC1.out HTO.out).mono ?_); rintro e w21_ ⟨vV0, vV1, rfl, hV0, hV1, hb⟩; (try clear b1c b1d b1e b1f b2c b2d b2e b2f b3c b3d b3e b3f b4c b4d b4e b4f); replace W0 := Aside0.mk (OwnR.below W0.out hb); replace W1 := Aside0.mk (OwnN.below W1.out hb); replace G0 := Aside0.mk (OwnR.below G0.out hb); replace G1 := Aside0.mk (Own.below G1.out hb); replace Bb1 := Aside0.mk (blk_b Bb1.out hb); replace Bb2 := Aside0.mk (blk_b Bb2.out hb); replace Bb3 := Aside0.mk (blk_b Bb3.out hb); replace Bb4 := Aside0.mk (blk_b Bb4.out hb); have V0 := Aside0.mk (OwnR.new hV0 HB.out.size); have V1 := Aside0.mk (Own.new hV1 HB.out.size); replace HB := Aside0.mk (below_step HB.out hb); have Zw21_ := Aside0.mk hb.size; clear hb; clear hV0; obtain ⟨AV0, cV0, eV0⟩ := OwnR.slice V0.out; subst eV0; clear hV1; obtain ⟨AV1, cV1, eV1⟩ := Own.slice V1.out; subst eV1; obtain ⟨b1c, b1d, b1e, b1f⟩ := cells2 Bb1.out; obtain ⟨b2c, b2d, b2e, b2f⟩ := cells2 Bb2.out; obtain ⟨b3c, b3d, b3e, b3f⟩ := cells2 Bb3.out; obtain ⟨b4c, b4d, b4e, b4f⟩ := cells2 Bb4.out) | (clear tk16; go_at_call 62; (with_reducible refine (impl_TrimProg.calls k _ _ p1 _ _ p2 g1 g2 _ (OwnR.reads V0.out).2.2 (OwnR.reads V0.out).2.1 (Own.reads V1.out).2.2 (Own.reads V1.out).2.1 HIM.out).mono ?_); rintro e w22_ ⟨vH0, vH1, rfl, hH0, hH1, hb⟩; (try clear b1c b1d b1e b1f b2c b2d b2e b2f b3c b3d b3e b3f b4c b4d b4e b4f); replace W0 := Aside0.mk (OwnR.below W0.out hb); replace W1 := Aside0.mk (OwnN.below W1.out hb); replace G0 := Aside0.mk (OwnR.below G0.out hb); replace G1 := Aside0.mk (Own.below G1.out hb); replace V0 := Aside0.mk (OwnR.below V0.out hb); replace V1 := Aside0.mk (Own.below V1.out hb); replace Bb1 := Aside0.mk (blk_b Bb1.out hb); replace Bb2 := Aside0.mk (blk_b Bb2.out hb); replace Bb3 := Aside0.mk (blk_b Bb3.out hb); replace Bb4 := Aside0.mk (blk_b Bb4.out hb); have H0 := Aside0.mk (OwnR.new hH0 HB.out.size); have H1 := Aside0.mk (Own.new hH1 HB.out.size); replace HB := Aside0.mk (below_step HB.out hb); have Zw22_ := Aside0.mk hb.size; clear hb; clear hH0; obtain ⟨AH0, cH0, eH0⟩ := OwnR.slice H0.out; subst eH0; clear hH1; obtain ⟨AH1, cH1, eH1⟩ := Own.slice H1.out; subst eH1; obtain ⟨b1c, b1d, b1e, b1f⟩ := cells2 Bb1.out; obtain ⟨b2c, b2d, b2e, b2f⟩ := cells2 Bb2.out; obtain ⟨b3c, b3d, b3e, b3f⟩ := cells2 Bb3.out; obtain ⟨b4c, b4d, b4e, b4f⟩ := cells2 Bb4.out) | (clear tk17; (with_reducible refine gate_dst (N := 10) rfl ?_); refine box_event ?hg (N := 10) ?hd (cs := #[.slice none 0 0, .slice none 0 0]) (t := 56) ?hr ?_; (case hd => rfl); (case hg => rfl); (case hr => first | (go_simp; done) | (go_simp; rfl)); intro b5 hg w23_ hbox hb; (try clear b1c b1d b1e b1f b2c b2d b2e b2f b3c b3d b3e b3f b4c b4d b4e b4f); replace W0 := Aside0.mk (OwnR.below W0.out hb); replace W1 := Aside0.mk (OwnN.below W1.out hb); replace G0 := Aside0.mk (OwnR.below G0.out hb); replace G1 := Aside0.mk (Own.below G1.out hb); replace V0 := Aside0.mk (OwnR.below V0.out hb); replace V1 := Aside0.mk (Own.below V1.out hb); replace H0 := Aside0.mk (OwnR.below H0.out hb); replace H1 := Aside0.mk (Own.below H1.out hb); replace Bb1 := Aside0.mk (blk_b Bb1.out hb); replace Bb2 := Aside0.mk (blk_b Bb2.out hb); replace Bb3 := Aside0.mk (blk_b Bb3.out hb); replace Bb4 := Aside0.mk (blk_b Bb4.out hb); replace HB := Aside0.mk (below_step HB.out hb); have Zw23_ := Aside0.mk hb.size; have Gb5 := Aside0.mk (show w22_.heap.size ≤ b5 ∧ b5 < w23_.heap.size from ⟨Nat.le_of_eq hg.symm, blk_lt hbox⟩); have Bb5 := Aside0.mk hbox; clear hb hbox hg; obtain ⟨b1c, b1d, b1e, b1f⟩ := cells2 Bb1.out; obtain ⟨b2c, b2d, b2e, b2f⟩ := cells2 Bb2.out; obtain ⟨b3c, b3d, b3e, b3f⟩ := cells2 Bb3.out; obtain ⟨b4c, b4d, b4e, b4f⟩ := cells2 Bb4.out; obtain ⟨b5c, b5d, b5e, b5f⟩ := cells2 Bb5.out; have hn_b1_b5 : b1 ≠ b5 := atw_0_0; have hn_b5_b1 : b5 ≠ b1 := atw_0_0; have hn_b2_b5 : b2 ≠ b5 := atw_0_0; have hn_b5_b2 : b5 ≠ b2 := atw_0_0; have hn_b3_b5 : b3 ≠ b5 := atw_0_0; have hn_b5_b3 : b5 ≠ b3 := atw_0_0; have hn_b4_b5 : b4 ≠ b5 := atw_0_0; have hn_b5_b4 : b5 ≠ b4 := atw_0_0) | (clear tk18; go_at_call 58; obtain ⟨w24_, hw⟩ : ∃ W_, W_ = ((w23_.setCell ⟨b5, 0, none⟩ (.slice AH0 g1.length cH0)).setCell ⟨b5, 1, none⟩ (.slice AH1 g2.length cH1)) := ⟨_, rfl⟩; rw [← hw]; (try clear b1c b1d b1e b1f b2c b2d b2e b2f b3c b3d b3e b3f b4c b4d b4e b4f b5c b5d b5e b5f); have hK : Kept w23_ w24_ (fun k => k = b5) := atw_0_9; replace Bb5 := Aside0.mk (show w24_.heap[b5]? = some (.cells #[.slice AH0 g1.length cH0, .slice AH1 g2.length cH1] 56 (0, 0)) by first | (rw [hw]; exact set2_blk Bb5.out _ _) | rw [hw]); replace HB := Aside0.mk (show Below w.heap.size w w24_ by first | (rw [hw]; exact set2_below HB.out atw_0_0 _ _) | rw [hw]); replace W0 := Aside0.mk (OwnR.kept W0.out hK (fun k h1 h2 h3 => atw_0_0)); replace W1 := Aside0.mk (OwnN.kept W1.out hK (fun k h1 h2 h3 => atw_0_0)); replace G0 := Aside0.mk (OwnR.kept G0.out hK (fun k h1 h2 h3 => atw_0_0)); replace G1 := Aside0.mk (Own.kept G1.out hK (fun k h1 h2 h3 => atw_0_0)); replace V0 := Aside0.mk (OwnR.kept V0.out hK (fun k h1 h2 h3 => atw_0_0)); replace V1 := Aside0.mk (Own.kept V1.out hK (fun k h1 h2 h3 => atw_0_0)); replace H0 := Aside0.mk (OwnR.kept H0.out hK (fun k h1 h2 h3 => atw_0_0)); replace H1 := Aside0.mk (Own.kept H1.out hK (fun k h1 h2 h3 => atw_0_0)); replace Bb1 := Aside0.mk (blk_k Bb1.out hK (fun h3 => atw_0_0)); replace Bb2 := Aside0.mk (blk_k Bb2.out hK (fun h3 => atw_0_0)); replace Bb3 := Aside0.mk (blk_k Bb3.out hK (fun h3 => atw_0_0)); replace Bb4 := Aside0.mk (blk_k Bb4.out hK (fun h3 => atw_0_0)); have Zw24_ := Aside0.mk hK.1; clear hK hw; obtain ⟨b1c, b1d, b1e, b1f⟩ := cells2 Bb1.out; obtain ⟨b2c, b2d, b2e, b2f⟩ := cells2 Bb2.out; obtain ⟨b3c, b3d, b3e, b3f⟩ := cells2 Bb3.out; obtain ⟨b4c, b4d, b4e, b4f⟩ := cells2 Bb4.out; obtain ⟨b5c, b5d, b5e, b5f⟩ := cells2 Bb5.out; (with_reducible refine (laws_eqProg.calls k _ _ g1 _ _ g2 _ _ s1 _ _ s2 true _ (OwnR.reads H0.out).2.2 (OwnR.reads H0.out).2.1 (Own.reads H1.out).2.2 (Own.reads H1.out).2.1 (OwnR.reads W0.out).2.2 (OwnR.reads W0.out).2.1 (OwnN.reads W1.out).2.2 (OwnN.reads W1.out).2.1 HEP.out).mono ?_); rintro e w25_ ⟨rfl, hb⟩; (try clear b1c b1d b1e b1f b2c b2d b2e b2f b3c b3d b3e b3f b4c b4d b4e b4f b5c b5d b5e b5f); replace W0 := Aside0.mk (OwnR.below W0.out hb); replace W1 := Aside0.mk (OwnN.below W1.out hb); replace G0 := Aside0.mk (OwnR.below G0.out hb); replace G1 := Aside0.mk (Own.below G1.out hb); replace V0 := Aside0.mk (OwnR.below V0.out hb); replace V1 := Aside0.mk (Own.below V1.out hb); replace H0 := Aside0.mk (OwnR.below H0.out hb); replace H1 := Aside0.mk (Own.below H1.out hb); replace Bb1 := Aside0.mk (blk_b Bb1.out hb); replace Bb2 := Aside0.mk (blk_b Bb2.out hb); replace Bb3 := Aside0.mk (blk_b Bb3.out hb); replace Bb4 := Aside0.mk (blk_b Bb4.out hb); replace Bb5 := Aside0.mk (blk_b Bb5.out hb); replace HB := Aside0.mk (below_step HB.out hb); have Zw25_ := Aside0.mk hb.size; clear hb; obtain ⟨b1c, b1d, b1e, b1f⟩ := cells2 Bb1.out; obtain ⟨b2c, b2d, b2e, b2f⟩ := cells2 Bb2.out; obtain ⟨b3c, b3d, b3e, b3f⟩ := cells2 Bb3.out; obtain ⟨b4c, b4d, b4e, b4f⟩ := cells2 Bb4.out; obtain ⟨b5c, b5d, b5e, b5f⟩ := cells2 Bb5.out) | (clear tk19; go_at_call 60; (with_reducible refine (held_ k _ _ _ q1 _ _ _ q2 1 m _ (OwnR.reads G0.out) (Own.reads G1.out) HHE.out).mono ?_); rintro e w26_ ⟨rfl, hb⟩; (try clear b1c b1d b1e b1f b2c b2d b2e b2f b3c b3d b3e b3f b4c b4d b4e b4f b5c b5d b5e b5f); replace W0 := Aside0.mk (OwnR.below W0.out hb); replace W1 := Aside0.mk (OwnN.below W1.out hb); replace G0 := Aside0.mk (OwnR.below G0.out hb); replace G1 := Aside0.mk (Own.below G1.out hb); replace V0 := Aside0.mk (OwnR.below V0.out hb); replace V1 := Aside0.mk (Own.below V1.out hb); replace H0 := Aside0.mk (OwnR.below H0.out hb); replace H1 := Aside0.mk (Own.below H1.out hb); replace Bb1 := Aside0.mk (blk_b Bb1.out hb); replace Bb2 := Aside0.mk (blk_b Bb2.out hb); replace Bb3 := Aside0.mk (blk_b Bb3.out hb); replace Bb4 := Aside0.mk (blk_b Bb4.out hb); replace Bb5 := Aside0.mk (blk_b Bb5.out hb); replace HB := Aside0.mk (below_step HB.out hb); have Zw26_ := Aside0.mk hb.size; clear hb; obtain ⟨b1c, b1d, b1e, b1f⟩ := cells2 Bb1.out; obtain ⟨b2c, b2d, b2e, b2f⟩ := cells2 Bb2.out; obtain ⟨b3c, b3d, b3e, b3f⟩ := cells2 Bb3.out; obtain ⟨b4c, b4d, b4e, b4f⟩ := cells2 Bb4.out; obtain ⟨b5c, b5d, b5e, b5f⟩ := cells2 Bb5.out))
  go_ret
  exact ⟨rfl, HB.out⟩
/-- What the law asks, as a Lean function: true where all that it compares is alike; none where that isn't so. -/
def laws_FnExactTrimProg.f (k : Nat) (l0_0 : List Int) (l0_1 : List (List S65)) : Option Bool :=
  (laws_szProg.f k l0_0 l0_1 1048576).bind fun z => if z < 0 then some true else
  (laws_toProg.f k l0_0 l0_1).bind fun p => (spec_TrimProg.f k p.1 p.2).bind fun s => (impl_TrimProg.f k p.1 p.2).bind fun g => (laws_eqProg.f k g.1 g.2 s.1 s.2).bind fun b1 => (laws_eqProg.f k p.1 p.2 p.1 p.2).bind fun b2 =>
  (laws_markProg.f k p.1 p.2 1).bind fun q => (laws_markProg.f k g.1 g.2 1).bind fun m => (laws_heldProg.f k m.2.1 m.2.2 1).bind fun h =>
  if b1 = true ∧ b2 = true ∧ 0 ≤ q.1 ∧ h = m.1 ∧ 0 ≤ m.1 then some true else none
theorem laws_FnExactTrimProg.calls (k : Nat) (A0_0 : Option Addr) (c0_0 : Nat) (l0_0 : List Int) (A0_1 : Option Addr) (c0_1 : Nat) (l0_1 : List (List (S65))) (r : Bool) (w : World) (hr0_0 : Kd.C (Kd.int .i64) w A0_0 l0_0.length l0_0) (hc0_0 : l0_0.length ≤ c0_0) (hr0_1 : Kd.C (Kd.slice 65 k65) w A0_1 l0_1.length l0_1) (hc0_1 : l0_1.length ≤ c0_1) (h : laws_FnExactTrimProg.f k l0_0 l0_1 = some r) :
    Calls Try.prog 11 #[.agg #[.slice A0_0 l0_0.length c0_0, .slice A0_1 l0_1.length c0_1]] w fun e w' => e = .returned (.bool r) ∧ Below w.heap.size w w' := by
  obtain ⟨z, hz, h⟩ := Option.bind_eq_some_iff.mp h
  by_cases c : z < 0
  · rw [if_pos c] at h
    obtain rfl := Option.some.inj h
    exact laws_FnExactTrimProg.small k A0_0 c0_0 l0_0 A0_1 c0_1 l0_1 z w hr0_0 hc0_0 hr0_1 hc0_1 hz c
  · rw [if_neg c] at h
    obtain ⟨⟨p1, p2⟩, h1, h⟩ := Option.bind_eq_some_iff.mp h
    obtain ⟨⟨s1, s2⟩, h2, h⟩ := Option.bind_eq_some_iff.mp h
    obtain ⟨⟨g1, g2⟩, h3, h⟩ := Option.bind_eq_some_iff.mp h
    obtain ⟨b1, h4, h⟩ := Option.bind_eq_some_iff.mp h
    obtain ⟨b2, h5, h⟩ := Option.bind_eq_some_iff.mp h
    obtain ⟨⟨kk, x1, x2⟩, h6, h⟩ := Option.bind_eq_some_iff.mp h
    obtain ⟨⟨m, q1, q2⟩, h7, h⟩ := Option.bind_eq_some_iff.mp h
    obtain ⟨hh, h8, h⟩ := Option.bind_eq_some_iff.mp h
    by_cases d : b1 = true ∧ b2 = true ∧ 0 ≤ kk ∧ hh = m ∧ 0 ≤ m
    · rw [if_pos d] at h
      obtain rfl := Option.some.inj h
      obtain ⟨rfl, rfl, d1, rfl, d2⟩ := d
      exact laws_FnExactTrimProg.walk k A0_0 c0_0 l0_0 A0_1 c0_1 l0_1 z kk hh p1 s1 g1 x1 q1 p2 s2 g2 x2 q2 w hr0_0 hc0_0 hr0_1 hc0_1 hz c h1 h2 h3 h4 h5 h6 d1 h7 h8 d2
    · rw [if_neg d] at h
      cases h
end Go.Proofs.Ytocimkpafakiaaa.XFnExactTrimProg
