/- The walk of FnExactKnownAt, over what its functions answer; for every world. -/
import Derived.Test.YtocimkpafakiaaaXFnExactKnownAtx
namespace Go.Proofs.Ytocimkpafakiaaa.XFnExactKnownAt
open Go.RowKit Go.Proofs.YtocimkpafakiaaaW.PrintWords Go.Proofs.YtocimkpafakiaaaW.PrintLast Go.Proofs.YtocimkpafakiaaaW.PrintMore
attribute [local go_sem] max2_int min2_int max_two min_two max_three min_three max_four min_four
set_option linter.unusedVariables false
set_option linter.unusedSimpArgs false
/-! ### laws_markKnownSS: function 48 -/
def laws_markKnownSS.l0 : Nat → List (List S83) → Int → Int → Option (Int × List (List S83))
  | 0, _, _, _ => none
  | k + 1, x0, x1, x5 => if x5 < (x0.length : Int) then (if 0 ≤ x5 then ((laws_markKnownS.f k (x0.getD x5.toNat []) x1).bind fun p => laws_markKnownSS.l0 k (x0.set x5.toNat p.2) p.1 (wrap64 (x5 + 1))) else none) else some (x1, x0)
def laws_markKnownSS.f (k : Nat) (l0 : List (List S83)) (a1 : Int) : Option (Int × List (List S83)) := laws_markKnownSS.l0 k l0 a1 0
set_option maxHeartbeats 8000000 in
set_option maxRecDepth 100000 in
theorem laws_markKnownSS.calls (k : Nat) (P0_ : Nat → Prop) (u9000_ : Value) (l0 : List (List S83)) (a1 r1 : Int) (r2 : List (List S83)) (w0 w : World) (hB : Below w0.heap.size w0 w) (ho0 : Kd.S (Kd.slice 83 k83) 81 w w0.heap.size P0_ u9000_ l0) (h : laws_markKnownSS.f k l0 a1 = some (r1, r2)) :
    Calls Try.prog 48 #[u9000_, .int .i64 a1] w fun e w' => e = .returned (.int .i64 r1) ∧ Kd.S (Kd.slice 83 k83) 81 w' w0.heap.size (fun k_ => (P0_ k_ ∨ w.heap.size ≤ k_)) u9000_ r2 ∧ Below w0.heap.size w0 w' ∧ Kept w w' (fun k_ => P0_ k_) := by
  have HO0 := Aside0.mk (show Kd.S (Kd.slice 83 k83) 81 w w0.heap.size (fun k_ => (P0_ k_ ∨ w.heap.size ≤ k_)) u9000_ l0 from Kd.S_mono ho0 (fun k_ hk => (.inl hk)))
  have HK := Aside0.mk (Kept.refl w (fun k_ => P0_ k_))
  have HB := Aside0.mk hB
  have H' := Aside0.mk (show laws_markKnownSS.l0 k l0 a1 0 = some (r1, r2) from h)
  clear hB ho0 h
  go_enter Try.func48, Try.ntmps48
  go_wp2
  go_loopg [1, 5] k (fun kq v1 v5 w' => ∃ (x0_1 : List (List S83)) (x1_1 : Int) (x5_1 : Int), v1 = .int .i64 x1_1 ∧ v5 = .int .i64 x5_1 ∧ Aside0 (laws_markKnownSS.l0 kq x0_1 x1_1 x5_1 = some (r1, r2)) ∧ Aside0 (kq ≤ k) ∧ Aside0 (Kd.S (Kd.slice 83 k83) 81 w' w0.heap.size (fun k_ => (P0_ k_ ∨ w.heap.size ≤ k_)) u9000_ x0_1) ∧ Aside0 (Kept w w' (fun k_ => P0_ k_)) ∧ Aside0 (Below w0.heap.size w0 w'))
  case atStart => exact ⟨l0, a1, 0, rfl, rfl, H', ⟨Nat.le_refl _⟩, ⟨by (with_reducible repeat (first | apply Kd.S_alloc | apply Kd.S_drewN | apply Kd.S_drew)); exact HO0.out⟩, ⟨by repeat (first | (with_reducible first | exact HK.out | apply Kept.alloc | apply Kept.drewN | apply Kept.drew) | exact HK.out)⟩, ⟨by repeat (first | (with_reducible first | exact HB.out | apply below_alloc | apply pw_below_drewN | apply below_drew1) | exact HB.out)⟩⟩
  case round =>
    clear H'
    obtain ⟨x0_1, x1_1, x5_1, rfl, rfl, HA, HK1, HO_0, HK, HB⟩ := hrel
    cases gk with
    | zero => exact absurd HA.out (by simp [laws_markKnownSS.l0])
    | succ k1 =>
      have H := HA.out
      clear HA
      simp only [laws_markKnownSS.l0] at H
      by_cases c3 : x5_1 < (x0_1.length : Int)
      · rw [if_pos c3] at H
        have c3b0 : decide (x5_1 < (x0_1.length : Int)) = true := decide_eq_true c3
        by_cases c4 : 0 ≤ x5_1
        · rw [if_pos c4] at H
          have c4b0 : decide (0 ≤ x5_1) = true := decide_eq_true c4
          obtain ⟨Ao8, co8, eo8⟩ := Kd.S_slice HO_0.out
          subst eo8
          obtain ⟨go5, co5, eo5, gb5, gl5, cl5, HG5⟩ := Kd.S_form HO_0.out (by omega)
          (first | cases eo5 | (injection eo5 with ea_ en_ ec_; (first | subst ea_ | (injection ea_ with ea_; subst ea_)); subst ec_; clear en_))
          obtain ⟨oki, c, hcl, hM, hcc, hoki, hH⟩ := Kd.S_lend HO_0.out [] x5_1 c4 c3
          obtain ⟨ui, rfl, hRi⟩ := hM
          have hx5_0 : wr.cell? ⟨go5, (x5_1 : Int).toNat, none⟩ = some ui := by have h_ := hcc 0 _ rfl; rwa [show (Kd.slice 83 k83).sz = 1 from rfl, Nat.mul_one, Nat.add_zero] at h_
          obtain ⟨ri, hri⟩ : ∃ ri, ri = x0_1.getD x5_1.toNat [] := ⟨_, rfl⟩
          rw [← hri] at H hRi
          obtain ⟨⟨m1, m2⟩, hA, H⟩ := Option.bind_eq_some_iff.mp H
          have HAm := Aside0.mk hA
          have HRi := Aside0.mk hRi
          have HHi := Aside0.mk hH
          have HOk := Aside0.mk hoki
          have H' := Aside0.mk (show laws_markKnownSS.l0 k1 (x0_1.set x5_1.toNat m2) m1 (wrap64 (x5_1 + 1)) = some (r1, r2) from H)
          clear H hA hRi hH hoki hcc hcl hri gb5 gl5 HG5
          replace c3 := eq_true c3
          replace c4 := eq_true c4
          go_wp2_with (first | (go_at_call 96; (with_reducible refine (laws_markKnownS.calls k1 oki ui ri x1_1 m1 m2 w0 _ HB.out HRi.out HAm.out).mono ?_); rintro e w' ⟨rfl, hR', hB', hK'⟩; have HS' := Aside0.mk (Kd.H_back (Kd.H_step (Kd.H_widen HHi.out) (fun k hk hn hlt => hK'.2 k hlt (fun ho => hn (.inl ho)))) (x' := m2) ⟨ui, rfl, hR'⟩ (fun k hk => hk.elim .inl (fun h => .inr ⟨.inr (Nat.le_trans HK.out.1 h), h⟩))); have HK2 := Aside0.mk (show Kept w w' (fun k_ => P0_ k_) from ⟨Nat.le_trans HK.out.1 hK'.1, fun i hi hn => (hK'.2 i (Nat.lt_of_lt_of_le hi HK.out.1) (fun ho => (HOk.out i ho).1.elim hn (fun h => Nat.not_le.2 hi h))).trans (HK.out.2 i hi hn)⟩); have HB2 := Aside0.mk hB'; clear HO_0 HK HB HRi HHi hR' hB' hK'; have HO_0 := HS'; have HK := HK2; have HB := HB2; clear HS' HK2 HB2))
          go_roundg k1
          case measure => have := HK1.out; omega
          case rel => exact ⟨_, m1, (wrap64 (x5_1 + 1)), (by first | rfl | (simp; done) | (simp [*]; done)), (by first | rfl | (simp; done) | (simp [*]; done)), H', ⟨by have := HK1.out; omega⟩, ⟨by (with_reducible repeat (first | apply Kd.S_alloc | apply Kd.S_drewN | apply Kd.S_drew)); exact HO_0.out⟩, ⟨by repeat (first | (with_reducible first | exact HK.out | apply Kept.alloc | apply Kept.drewN | apply Kept.drew) | exact HK.out)⟩, ⟨by repeat (first | (with_reducible first | exact HB.out | apply below_alloc | apply pw_below_drewN | apply below_drew1) | exact HB.out)⟩⟩
        · rw [if_neg c4] at H
          exact absurd H (by simp)
      · rw [if_neg c3] at H
        have c3b0 : decide (x5_1 < (x0_1.length : Int)) = false := decide_eq_false c3
        clear c3
        simp only [Option.some.injEq, Prod.mk.injEq] at H
        obtain ⟨rfl, rfl⟩ := H
        obtain ⟨Ao15, co15, eo15⟩ := Kd.S_slice HO_0.out
        subst eo15
        go_wp2
        go_ret
        exact ⟨rfl, by (with_reducible repeat (first | apply Kd.S_alloc | apply Kd.S_drewN | apply Kd.S_drew)); exact HO_0.out, by repeat (first | (with_reducible first | exact HB.out | apply below_alloc | apply pw_below_drewN | apply below_drew1) | exact HB.out), by repeat (first | (with_reducible first | exact HK.out | apply Kept.alloc | apply Kept.drewN | apply Kept.drew) | exact HK.out)⟩

/-! ### rows that are the call's own: their blocks lie in an interval -/
def Own {α : Type} (d : Kd α) (e : Nat) (b : Nat) (w : World) (lo hi : Nat) (v : Value) (xs : List α) : Prop := Kd.S d e w b (fun k => lo ≤ k ∧ k < hi) v xs
def OwnR {α : Type} (d : Kd α) (e : Nat) (b : Nat) (w : World) (lo hi : Nat) (v : Value) (xs : List α) : Prop := Kd.R d e w b (fun k => lo ≤ k ∧ k < hi) v xs
section
variable {α : Type} {d : Kd α} {e b lo hi g : Nat} {w w' w0 : World} {v : Value} {xs : List α} {ok P : Nat → Prop} {o : Obj}
theorem Own.new {B : Nat} (h : Kd.S d e w' B ok v xs) (hb : b ≤ B) : Own d e b w' B w'.heap.size v xs := Kd.S_lower (Kd.S_mono (Kd.S_bound h) (fun k hk => ⟨hk.2.1, hk.2.2.1⟩)) hb
theorem OwnR.new {B : Nat} (h : Kd.R d e w' B ok v xs) (hb : b ≤ B) : OwnR d e b w' B w'.heap.size v xs := Kd.R_lower (Kd.R_mono (Kd.R_bound h) (fun k hk => ⟨hk.2.1, hk.2.2.1⟩)) hb
theorem Own.mark (h : Kd.S d e w' b (fun k => (lo ≤ k ∧ k < hi) ∨ w.heap.size ≤ k) v xs) (hl : lo ≤ w.heap.size) : Own d e b w' lo w'.heap.size v xs := Kd.S_mono (Kd.S_bound h) (fun k hk => ⟨hk.1.elim (fun h => h.1) (fun h => Nat.le_trans hl h), hk.2.2.1⟩)
theorem OwnR.mark (h : Kd.R d e w' b (fun k => (lo ≤ k ∧ k < hi) ∨ w.heap.size ≤ k) v xs) (hl : lo ≤ w.heap.size) : OwnR d e b w' lo w'.heap.size v xs := Kd.R_mono (Kd.R_bound h) (fun k hk => ⟨hk.1.elim (fun h => h.1) (fun h => Nat.le_trans hl h), hk.2.2.1⟩)
theorem Own.S (h : Own d e b w lo hi v xs) : Kd.S d e w b (fun k => lo ≤ k ∧ k < hi) v xs := h
theorem OwnR.R (h : OwnR d e b w lo hi v xs) : Kd.R d e w b (fun k => lo ≤ k ∧ k < hi) v xs := h
theorem Own.below (h : Own d e b w lo hi v xs) (hb : Below w.heap.size w w') : Own d e b w' lo hi v xs := Kd.S_below h hb
theorem OwnR.below (h : OwnR d e b w lo hi v xs) (hb : Below w.heap.size w w') : OwnR d e b w' lo hi v xs := Kd.R_below h hb
theorem Own.kept (h : Own d e b w lo hi v xs) (hk : Kept w w' P) (hp : ∀ k, lo ≤ k → k < hi → ¬ P k) : Own d e b w' lo hi v xs := Kd.S_step h (fun k ho hlt => hk.2 k hlt (hp k ho.1 ho.2))
theorem OwnR.kept (h : OwnR d e b w lo hi v xs) (hk : Kept w w' P) (hp : ∀ k, lo ≤ k → k < hi → ¬ P k) : OwnR d e b w' lo hi v xs := Kd.R_step h (fun k ho hlt => hk.2 k hlt (hp k ho.1 ho.2))
theorem Own.reads {A : Option Addr} {n c : Nat} (h : Own d e b w lo hi (.slice A n c) xs) : n = xs.length ∧ n ≤ c ∧ d.C w A xs.length xs := Kd.S_reads' h
theorem OwnR.reads {A : Option Addr} {n c : Nat} (h : OwnR d e b w lo hi (.slice A n c) xs) : n = xs.length ∧ n ≤ c ∧ d.C w A xs.length xs := Kd.R_reads' h
theorem Own.cap {A : Option Addr} {c : Nat} (h : Own d e b w lo hi (.slice A xs.length c) xs) : xs.length ≤ c := (Kd.S_reads' h).2.1
theorem OwnR.cap {A : Option Addr} {c : Nat} (h : OwnR d e b w lo hi (.slice A xs.length c) xs) : xs.length ≤ c := (Kd.R_reads' h).2.1
theorem Own.slice (h : Own d e b w lo hi v xs) : ∃ A c, v = .slice A xs.length c := Kd.S_slice h
theorem OwnR.slice (h : OwnR d e b w lo hi v xs) : ∃ A c, v = .slice A xs.length c := Kd.R_slice h
theorem drawn_below (h : Drawn0 w w') : Below w.heap.size w w' := by
  obtain ⟨n, rfl⟩ := h
  exact pw_below_drewN (Below.refl _ _) n
theorem blk_b (h : w.heap[g]? = some o) (hb : Below w.heap.size w w') : w'.heap[g]? = some o := (hb.block g (blk_lt h)).trans h
theorem blk_k (h : w.heap[g]? = some o) (hk : Kept w w' P) (hp : ¬ P g) : w'.heap[g]? = some o := (hk.2 g (blk_lt h) hp).trans h
theorem apart_types {β : Type} {d' : Kd β} {e' b' k : Nat} {ok' : Nat → Prop} {v' : Value} {ys : List β} (hk : ∃ q, q ∈ e :: d.E ∧ ∃ cells, w.heap[k]? = some (.cells cells q (0, 0))) (hR : d'.R e' w b' ok' v' ys) (he : some k = v'.ownBlock) (ht : ¬ e' ∈ e :: d.E) : False := by
  obtain ⟨q, hq, cells, hc⟩ := hk
  obtain ⟨cells', hc'⟩ := Kd.R_typed hR k he.symm
  rw [hc] at hc'
  simp at hc'
  have h3 : q = e' := hc'.2
  subst h3
  exact ht hq
theorem cells2 {t : Nat} {x y : Value} (h : w.heap[g]? = some (.cells #[x, y] t (0, 0))) : w.cell? ⟨g, 0, none⟩ = some x ∧ w.cell? ⟨g, 1, none⟩ = some y ∧ w.frozen? ⟨g, 0, none⟩ = false ∧ w.frozen? ⟨g, 1, none⟩ = false := ⟨(blk_cell h 0).trans rfl, (blk_cell h 1).trans rfl, blk_frozen h 0, blk_frozen h 1⟩
theorem drew_below (w : World) : Below w.heap.size w w.drew := below_drew1 (Below.refl _ _)
end
theorem set2_kept (W : World) (g : Nat) (a b : Value) : Kept W ((W.setCell ⟨g, 0, none⟩ a).setCell ⟨g, 1, none⟩ b) (fun k => k = g) := Kept.setCell (S := fun k => k = g) (Kept.setCell (S := fun k => k = g) (Kept.refl _ _) (.inl rfl) a) (.inl rfl) b
theorem set2_blk {W : World} {g t : Nat} {x y : Value} (h : W.heap[g]? = some (.cells #[x, y] t (0, 0))) (a b : Value) : ((W.setCell ⟨g, 0, none⟩ a).setCell ⟨g, 1, none⟩ b).heap[g]? = some (.cells #[a, b] t (0, 0)) := blk_put (cs := #[a, y]) (blk_put (cs := #[x, y]) h 0 a rfl) 1 b rfl
theorem set2_below {w W : World} {g : Nat} (h : Below w.heap.size w W) (hg : w.heap.size ≤ g) (a b : Value) : Below w.heap.size w ((W.setCell ⟨g, 0, none⟩ a).setCell ⟨g, 1, none⟩ b) := below_set (below_set h hg) hg

theorem held_ (k : Nat) (A0 : Option Addr) (c0 n : Nat) (l0 : List (List S83)) (a1 r : Int) (w : World) (hr : n = l0.length ∧ n ≤ c0 ∧ Kd.C (Kd.slice 83 k83) w A0 l0.length l0) (h : laws_heldKnownSS.f k l0 a1 = some r) : Calls Try.prog 49 #[.slice A0 n c0, .int .i64 a1] w fun e w' => e = .returned (.int .i64 r) ∧ Drawn0 w w' := by
  obtain ⟨rfl, h1, h2⟩ := hr
  exact laws_heldKnownSS.calls k A0 c0 l0 a1 r w h2 h1 h
set_option maxHeartbeats 8000000 in
set_option maxRecDepth 100000 in
theorem laws_FnExactKnownAt.small (A0 : Option Addr) (c0 : Nat) (l0 : List S65) (z : Int) (w : World) (hr0 : Kd.C k65 w A0 l0.length l0) (hc0 : l0.length ≤ c0) (hsz : laws_szInsS.f l0 1048576 = some z) (hz : z < 0) :
    Calls Try.prog 7 #[.slice A0 l0.length c0] w fun e w' => e = .returned (.bool true) ∧ Below w.heap.size w w' := by
  have HR0 := Aside0.mk hr0
  have HC0 := Aside0.mk hc0
  have HSZ := Aside0.mk hsz
  have HB := Aside0.mk (Below.refl w.heap.size w)
  have z0 : decide (z < 0) = true := decide_eq_true hz
  have tk1 := Aside0.mk True.intro
  clear hr0 hc0 hsz hz
  go_enter Try.func7, Try.ntmps7
  go_wp2_with (first | (clear tk1; go_at_call 12; (with_reducible refine (laws_szInsS.calls _ _ l0 1048576 z _ (Kd.C_below HR0.out HB.out) HC0.out HSZ.out).mono ?_); rintro e w1_ ⟨rfl, hd⟩; have hb := drawn_below hd; clear hd; replace HB := Aside0.mk (below_step HB.out hb); have Zw1_ := Aside0.mk hb.size; clear hb))
  go_ret
  exact ⟨rfl, HB.out⟩
set_option maxHeartbeats 8000000 in
set_option maxRecDepth 100000 in
theorem laws_FnExactKnownAt.walk (k : Nat) (A0 : Option Addr) (c0 : Nat) (l0 : List S65) (z kk m : Int) (x x' : List S63) (s g g' : List (List S83)) (w : World) (hr0 : Kd.C k65 w A0 l0.length l0) (hc0 : l0.length ≤ c0)
    (hsz : laws_szInsS.f l0 1048576 = some z) (hz : ¬ z < 0) (hto : laws_toInsS.f k l0 = some x) (hsp : spec_KnownAt.f k x = some s) (him : impl_KnownAt.f k x = some g) (hee : laws_eqKnownSS.f k g s = some true) (hex : laws_eqInsS.f k x x = some true) (hmx : laws_markInsS.f k x 1 = some (kk, x')) (hkk : 0 ≤ kk) (hmg : laws_markKnownSS.f k g 1 = some (m, g')) (hhe : laws_heldKnownSS.f k g' 1 = some m) (hm : 0 ≤ m) :
    Calls Try.prog 7 #[.slice A0 l0.length c0] w fun e w' => e = .returned (.bool true) ∧ Below w.heap.size w w' := by
  have HR0 := Aside0.mk hr0
  have HC0 := Aside0.mk hc0
  have HSZ := Aside0.mk hsz
  have HB := Aside0.mk (Below.refl w.heap.size w)
  have HTO := Aside0.mk hto
  have HSP := Aside0.mk hsp
  have HIM := Aside0.mk him
  have HEE := Aside0.mk hee
  have HEX := Aside0.mk hex
  have HMX := Aside0.mk hmx
  have HMG := Aside0.mk hmg
  have HHE := Aside0.mk hhe
  have z0 : decide (z < 0) = false := decide_eq_false hz
  have kk0 : decide (kk < 0) = false := decide_eq_false (by omega)
  have m0 : decide (m < 0) = false := decide_eq_false (by omega)
  have tk1 := Aside0.mk True.intro
  have tk2 := Aside0.mk True.intro
  have tk3 := Aside0.mk True.intro
  have tk4 := Aside0.mk True.intro
  have tk5 := Aside0.mk True.intro
  have tk6 := Aside0.mk True.intro
  have tk7 := Aside0.mk True.intro
  have tk8 := Aside0.mk True.intro
  have tk9 := Aside0.mk True.intro
  have tk10 := Aside0.mk True.intro
  have tk11 := Aside0.mk True.intro
  have tk12 := Aside0.mk True.intro
  have tk13 := Aside0.mk True.intro
  have tk14 := Aside0.mk True.intro
  have tk15 := Aside0.mk True.intro
  have tk16 := Aside0.mk True.intro
  clear hr0 hc0 hsz hz hto hsp him hee hex hmx hkk hmg hhe hm
  go_enter Try.func7, Try.ntmps7
  go_wp2_with (first | (clear tk1; go_at_call 12; (with_reducible refine (laws_szInsS.calls _ _ l0 1048576 z _ (Kd.C_below HR0.out HB.out) HC0.out HSZ.out).mono ?_); rintro e w1_ ⟨rfl, hd⟩; have hb := drawn_below hd; clear hd; replace HB := Aside0.mk (below_step HB.out hb); have Zw1_ := Aside0.mk hb.size; clear hb) | (clear tk2; go_at_call 14; (with_reducible refine (laws_toInsS.calls k _ _ l0 x _ (Kd.C_below HR0.out HB.out) HC0.out HTO.out).mono ?_); rintro e w2_ ⟨vT0, rfl, hT0, hb⟩; have T0 := Aside0.mk (OwnR.new hT0 HB.out.size); replace HB := Aside0.mk (below_step HB.out hb); have Zw2_ := Aside0.mk hb.size; clear hb; clear hT0; obtain ⟨AT0, cT0, eT0⟩ := OwnR.slice T0.out; subst eT0) | (clear tk3; go_at_call 45; (with_reducible refine (spec_KnownAt.calls k _ _ x s _ (OwnR.reads T0.out).2.2 (OwnR.reads T0.out).2.1 HSP.out).mono ?_); rintro e w3_ ⟨vW0, rfl, hW0, hb⟩; replace T0 := Aside0.mk (OwnR.below T0.out hb); have W0 := Aside0.mk (Own.new hW0 HB.out.size); replace HB := Aside0.mk (below_step HB.out hb); have Zw3_ := Aside0.mk hb.size; clear hb; clear hW0; obtain ⟨AW0, cW0, eW0⟩ := Own.slice W0.out; subst eW0) | (clear tk4; go_at_call 14; (with_reducible refine (laws_toInsS.calls k _ _ l0 x _ (Kd.C_below HR0.out HB.out) HC0.out HTO.out).mono ?_); rintro e w4_ ⟨vX0, rfl, hX0, hb⟩; replace T0 := Aside0.mk (OwnR.below T0.out hb); replace W0 := Aside0.mk (Own.below W0.out hb); have X0 := Aside0.mk (OwnR.new hX0 HB.out.size); replace HB := Aside0.mk (below_step HB.out hb); have Zw4_ := Aside0.mk hb.size; clear hb; clear hX0; obtain ⟨AX0, cX0, eX0⟩ := OwnR.slice X0.out; subst eX0) | (clear tk5; go_at_call 46; (with_reducible refine (impl_KnownAt.calls k _ _ x g _ (OwnR.reads X0.out).2.2 (OwnR.reads X0.out).2.1 HIM.out).mono ?_); rintro e w5_ ⟨vG0, rfl, hG0, hb⟩; replace T0 := Aside0.mk (OwnR.below T0.out hb); replace W0 := Aside0.mk (Own.below W0.out hb); replace X0 := Aside0.mk (OwnR.below X0.out hb); have G0 := Aside0.mk (Own.new hG0 HB.out.size); replace HB := Aside0.mk (below_step HB.out hb); have Zw5_ := Aside0.mk hb.size; clear hb; clear hG0; obtain ⟨AG0, cG0, eG0⟩ := Own.slice G0.out; subst eG0) | (clear tk6; go_at_call 47; (with_reducible refine (laws_eqKnownSS.calls k _ _ g _ _ s true _ (Own.reads G0.out).2.2 (Own.reads G0.out).2.1 (Own.reads W0.out).2.2 (Own.reads W0.out).2.1 HEE.out).mono ?_); rintro e w6_ ⟨rfl, hb⟩; replace T0 := Aside0.mk (OwnR.below T0.out hb); replace W0 := Aside0.mk (Own.below W0.out hb); replace X0 := Aside0.mk (OwnR.below X0.out hb); replace G0 := Aside0.mk (Own.below G0.out hb); replace HB := Aside0.mk (below_step HB.out hb); have Zw6_ := Aside0.mk hb.size; clear hb) | (clear tk7; go_at_call 14; (with_reducible refine (laws_toInsS.calls k _ _ l0 x _ (Kd.C_below HR0.out HB.out) HC0.out HTO.out).mono ?_); rintro e w7_ ⟨vY0, rfl, hY0, hb⟩; replace T0 := Aside0.mk (OwnR.below T0.out hb); replace W0 := Aside0.mk (Own.below W0.out hb); replace X0 := Aside0.mk (OwnR.below X0.out hb); replace G0 := Aside0.mk (Own.below G0.out hb); have Y0 := Aside0.mk (OwnR.new hY0 HB.out.size); replace HB := Aside0.mk (below_step HB.out hb); have Zw7_ := Aside0.mk hb.size; clear hb; clear hY0; obtain ⟨AY0, cY0, eY0⟩ := OwnR.slice Y0.out; subst eY0) | (clear tk8; go_at_call 16; (with_reducible refine (laws_eqInsS.calls k _ _ x _ _ x true _ (OwnR.reads X0.out).2.2 (OwnR.reads X0.out).2.1 (OwnR.reads Y0.out).2.2 (OwnR.reads Y0.out).2.1 HEX.out).mono ?_); rintro e w8_ ⟨rfl, hb⟩; replace T0 := Aside0.mk (OwnR.below T0.out hb); replace W0 := Aside0.mk (Own.below W0.out hb); replace X0 := Aside0.mk (OwnR.below X0.out hb); replace G0 := Aside0.mk (Own.below G0.out hb); replace Y0 := Aside0.mk (OwnR.below Y0.out hb); replace HB := Aside0.mk (below_step HB.out hb); have Zw8_ := Aside0.mk hb.size; clear hb) | (clear tk9; go_at_call 17; (with_reducible refine (laws_markInsS.calls k (fun k => w3_.heap.size ≤ k ∧ k < w4_.heap.size) (.slice AX0 x.length cX0) x 1 kk x' w _ HB.out (OwnR.R X0.out) HMX.out).mono ?_); rintro e w9_ ⟨rfl, hX0, hB, hK⟩; replace W0 := Aside0.mk (Own.kept W0.out hK (fun k h1 h2 h3 => (by have := Zw1_.out; have := Zw2_.out; have := Zw3_.out; have := Zw4_.out; have := Zw5_.out; have := Zw6_.out; have := Zw7_.out; have := Zw8_.out; omega))); replace G0 := Aside0.mk (Own.kept G0.out hK (fun k h1 h2 h3 => (by have := Zw1_.out; have := Zw2_.out; have := Zw3_.out; have := Zw4_.out; have := Zw5_.out; have := Zw6_.out; have := Zw7_.out; have := Zw8_.out; omega))); replace X0 := Aside0.mk (OwnR.mark hX0 (by have := Zw1_.out; have := Zw2_.out; have := Zw3_.out; have := Zw4_.out; have := Zw5_.out; have := Zw6_.out; have := Zw7_.out; have := Zw8_.out; omega)); replace HB := Aside0.mk hB; have Zw9_ := Aside0.mk hK.1; clear hB hK hX0; clear X0) | (clear tk10; go_at_call 47; (with_reducible refine (laws_eqKnownSS.calls k _ _ g _ _ s true _ (Own.reads G0.out).2.2 (Own.reads G0.out).2.1 (Own.reads W0.out).2.2 (Own.reads W0.out).2.1 HEE.out).mono ?_); rintro e w10_ ⟨rfl, hb⟩; replace W0 := Aside0.mk (Own.below W0.out hb); replace G0 := Aside0.mk (Own.below G0.out hb); replace HB := Aside0.mk (below_step HB.out hb); have Zw10_ := Aside0.mk hb.size; clear hb) | (clear tk11; go_at_call 48; (with_reducible refine (laws_markKnownSS.calls k (fun k => w4_.heap.size ≤ k ∧ k < w5_.heap.size) (.slice AG0 g.length cG0) g 1 m g' w _ HB.out (Own.S G0.out) HMG.out).mono ?_); rintro e w11_ ⟨rfl, hG0, hB, hK⟩; replace W0 := Aside0.mk (Own.kept W0.out hK (fun k h1 h2 h3 => (by have := Zw1_.out; have := Zw2_.out; have := Zw3_.out; have := Zw4_.out; have := Zw5_.out; have := Zw6_.out; have := Zw7_.out; have := Zw8_.out; have := Zw9_.out; have := Zw10_.out; omega))); replace G0 := Aside0.mk (Own.mark hG0 (by have := Zw1_.out; have := Zw2_.out; have := Zw3_.out; have := Zw4_.out; have := Zw5_.out; have := Zw6_.out; have := Zw7_.out; have := Zw8_.out; have := Zw9_.out; have := Zw10_.out; omega)); replace HB := Aside0.mk hB; have Zw11_ := Aside0.mk hK.1; clear hB hK hG0) | (clear tk12; go_at_call 49; (with_reducible refine (held_ k _ _ _ g' 1 m _ (Own.reads G0.out) HHE.out).mono ?_); rintro e w12_ ⟨rfl, hd⟩; have hb := drawn_below hd; clear hd; replace W0 := Aside0.mk (Own.below W0.out hb); replace G0 := Aside0.mk (Own.below G0.out hb); replace HB := Aside0.mk (below_step HB.out hb); have Zw12_ := Aside0.mk hb.size; clear hb) | (clear tk13; go_at_call 14; (with_reducible refine (laws_toInsS.calls k _ _ l0 x _ (Kd.C_below HR0.out HB.out) HC0.out HTO.out).mono ?_); rintro e w13_ ⟨vV0, rfl, hV0, hb⟩; replace W0 := Aside0.mk (Own.below W0.out hb); replace G0 := Aside0.mk (Own.below G0.out hb); have V0 := Aside0.mk (OwnR.new hV0 HB.out.size); replace HB := Aside0.mk (below_step HB.out hb); have Zw13_ := Aside0.mk hb.size; clear hb; clear hV0; obtain ⟨AV0, cV0, eV0⟩ := OwnR.slice V0.out; subst eV0) | (clear tk14; go_at_call 46; (with_reducible refine (impl_KnownAt.calls k _ _ x g _ (OwnR.reads V0.out).2.2 (OwnR.reads V0.out).2.1 HIM.out).mono ?_); rintro e w14_ ⟨vH0, rfl, hH0, hb⟩; replace W0 := Aside0.mk (Own.below W0.out hb); replace G0 := Aside0.mk (Own.below G0.out hb); replace V0 := Aside0.mk (OwnR.below V0.out hb); have H0 := Aside0.mk (Own.new hH0 HB.out.size); replace HB := Aside0.mk (below_step HB.out hb); have Zw14_ := Aside0.mk hb.size; clear hb; clear hH0; obtain ⟨AH0, cH0, eH0⟩ := Own.slice H0.out; subst eH0) | (clear tk15; go_at_call 47; (with_reducible refine (laws_eqKnownSS.calls k _ _ g _ _ s true _ (Own.reads H0.out).2.2 (Own.reads H0.out).2.1 (Own.reads W0.out).2.2 (Own.reads W0.out).2.1 HEE.out).mono ?_); rintro e w15_ ⟨rfl, hb⟩; replace W0 := Aside0.mk (Own.below W0.out hb); replace G0 := Aside0.mk (Own.below G0.out hb); replace V0 := Aside0.mk (OwnR.below V0.out hb); replace H0 := Aside0.mk (Own.below H0.out hb); replace HB := Aside0.mk (below_step HB.out hb); have Zw15_ := Aside0.mk hb.size; clear hb) | (clear tk16; go_at_call 49; (with_reducible refine (held_ k _ _ _ g' 1 m _ (Own.reads G0.out) HHE.out).mono ?_); rintro e w16_ ⟨rfl, hd⟩; have hb := drawn_below hd; clear hd; replace W0 := Aside0.mk (Own.below W0.out hb); replace G0 := Aside0.mk (Own.below G0.out hb); replace V0 := Aside0.mk (OwnR.below V0.out hb); replace H0 := Aside0.mk (Own.below H0.out hb); replace HB := Aside0.mk (below_step HB.out hb); have Zw16_ := Aside0.mk hb.size; clear hb))
  go_ret
  exact ⟨rfl, HB.out⟩
/-- What the law asks, as a Lean function: true where all that it compares is alike; none where that isn't so. -/
def laws_FnExactKnownAt.f (k : Nat) (l0 : List S65) : Option Bool :=
  (laws_szInsS.f l0 1048576).bind fun z => if z < 0 then some true else
  (laws_toInsS.f k l0).bind fun x => (spec_KnownAt.f k x).bind fun s => (impl_KnownAt.f k x).bind fun g =>
  (laws_eqKnownSS.f k g s).bind fun b1 => (laws_eqInsS.f k x x).bind fun b2 => (laws_markInsS.f k x 1).bind fun q => (laws_markKnownSS.f k g 1).bind fun m => (laws_heldKnownSS.f k m.2 1).bind fun h =>
  if b1 = true ∧ b2 = true ∧ 0 ≤ q.1 ∧ h = m.1 ∧ 0 ≤ m.1 then some true else none
theorem laws_FnExactKnownAt.calls (k : Nat) (A0 : Option Addr) (c0 : Nat) (l0 : List S65) (r : Bool) (w : World) (hr0 : Kd.C k65 w A0 l0.length l0) (hc0 : l0.length ≤ c0) (h : laws_FnExactKnownAt.f k l0 = some r) :
    Calls Try.prog 7 #[.slice A0 l0.length c0] w fun e w' => e = .returned (.bool r) ∧ Below w.heap.size w w' := by
  obtain ⟨z, hz, h⟩ := Option.bind_eq_some_iff.mp h
  by_cases c : z < 0
  · rw [if_pos c] at h
    obtain rfl := Option.some.inj h
    exact laws_FnExactKnownAt.small A0 c0 l0 z w hr0 hc0 hz c
  · rw [if_neg c] at h
    obtain ⟨x, h1, h⟩ := Option.bind_eq_some_iff.mp h
    obtain ⟨s, h2, h⟩ := Option.bind_eq_some_iff.mp h
    obtain ⟨g, h3, h⟩ := Option.bind_eq_some_iff.mp h
    obtain ⟨b1, h4, h⟩ := Option.bind_eq_some_iff.mp h
    obtain ⟨b2, h5, h⟩ := Option.bind_eq_some_iff.mp h
    obtain ⟨⟨kk, x'⟩, h6, h⟩ := Option.bind_eq_some_iff.mp h
    obtain ⟨⟨m, g'⟩, h7, h⟩ := Option.bind_eq_some_iff.mp h
    obtain ⟨hh, h8, h⟩ := Option.bind_eq_some_iff.mp h
    by_cases d : b1 = true ∧ b2 = true ∧ 0 ≤ kk ∧ hh = m ∧ 0 ≤ m
    · rw [if_pos d] at h
      obtain rfl := Option.some.inj h
      obtain ⟨rfl, rfl, d1, rfl, d2⟩ := d
      exact laws_FnExactKnownAt.walk k A0 c0 l0 z kk hh x x' s g g' w hr0 hc0 hz c h1 h2 h3 h4 h5 h6 d1 h7 h8 d2
    · rw [if_neg d] at h
      cases h
end Go.Proofs.Ytocimkpafakiaaa.XFnExactKnownAt
