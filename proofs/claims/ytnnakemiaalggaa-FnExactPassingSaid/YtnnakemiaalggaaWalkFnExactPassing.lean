/- The walk of FnExactPassing: the two tests are alike at both bools, and what is written into one turns no other; for every world. -/
import Derived.Test.YtnnakemiaalggaaPFnExactPassingx1
import Derived.Test.YtnnakemiaalggaaPFnExactPassingx2
namespace Go.Proofs.Ytnnakemiaalggaa.PFnExactPassing
open Go.RowKit Go.Proofs.YtnnakemiaalggaaW.PrintWords Go.Proofs.YtnnakemiaalggaaW.PrintLast Go.Proofs.YtnnakemiaalggaaW.PrintMore
attribute [local go_sem] max2_int min2_int max_two min_two max_three min_three max_four min_four
set_option linter.unusedVariables false
set_option linter.unusedSimpArgs false
theorem heap_new (w : World) (o : Obj) (n : Nat) (h : n = w.heap.size) : (w.alloc o).heap[n]? = some o := by
  subst h
  exact Array.getElem?_push_size
theorem heap_old (w : World) (o : Obj) (n : Nat) (h : n < w.heap.size) : (w.alloc o).heap[n]? = w.heap[n]? :=
  (below_alloc (Below.refl _ _) o).block n h
theorem size_alloc (w : World) (o : Obj) : (w.alloc o).heap.size = w.heap.size + 1 := Array.size_push ..
theorem row2 (W : World) (base g : Nat) (ok : Nat → Prop) (hok : ok g) (hb : base ≤ g) (x y : S73) (h : W.heap[g]? = some (.cells #[.int .i64 x.f0, .int .i64 x.f1, .int .i64 x.f2, .int .i64 y.f0, .int .i64 y.f1, .int .i64 y.f2] 73 (0, 0))) :
    k73.R 73 W base ok (.slice (some ⟨g, 0, none⟩) 2 2) [x, y] := by
  refine ⟨fun k hk => ?_, [.int .i64 x.f0, .int .i64 x.f1, .int .i64 x.f2, .int .i64 y.f0, .int .i64 y.f1, .int .i64 y.f2], ⟨rfl, .inr ⟨g, 2, _, rfl, hb, h, Nat.le_refl _, by decide, rfl, rfl⟩⟩, rfl, fun j p hj => ?_⟩
  · have : g = k := by simpa [Value.ownBlock] using hk
    subst this
    exact hok
  · match j, hj with
    | 0, hj => obtain rfl := Option.some.inj hj; exact k73_mkM _ _ _ _
    | 1, hj => obtain rfl := Option.some.inj hj; exact k73_mkM _ _ _ _
theorem rows2 (W : World) (base g g1 g2 : Nat) (hb : base ≤ g) (hb1 : base ≤ g1) (hb2 : base ≤ g2) (n1 : g1 ≠ g) (n2 : g2 ≠ g) (n3 : g1 ≠ g2) (x y x' y' : S73)
    (h1 : W.heap[g1]? = some (.cells #[.int .i64 x.f0, .int .i64 x.f1, .int .i64 x.f2, .int .i64 y.f0, .int .i64 y.f1, .int .i64 y.f2] 73 (0, 0)))
    (h2 : W.heap[g2]? = some (.cells #[.int .i64 x'.f0, .int .i64 x'.f1, .int .i64 x'.f2, .int .i64 y'.f0, .int .i64 y'.f1, .int .i64 y'.f2] 73 (0, 0)))
    (h : W.heap[g]? = some (.cells #[.slice (some ⟨g1, 0, none⟩) 2 2, .slice (some ⟨g2, 0, none⟩) 2 2] 74 (0, 0))) :
    Kd.S (Kd.slice 73 k73) 74 W base (fun k => base ≤ k) (.slice (some ⟨g, 0, none⟩) 2 2) [[x, y], [x', y']] := by
  have hv : (Value.slice (some ⟨g, 0, none⟩) 2 2).ownBlock = some g := rfl
  obtain ⟨f, hf⟩ := Kd.reps_tag (d := Kd.slice 73 k73) (w := W) (base := base) (ok := fun k => base ≤ k ∧ some k ≠ (Value.slice (some ⟨g, 0, none⟩) 2 2).ownBlock) (xs := [[x, y], [x', y']]) (inner := [.slice (some ⟨g1, 0, none⟩) 2 2, .slice (some ⟨g2, 0, none⟩) 2 2]) (fun j k => (j = 0 ∧ k = g1) ∨ (j = 1 ∧ k = g2)) (fun i j k a b => by omega) (fun j k a => by rw [hv]; refine ⟨by omega, fun e => ?_⟩; have := Option.some.inj e; omega) rfl (fun j z hj => by
    match j, hj with
    | 0, hj => obtain rfl := Option.some.inj hj; exact ⟨_, rfl, row2 W base g1 _ (.inl ⟨rfl, rfl⟩) hb1 x y h1⟩
    | 1, hj => obtain rfl := Option.some.inj hj; exact ⟨_, rfl, row2 W base g2 _ (.inr ⟨rfl, rfl⟩) hb2 x' y' h2⟩)
  refine ⟨f, fun k hk => ?_, [.slice (some ⟨g1, 0, none⟩) 2 2, .slice (some ⟨g2, 0, none⟩) 2 2], ⟨rfl, .inr ⟨g, 2, _, rfl, hb, h, Nat.le_refl _, by decide, rfl, rfl⟩⟩, hf⟩
  have : g = k := by simpa [Value.ownBlock] using hk
  subst this
  exact hb
theorem heap_dr (w : World) (n k : Nat) : (w.drewN n).heap[k]? = w.heap[k]? := rfl
theorem size_dr (w : World) (n : Nat) : (w.drewN n).heap.size = w.heap.size := rfl
def paL (a0 a1 : Bool) : List (List S73) := [[⟨3, 0, 1⟩, ⟨if a0 = true then 4 else 3, 1, 1⟩], [⟨if a1 = true then 2 else 1, 1, 0⟩, ⟨1, 0, 0⟩]]
theorem choice_ (b : Bool) (x y z : Int) (hz : z = if b = true then x else y) (w : World) : Calls Try.prog 69 #[.bool b, .int .i64 x, .int .i64 y] w fun e w' => e = .returned (.int .i64 z) ∧ Drawn0 w w' := by
  subst hz
  refine impl_choice.calls b x y _ w ?_
  cases b <;> rfl
set_option maxHeartbeats 8000000 in
set_option maxRecDepth 100000 in
theorem impl_Passing.callsS (a0 a1 : Bool) (w : World) : Calls Try.prog 46 #[.bool a0, .bool a1] w fun e w' => ∃ v0_ : Value, e = .returned (v0_) ∧ Kd.S (Kd.slice 73 k73) 74 w' w.heap.size (fun k => w.heap.size ≤ k) v0_ (paL a0 a1) ∧ Below w.heap.size w w' := by
  have hu73 := Try.underlying73
  obtain ⟨z0, h0⟩ : ∃ z0 : Int, z0 = if a0 = true then 4 else 3 := ⟨_, rfl⟩
  obtain ⟨z1, h1⟩ : ∃ z1 : Int, z1 = if a1 = true then 2 else 1 := ⟨_, rfl⟩
  rw [show paL a0 a1 = [[⟨3, 0, 1⟩, ⟨z0, 1, 1⟩], [⟨z1, 1, 0⟩, ⟨1, 0, 0⟩]] by rw [h0, h1]; rfl]
  have C0 := Aside0.mk (choice_ a0 4 3 z0 h0)
  have C1 := Aside0.mk (choice_ a1 2 1 z1 h1)
  clear h0 h1
  go_enter Try.func46, Try.ntmps46
  go_wp2_with (first | (go_at_call 69; (with_reducible refine (C0.out _).mono ?_); rintro e w' ⟨rfl, ⟨nd, rfl⟩⟩) | (go_at_call 69; (with_reducible refine (C1.out _).mono ?_); rintro e w' ⟨rfl, ⟨nd, rfl⟩⟩))
  go_ret
  exact ⟨_, rfl, rows2 _ w.heap.size (w.heap.size + 1 + 1) w.heap.size (w.heap.size + 1) (by omega) (by omega) (by omega) (by omega) (by omega) (by omega) ⟨3, 0, 1⟩ ⟨z0, 1, 1⟩ ⟨z1, 1, 0⟩ ⟨1, 0, 0⟩ (by repeat (first | exact heap_new _ _ _ (by simp only [size_alloc, size_dr]) | rw [heap_old _ _ _ (by simp only [size_alloc, size_dr]; omega)] | rw [heap_dr])) (by repeat (first | exact heap_new _ _ _ (by simp only [size_alloc, size_dr]) | rw [heap_old _ _ _ (by simp only [size_alloc, size_dr]; omega)] | rw [heap_dr])) (by repeat (first | exact heap_new _ _ _ (by simp only [size_alloc, size_dr]) | rw [heap_old _ _ _ (by simp only [size_alloc, size_dr]; omega)] | rw [heap_dr])), by repeat (first | exact Below.refl _ _ | apply below_alloc | apply pw_below_drewN)⟩
set_option maxHeartbeats 8000000 in
set_option maxRecDepth 100000 in
theorem spec_Passing.false_false (w : World) : Calls Try.prog 45 #[.bool false, .bool false] w fun e w' => ∃ v0_ : Value, e = .returned (v0_) ∧ Kd.S (Kd.slice 73 k73) 74 w' w.heap.size (fun k => w.heap.size ≤ k) v0_ (paL false false) ∧ Below w.heap.size w w' := by
  have hu73 := Try.underlying73
  go_enter Try.func45, Try.ntmps45
  go_wp2
  go_ret
  exact ⟨_, rfl, rows2 _ w.heap.size (w.heap.size + 1 + 1 + 1 + 1) (w.heap.size + 1 + 1) (w.heap.size + 1 + 1 + 1) (by omega) (by omega) (by omega) (by omega) (by omega) (by omega) ⟨3, 0, 1⟩ ⟨3, 1, 1⟩ ⟨1, 1, 0⟩ ⟨1, 0, 0⟩ (by repeat (first | exact heap_new _ _ _ (by simp only [size_alloc, size_dr]) | rw [heap_old _ _ _ (by simp only [size_alloc, size_dr]; omega)] | rw [heap_dr])) (by repeat (first | exact heap_new _ _ _ (by simp only [size_alloc, size_dr]) | rw [heap_old _ _ _ (by simp only [size_alloc, size_dr]; omega)] | rw [heap_dr])) (by repeat (first | exact heap_new _ _ _ (by simp only [size_alloc, size_dr]) | rw [heap_old _ _ _ (by simp only [size_alloc, size_dr]; omega)] | rw [heap_dr])), by repeat (first | exact Below.refl _ _ | apply below_alloc | apply pw_below_drewN)⟩
set_option maxHeartbeats 8000000 in
set_option maxRecDepth 100000 in
theorem spec_Passing.false_true (w : World) : Calls Try.prog 45 #[.bool false, .bool true] w fun e w' => ∃ v0_ : Value, e = .returned (v0_) ∧ Kd.S (Kd.slice 73 k73) 74 w' w.heap.size (fun k => w.heap.size ≤ k) v0_ (paL false true) ∧ Below w.heap.size w w' := by
  have hu73 := Try.underlying73
  go_enter Try.func45, Try.ntmps45
  go_wp2
  go_ret
  exact ⟨_, rfl, rows2 _ w.heap.size (w.heap.size + 1 + 1 + 1 + 1) (w.heap.size + 1 + 1) (w.heap.size + 1 + 1 + 1) (by omega) (by omega) (by omega) (by omega) (by omega) (by omega) ⟨3, 0, 1⟩ ⟨3, 1, 1⟩ ⟨2, 1, 0⟩ ⟨1, 0, 0⟩ (by repeat (first | exact heap_new _ _ _ (by simp only [size_alloc, size_dr]) | rw [heap_old _ _ _ (by simp only [size_alloc, size_dr]; omega)] | rw [heap_dr])) (by repeat (first | exact heap_new _ _ _ (by simp only [size_alloc, size_dr]) | rw [heap_old _ _ _ (by simp only [size_alloc, size_dr]; omega)] | rw [heap_dr])) (by repeat (first | exact heap_new _ _ _ (by simp only [size_alloc, size_dr]) | rw [heap_old _ _ _ (by simp only [size_alloc, size_dr]; omega)] | rw [heap_dr])), by repeat (first | exact Below.refl _ _ | apply below_alloc | apply pw_below_drewN)⟩
set_option maxHeartbeats 8000000 in
set_option maxRecDepth 100000 in
theorem spec_Passing.true_false (w : World) : Calls Try.prog 45 #[.bool true, .bool false] w fun e w' => ∃ v0_ : Value, e = .returned (v0_) ∧ Kd.S (Kd.slice 73 k73) 74 w' w.heap.size (fun k => w.heap.size ≤ k) v0_ (paL true false) ∧ Below w.heap.size w w' := by
  have hu73 := Try.underlying73
  go_enter Try.func45, Try.ntmps45
  go_wp2
  go_ret
  exact ⟨_, rfl, rows2 _ w.heap.size (w.heap.size + 1 + 1 + 1 + 1) (w.heap.size + 1 + 1) (w.heap.size + 1 + 1 + 1) (by omega) (by omega) (by omega) (by omega) (by omega) (by omega) ⟨3, 0, 1⟩ ⟨4, 1, 1⟩ ⟨1, 1, 0⟩ ⟨1, 0, 0⟩ (by repeat (first | exact heap_new _ _ _ (by simp only [size_alloc, size_dr]) | rw [heap_old _ _ _ (by simp only [size_alloc, size_dr]; omega)] | rw [heap_dr])) (by repeat (first | exact heap_new _ _ _ (by simp only [size_alloc, size_dr]) | rw [heap_old _ _ _ (by simp only [size_alloc, size_dr]; omega)] | rw [heap_dr])) (by repeat (first | exact heap_new _ _ _ (by simp only [size_alloc, size_dr]) | rw [heap_old _ _ _ (by simp only [size_alloc, size_dr]; omega)] | rw [heap_dr])), by repeat (first | exact Below.refl _ _ | apply below_alloc | apply pw_below_drewN)⟩
set_option maxHeartbeats 8000000 in
set_option maxRecDepth 100000 in
theorem spec_Passing.true_true (w : World) : Calls Try.prog 45 #[.bool true, .bool true] w fun e w' => ∃ v0_ : Value, e = .returned (v0_) ∧ Kd.S (Kd.slice 73 k73) 74 w' w.heap.size (fun k => w.heap.size ≤ k) v0_ (paL true true) ∧ Below w.heap.size w w' := by
  have hu73 := Try.underlying73
  go_enter Try.func45, Try.ntmps45
  go_wp2
  go_ret
  exact ⟨_, rfl, rows2 _ w.heap.size (w.heap.size + 1 + 1 + 1 + 1) (w.heap.size + 1 + 1) (w.heap.size + 1 + 1 + 1) (by omega) (by omega) (by omega) (by omega) (by omega) (by omega) ⟨3, 0, 1⟩ ⟨4, 1, 1⟩ ⟨2, 1, 0⟩ ⟨1, 0, 0⟩ (by repeat (first | exact heap_new _ _ _ (by simp only [size_alloc, size_dr]) | rw [heap_old _ _ _ (by simp only [size_alloc, size_dr]; omega)] | rw [heap_dr])) (by repeat (first | exact heap_new _ _ _ (by simp only [size_alloc, size_dr]) | rw [heap_old _ _ _ (by simp only [size_alloc, size_dr]; omega)] | rw [heap_dr])) (by repeat (first | exact heap_new _ _ _ (by simp only [size_alloc, size_dr]) | rw [heap_old _ _ _ (by simp only [size_alloc, size_dr]; omega)] | rw [heap_dr])), by repeat (first | exact Below.refl _ _ | apply below_alloc | apply pw_below_drewN)⟩
theorem spec_Passing.callsS (a0 a1 : Bool) (w : World) : Calls Try.prog 45 #[.bool a0, .bool a1] w fun e w' => ∃ v0_ : Value, e = .returned (v0_) ∧ Kd.S (Kd.slice 73 k73) 74 w' w.heap.size (fun k => w.heap.size ≤ k) v0_ (paL a0 a1) ∧ Below w.heap.size w w' := by
  cases a0 <;> cases a1
  · exact spec_Passing.false_false w
  · exact spec_Passing.false_true w
  · exact spec_Passing.true_false w
  · exact spec_Passing.true_true w

/-! ### laws_markLitSS: function 31 -/
def laws_markLitSS.l0 : Nat → List (List S73) → Int → Int → Option (Int × List (List S73))
  | 0, _, _, _ => none
  | k + 1, x0, x1, x5 => if x5 < (x0.length : Int) then (if 0 ≤ x5 then ((laws_markLitS.f k (x0.getD x5.toNat []) x1).bind fun p => laws_markLitSS.l0 k (x0.set x5.toNat p.2) p.1 (wrap64 (x5 + 1))) else none) else some (x1, x0)
def laws_markLitSS.f (k : Nat) (l0 : List (List S73)) (a1 : Int) : Option (Int × List (List S73)) := laws_markLitSS.l0 k l0 a1 0
set_option maxHeartbeats 8000000 in
set_option maxRecDepth 100000 in
theorem laws_markLitSS.calls (k : Nat) (P0_ : Nat → Prop) (u9000_ : Value) (l0 : List (List S73)) (a1 r1 : Int) (r2 : List (List S73)) (w0 w : World) (hB : Below w0.heap.size w0 w) (ho0 : Kd.S (Kd.slice 73 k73) 74 w w0.heap.size P0_ u9000_ l0) (h : laws_markLitSS.f k l0 a1 = some (r1, r2)) :
    Calls Try.prog 31 #[u9000_, .int .i64 a1] w fun e w' => e = .returned (.int .i64 r1) ∧ Kd.S (Kd.slice 73 k73) 74 w' w0.heap.size (fun k_ => (P0_ k_ ∨ w.heap.size ≤ k_)) u9000_ r2 ∧ Below w0.heap.size w0 w' ∧ Kept w w' (fun k_ => P0_ k_) := by
  have HO0 := Aside0.mk (show Kd.S (Kd.slice 73 k73) 74 w w0.heap.size (fun k_ => (P0_ k_ ∨ w.heap.size ≤ k_)) u9000_ l0 from Kd.S_mono ho0 (fun k_ hk => (.inl hk)))
  have HK := Aside0.mk (Kept.refl w (fun k_ => P0_ k_))
  have HB := Aside0.mk hB
  have H' := Aside0.mk (show laws_markLitSS.l0 k l0 a1 0 = some (r1, r2) from h)
  clear hB ho0 h
  go_enter Try.func31, Try.ntmps31
  go_wp2
  go_loopg [1, 5] k (fun kq v1 v5 w' => ∃ (x0_1 : List (List S73)) (x1_1 : Int) (x5_1 : Int), v1 = .int .i64 x1_1 ∧ v5 = .int .i64 x5_1 ∧ Aside0 (laws_markLitSS.l0 kq x0_1 x1_1 x5_1 = some (r1, r2)) ∧ Aside0 (kq ≤ k) ∧ Aside0 (Kd.S (Kd.slice 73 k73) 74 w' w0.heap.size (fun k_ => (P0_ k_ ∨ w.heap.size ≤ k_)) u9000_ x0_1) ∧ Aside0 (Kept w w' (fun k_ => P0_ k_)) ∧ Aside0 (Below w0.heap.size w0 w'))
  case atStart => exact ⟨l0, a1, 0, rfl, rfl, H', ⟨Nat.le_refl _⟩, ⟨by (with_reducible repeat (first | apply Kd.S_alloc | apply Kd.S_drewN | apply Kd.S_drew)); exact HO0.out⟩, ⟨by repeat (first | (with_reducible first | exact HK.out | apply Kept.alloc | apply Kept.drewN | apply Kept.drew) | exact HK.out)⟩, ⟨by repeat (first | (with_reducible first | exact HB.out | apply below_alloc | apply pw_below_drewN | apply below_drew1) | exact HB.out)⟩⟩
  case round =>
    clear H'
    obtain ⟨x0_1, x1_1, x5_1, rfl, rfl, HA, HK1, HO_0, HK, HB⟩ := hrel
    cases gk with
    | zero => exact absurd HA.out (by simp [laws_markLitSS.l0])
    | succ k1 =>
      have H := HA.out
      clear HA
      simp only [laws_markLitSS.l0] at H
      by_cases c3 : x5_1 < (x0_1.length : Int)
      · rw [if_pos c3] at H
        have c3b0 : decide (x5_1 < (x0_1.length : Int)) = true := decide_eq_true c3
        by_cases c4 : 0 ≤ x5_1
        · rw [if_pos c4] at H
          have c4b0 : decide (0 ≤ x5_1) = true := decide_eq_true c4
          obtain ⟨Ao8, co8, eo8⟩ := Kd.S_slice HO_0.out
          subst eo8
          obtain ⟨go5, co5, eo5, gb5, gl5, cl5, HG5⟩ := Kd.S_form HO_0.out (by omega)
          (first | cases eo5 | (injection eo5 with ea_ en_ ec_; (first | subst ea_ | (injection ea_ with ea_; subst ea_)); subst ec_; clear en_))
          obtain ⟨oki, c, hcl, hM, hcc, hoki, hH⟩ := Kd.S_lend HO_0.out [] x5_1 c4 c3
          obtain ⟨ui, rfl, hRi⟩ := hM
          have hx5_0 : wr.cell? ⟨go5, (x5_1 : Int).toNat, none⟩ = some ui := by have h_ := hcc 0 _ rfl; rwa [show (Kd.slice 73 k73).sz = 1 from rfl, Nat.mul_one, Nat.add_zero] at h_
          obtain ⟨ri, hri⟩ : ∃ ri, ri = x0_1.getD x5_1.toNat [] := ⟨_, rfl⟩
          rw [← hri] at H hRi
          obtain ⟨⟨m1, m2⟩, hA, H⟩ := Option.bind_eq_some_iff.mp H
          have HAm := Aside0.mk hA
          have HRi := Aside0.mk hRi
          have HHi := Aside0.mk hH
          have HOk := Aside0.mk hoki
          have H' := Aside0.mk (show laws_markLitSS.l0 k1 (x0_1.set x5_1.toNat m2) m1 (wrap64 (x5_1 + 1)) = some (r1, r2) from H)
          clear H hA hRi hH hoki hcc hcl hri gb5 gl5 HG5
          replace c3 := eq_true c3
          replace c4 := eq_true c4
          go_wp2_with (first | (go_at_call 62; (with_reducible refine (laws_markLitS.calls k1 oki ui ri x1_1 m1 m2 w0 _ HB.out HRi.out HAm.out).mono ?_); rintro e w' ⟨rfl, hR', hB', hK'⟩; have HS' := Aside0.mk (Kd.H_back (Kd.H_step (Kd.H_widen HHi.out) (fun k hk hn hlt => hK'.2 k hlt (fun ho => hn (.inl ho)))) (x' := m2) ⟨ui, rfl, hR'⟩ (fun k hk => hk.elim .inl (fun h => .inr ⟨.inr (Nat.le_trans HK.out.1 h), h⟩))); have HK2 := Aside0.mk (show Kept w w' (fun k_ => P0_ k_) from ⟨Nat.le_trans HK.out.1 hK'.1, fun i hi hn => (hK'.2 i (Nat.lt_of_lt_of_le hi HK.out.1) (fun ho => (HOk.out i ho).1.elim hn (fun h => Nat.not_le.2 hi h))).trans (HK.out.2 i hi hn)⟩); have HB2 := Aside0.mk hB'; clear HO_0 HK HB HRi HHi hR' hB' hK'; have HO_0 := HS'; have HK := HK2; have HB := HB2; clear HS' HK2 HB2))
          go_roundg k1
          case measure => have := HK1.out; omega
          case rel => exact ⟨_, m1, (wrap64 (x5_1 + 1)), (by first | rfl | (simp; done) | (simp [*]; done)), (by first | rfl | (simp; done) | (simp [*]; done)), H', ⟨by have := HK1.out; omega⟩, ⟨by (with_reducible repeat (first | apply Kd.S_alloc | apply Kd.S_drewN | apply Kd.S_drew)); exact HO_0.out⟩, ⟨by repeat (first | (with_reducible first | exact HK.out | apply Kept.alloc | apply Kept.drewN | apply Kept.drew) | exact HK.out)⟩, ⟨by repeat (first | (with_reducible first | exact HB.out | apply below_alloc | apply pw_below_drewN | apply below_drew1) | exact HB.out)⟩⟩
        · rw [if_neg c4] at H
          exact absurd H (by simp)
      · rw [if_neg c3] at H
        have c3b0 : decide (x5_1 < (x0_1.length : Int)) = false := decide_eq_false c3
        clear c3
        simp only [Option.some.injEq, Prod.mk.injEq] at H
        obtain ⟨rfl, rfl⟩ := H
        obtain ⟨Ao15, co15, eo15⟩ := Kd.S_slice HO_0.out
        subst eo15
        go_wp2
        go_ret
        exact ⟨rfl, by (with_reducible repeat (first | apply Kd.S_alloc | apply Kd.S_drewN | apply Kd.S_drew)); exact HO_0.out, by repeat (first | (with_reducible first | exact HB.out | apply below_alloc | apply pw_below_drewN | apply below_drew1) | exact HB.out), by repeat (first | (with_reducible first | exact HK.out | apply Kept.alloc | apply Kept.drewN | apply Kept.drew) | exact HK.out)⟩

/-! ### rows of rows that are a call's own -/
def Own {α : Type} (d : Kd α) (e : Nat) (w : World) (lo hi : Nat) (v : Value) (xs : List α) : Prop := Kd.S d e w lo (fun k => lo ≤ k ∧ k < hi) v xs
section
variable {α : Type} {d : Kd α} {e : Nat} {w w' w0 : World} {lo hi : Nat} {v : Value} {xs : List α} {ok P : Nat → Prop}
theorem Own.new {B : Nat} (h : Kd.S d e w' B ok v xs) : Own d e w' B w'.heap.size v xs := Kd.S_mono (Kd.S_bound h) (fun k hk => ⟨hk.2.1, hk.2.2.1⟩)
theorem Own.S (h : Own d e w lo hi v xs) : Kd.S d e w lo (fun k => lo ≤ k ∧ k < hi) v xs := h
theorem Own.below (h : Own d e w lo hi v xs) (hb : Below w.heap.size w w') : Own d e w' lo hi v xs := Kd.S_below h hb
theorem Own.kept (h : Own d e w lo hi v xs) (hk : Kept w w' P) (hp : ∀ k, lo ≤ k → k < hi → ¬ P k) : Own d e w' lo hi v xs := Kd.S_step h (fun k ho hlt => hk.2 k hlt (hp k ho.1 ho.2))
theorem Own.reads {A : Option Addr} {n c : Nat} (h : Own d e w lo hi (.slice A n c) xs) : n = xs.length ∧ n ≤ c ∧ d.C w A xs.length xs := Kd.S_reads' h
theorem Own.slice (h : Own d e w lo hi v xs) : ∃ A c, v = .slice A xs.length c := Kd.S_slice h
theorem drawn_below (h : Drawn0 w w') : Below w.heap.size w w' := by
  obtain ⟨n, rfl⟩ := h
  exact pw_below_drewN (Below.refl _ _) n
end
theorem held_ (k : Nat) (A0 : Option Addr) (c0 n : Nat) (l0 : List (List S73)) (a1 r : Int) (w : World) (hr : n = l0.length ∧ n ≤ c0 ∧ Kd.C (Kd.slice 73 k73) w A0 l0.length l0) (h : laws_heldLitSS.f k l0 a1 = some r) : Calls Try.prog 32 #[.slice A0 n c0, .int .i64 a1] w fun e w' => e = .returned (.int .i64 r) ∧ Drawn0 w w' := by
  obtain ⟨rfl, h1, h2⟩ := hr
  exact laws_heldLitSS.calls k A0 c0 l0 a1 r w h2 h1 h

set_option maxHeartbeats 8000000 in
set_option maxRecDepth 100000 in
theorem walk (a0 a1 : Bool) (k : Nat) (m : Int) (L M : List (List S73)) (hL : L = (paL a0 a1)) (hE : laws_eqLitSS.f k L L = some true) (hM : laws_markLitSS.f k L 1 = some (m, M)) (hH : laws_heldLitSS.f k M 1 = some m) (hm : 0 ≤ m) (w : World) :
    Calls Try.prog 12 #[.bool a0, .bool a1] w fun e w' => e = .returned (.bool true) ∧ Below w.heap.size w w' := by
  have HE := Aside0.mk hE
  have HM := Aside0.mk hM
  have HH := Aside0.mk hH
  have HL := Aside0.mk hL
  have m0 : decide (m < 0) = false := decide_eq_false (by omega)
  have tk1 := Aside0.mk True.intro
  have tk2 := Aside0.mk True.intro
  have tk3 := Aside0.mk True.intro
  have tk4 := Aside0.mk True.intro
  have tk5 := Aside0.mk True.intro
  have tk6 := Aside0.mk True.intro
  have tk7 := Aside0.mk True.intro
  have tk8 := Aside0.mk True.intro
  clear hE hM hH hm hL
  go_enter Try.func12, Try.ntmps12
  go_wp2_with (first | (clear tk1; go_at_call 45; (with_reducible refine ((HL.out ▸ spec_Passing.callsS a0 a1 _)).mono ?_); rintro e w1 ⟨v1, rfl, hS1, hB1⟩; have HS1 := Aside0.mk (Own.new hS1); have HB := Aside0.mk hB1; have HZ1 := Aside0.mk (Nat.le_refl w1.heap.size); clear hS1 hB1; obtain ⟨A1, c1, e1⟩ := Own.slice HS1.out; subst e1; have HW1 := Aside0.mk HB.out.size) | (clear tk2; go_at_call 46; (with_reducible refine ((HL.out ▸ impl_Passing.callsS a0 a1 _)).mono ?_); rintro e w2 ⟨v2, rfl, hS2, hB2⟩; have HS2 := Aside0.mk (Own.new hS2); have HSs := Aside0.mk (Own.below HS1.out hB2); have HBs := Aside0.mk (below_step HB.out hB2); have HBI := Aside0.mk hB2; clear hS2 hB2 HS1 HB; have HS1 := HSs; have HB := HBs; clear HSs HBs; obtain ⟨A2, c2, e2⟩ := Own.slice HS2.out; subst e2) | (clear tk3; go_at_call 30; (with_reducible refine (laws_eqLitSS.calls k A2 c2 L A1 c1 L true _ (Own.reads HS2.out).2.2 (Own.reads HS2.out).2.1 (Own.reads HS1.out).2.2 (Own.reads HS1.out).2.1 HE.out).mono ?_); rintro e w' ⟨rfl, hb⟩; have HIs := Aside0.mk (below_step HBI.out hb); clear HBI; have HBI := HIs; clear HIs; have HS1s := Aside0.mk (Own.below HS1.out hb); have HS2s := Aside0.mk (Own.below HS2.out hb); have HBs := Aside0.mk (below_step HB.out hb); clear hb HB HS1 HS2; have HS1 := HS1s; have HS2 := HS2s; have HB := HBs; clear HBs HS1s HS2s) | (clear tk4; go_at_call 31; (with_reducible refine (laws_markLitSS.calls k (fun k => w1.heap.size ≤ k ∧ k < w2.heap.size) (.slice A2 L.length c2) L 1 m M w1 _ HBI.out (Own.S HS2.out) HM.out).mono ?_); rintro e w4 ⟨rfl, hS, hB, hK⟩; have HSs := Aside0.mk (Own.kept HS1.out hK (fun k h1 h2 h3 => Nat.not_le.2 h2 h3.1)); have HS2s := Aside0.mk (Own.new hS); have HBs := Aside0.mk (below_weaken HB.out (Nat.le_refl _) ⟨hB.os.trans HBI.out.os.symm, hB.tape.trans HBI.out.tape.symm, hB.output.trans HBI.out.output.symm, hK.1, fun i hi => hK.2 i (Nat.lt_of_lt_of_le hi HB.out.size) (fun h => Nat.not_le.2 hi (Nat.le_trans HW1.out h.1))⟩); clear hS hB hK HS1 HS2 HB HBI; have HS1 := HSs; have HS2 := HS2s; have HB := HBs; clear HSs HS2s HBs) | (clear tk5; go_at_call 32; (with_reducible refine (held_ k A2 c2 L.length M 1 m _ (Own.reads HS2.out) HH.out).mono ?_); rintro e w' ⟨rfl, hd⟩; have hb := drawn_below hd; clear hd; have HS1s := Aside0.mk (Own.below HS1.out hb); have HS2s := Aside0.mk (Own.below HS2.out hb); have HBs := Aside0.mk (below_step HB.out hb); clear hb HB HS1 HS2; have HS1 := HS1s; have HS2 := HS2s; have HB := HBs; clear HBs HS1s HS2s) | (clear tk6; go_at_call 46; (with_reducible refine ((HL.out ▸ impl_Passing.callsS a0 a1 _)).mono ?_); rintro e w6 ⟨v3, rfl, hS3, hb⟩; have HS3 := Aside0.mk (Own.new hS3); clear hS3; have HS1s := Aside0.mk (Own.below HS1.out hb); have HS2s := Aside0.mk (Own.below HS2.out hb); have HBs := Aside0.mk (below_step HB.out hb); clear hb HB HS1 HS2; have HS1 := HS1s; have HS2 := HS2s; have HB := HBs; clear HBs HS1s HS2s; obtain ⟨A3, c3, e3⟩ := Own.slice HS3.out; subst e3) | (clear tk7; go_at_call 30; (with_reducible refine (laws_eqLitSS.calls k A3 c3 L A1 c1 L true _ (Own.reads HS3.out).2.2 (Own.reads HS3.out).2.1 (Own.reads HS1.out).2.2 (Own.reads HS1.out).2.1 HE.out).mono ?_); rintro e w' ⟨rfl, hb⟩; have HS1s := Aside0.mk (Own.below HS1.out hb); have HS2s := Aside0.mk (Own.below HS2.out hb); have HS3s := Aside0.mk (Own.below HS3.out hb); have HBs := Aside0.mk (below_step HB.out hb); clear hb HB HS1 HS2 HS3; have HS1 := HS1s; have HS2 := HS2s; have HS3 := HS3s; have HB := HBs; clear HBs HS1s HS2s HS3s) | (clear tk8; go_at_call 32; (with_reducible refine (held_ k A2 c2 L.length M 1 m _ (Own.reads HS2.out) HH.out).mono ?_); rintro e w' ⟨rfl, hd⟩; have hb := drawn_below hd; clear hd; have HS1s := Aside0.mk (Own.below HS1.out hb); have HS2s := Aside0.mk (Own.below HS2.out hb); have HS3s := Aside0.mk (Own.below HS3.out hb); have HBs := Aside0.mk (below_step HB.out hb); clear hb HB HS1 HS2 HS3; have HS1 := HS1s; have HS2 := HS2s; have HS3 := HS3s; have HB := HBs; clear HBs HS1s HS2s HS3s))
  go_ret
  exact ⟨rfl, by repeat (first | (with_reducible first | exact HB.out | apply below_alloc | apply pw_below_drewN | apply below_drew1) | exact HB.out)⟩

theorem FnExactPassing (a0 a1 : Bool) (w : World) : Calls Try.prog 12 #[.bool a0, .bool a1] w fun e w' => e = .returned (.bool true) ∧ Below w.heap.size w w' := by
  cases a0 <;> cases a1
  all_goals exact walk _ _ 10 13 _ [[⟨1, 2, 3⟩, ⟨4, 5, 6⟩], [⟨7, 8, 9⟩, ⟨10, 11, 12⟩]] rfl (by kernel_rfl) (by kernel_rfl) (by kernel_rfl) (by decide) w
end Go.Proofs.Ytnnakemiaalggaa.PFnExactPassing
