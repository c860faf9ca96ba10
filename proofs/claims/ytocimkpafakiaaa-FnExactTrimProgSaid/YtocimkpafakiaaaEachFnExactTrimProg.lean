/- impl.eachBody, handed impl.TrimBody, and impl.TrimProg: what they answer; for every world. -/
import Derived.Test.YtocimkpafakiaaaXFnExactTrimProgx
namespace Go.Proofs.Ytocimkpafakiaaa.XFnExactTrimProg
open Go.RowKit Go.Proofs.YtocimkpafakiaaaW.PrintWords Go.Proofs.YtocimkpafakiaaaW.PrintLast Go.Proofs.YtocimkpafakiaaaW.PrintMore
attribute [local go_sem] max2_int min2_int max_two min_two max_three min_three max_four min_four
set_option linter.unusedVariables false
set_option linter.unusedSimpArgs false

theorem ate_0_0 {p : Prop} (h : p := by have := Zw1_.out; have := Zw2_.out; have := Zw3_.out; have := Zw4_.out; have := Gb1.out; have := Gb2.out; have := Gb3.out; omega) : p := h
theorem ate_0_1 {p : Prop} (h : p := by have := Zw1_.out; have := Zw2_.out; have := Gb1.out; have := Gb2.out; omega) : p := h
/-! ### rows that are the call's own: their blocks lie in an interval -/
def Own {α : Type} (d : Kd α) (e : Nat) (b : Nat) (w : World) (lo hi : Nat) (v : Value) (xs : List α) : Prop := Kd.S d e w b (fun k => lo ≤ k ∧ k < hi) v xs
def OwnR {α : Type} (d : Kd α) (e : Nat) (b : Nat) (w : World) (lo hi : Nat) (v : Value) (xs : List α) : Prop := Kd.R d e w b (fun k => lo ≤ k ∧ k < hi) v xs
section
variable {α : Type} {d : Kd α} {e b lo hi g : Nat} {w w' w0 : World} {v : Value} {xs : List α} {ok P : Nat → Prop} {o : Obj}
theorem Own.new {B : Nat} (h : Kd.S d e w' B ok v xs) (hb : b ≤ B) : Own d e b w' B w'.heap.size v xs := Kd.S_lower (Kd.S_mono (Kd.S_bound h) (fun k hk => ⟨hk.2.1, hk.2.2.1⟩)) hb
theorem OwnR.new {B : Nat} (h : Kd.R d e w' B ok v xs) (hb : b ≤ B) : OwnR d e b w' B w'.heap.size v xs := Kd.R_lower (Kd.R_mono (Kd.R_bound h) (fun k hk => ⟨hk.2.1, hk.2.2.1⟩)) hb
theorem Own.mark (h : Kd.S d e w' b (fun k => (lo ≤ k ∧ k < hi) ∨ w.heap.size ≤ k) v xs) (hl : lo ≤ w.heap.size) : Own d e b w' lo w'.heap.size v xs := Kd.S_mono (Kd.S_bound h) (fun k hk => ⟨hk.1.elim (fun h => h.1) (fun h => Nat.le_trans hl h), hk.2.2.1⟩)
theorem OwnR.mark (h : Kd.R d e w' b (fun k => (lo ≤ k ∧ k < hi) ∨ w.heap.size ≤ k) v xs) (hl : lo ≤ w.heap.size) : OwnR d e b w' lo w'.heap.size v xs := Kd.R_mono (Kd.R_bound h) (fun k hk => ⟨hk.1.elim (fun h => h.1) (fun h => Nat.le_trans hl h), hk.2.2.1⟩)
theorem Own.S (h : Own d e b w lo hi v xs) : Kd.S d e w b (fun k => lo ≤ k ∧ k < hi) v xs := h
theorem OwnR.R (h : OwnR d e b w lo hi v xs) : Kd.R d e w b (fun k => lo ≤ k ∧ k < hi) v xs := h
theorem Own.below (h : Own d e b w lo hi v xs) (hb : Below w.heap.size w w') : Own d e b w' lo hi v xs := Kd.S_below h hb
theorem OwnR.below (h : OwnR d e b w lo hi v xs) (hb : Below w.heap.size w w') : OwnR d e b w' lo hi v xs := Kd.R_below h hb
theorem Own.kept (h : Own d e b w lo hi v xs) (hk : Kept w w' P) (hp : ∀ k, lo ≤ k → k < hi → ¬ P k) : Own d e b w' lo hi v xs := Kd.S_step h (fun k ho hlt => hk.2 k hlt (hp k ho.1 ho.2))
theorem OwnR.kept (h : OwnR d e b w lo hi v xs) (hk : Kept w w' P) (hp : ∀ k, lo ≤ k → k < hi → ¬ P k) : OwnR d e b w' lo hi v xs := Kd.R_step h (fun k ho hlt => hk.2 k hlt (hp k ho.1 ho.2))
theorem Own.reads {A : Option Addr} {n c : Nat} (h : Own d e b w lo hi (.slice A n c) xs) : n = xs.length ∧ n ≤ c ∧ d.C w A xs.length xs := Kd.S_reads' h
theorem OwnR.reads {A : Option Addr} {n c : Nat} (h : OwnR d e b w lo hi (.slice A n c) xs) : n = xs.length ∧ n ≤ c ∧ d.C w A xs.length xs := Kd.R_reads' h
theorem Own.cap {A : Option Addr} {c : Nat} (h : Own d e b w lo hi (.slice A xs.length c) xs) : xs.length ≤ c := (Kd.S_reads' h).2.1
theorem OwnR.cap {A : Option Addr} {c : Nat} (h : OwnR d e b w lo hi (.slice A xs.length c) xs) : xs.length ≤ c := (Kd.R_reads' h).2.1
theorem Own.slice (h : Own d e b w lo hi v xs) : ∃ A c, v = .slice A xs.length c := Kd.S_slice h
theorem OwnR.slice (h : OwnR d e b w lo hi v xs) : ∃ A c, v = .slice A xs.length c := Kd.R_slice h
theorem drawn_below (h : Drawn0 w w') : Below w.heap.size w w' := by
  obtain ⟨n, rfl⟩ := h
  exact pw_below_drewN (Below.refl _ _) n
theorem blk_b (h : w.heap[g]? = some o) (hb : Below w.heap.size w w') : w'.heap[g]? = some o := (hb.block g (blk_lt h)).trans h
theorem blk_k (h : w.heap[g]? = some o) (hk : Kept w w' P) (hp : ¬ P g) : w'.heap[g]? = some o := (hk.2 g (blk_lt h) hp).trans h
theorem apart_types {β : Type} {d' : Kd β} {e' b' k : Nat} {ok' : Nat → Prop} {v' : Value} {ys : List β} (hk : ∃ q, q ∈ e :: d.E ∧ ∃ cells, w.heap[k]? = some (.cells cells q (0, 0))) (hR : d'.R e' w b' ok' v' ys) (he : some k = v'.ownBlock) (ht : ¬ e' ∈ e :: d.E) : False := by
  obtain ⟨q, hq, cells, hc⟩ := hk
  obtain ⟨cells', hc'⟩ := Kd.R_typed hR k he.symm
  rw [hc] at hc'
  simp at hc'
  have h3 : q = e' := hc'.2
  subst h3
  exact ht hq
theorem cells2 {t : Nat} {x y : Value} (h : w.heap[g]? = some (.cells #[x, y] t (0, 0))) : w.cell? ⟨g, 0, none⟩ = some x ∧ w.cell? ⟨g, 1, none⟩ = some y ∧ w.frozen? ⟨g, 0, none⟩ = false ∧ w.frozen? ⟨g, 1, none⟩ = false := ⟨(blk_cell h 0).trans rfl, (blk_cell h 1).trans rfl, blk_frozen h 0, blk_frozen h 1⟩
theorem drew_below (w : World) : Below w.heap.size w w.drew := below_drew1 (Below.refl _ _)
end
theorem set2_kept (W : World) (g : Nat) (a b : Value) : Kept W ((W.setCell ⟨g, 0, none⟩ a).setCell ⟨g, 1, none⟩ b) (fun k => k = g) := Kept.setCell (S := fun k => k = g) (Kept.setCell (S := fun k => k = g) (Kept.refl _ _) (.inl rfl) a) (.inl rfl) b
theorem set2_blk {W : World} {g t : Nat} {x y : Value} (h : W.heap[g]? = some (.cells #[x, y] t (0, 0))) (a b : Value) : ((W.setCell ⟨g, 0, none⟩ a).setCell ⟨g, 1, none⟩ b).heap[g]? = some (.cells #[a, b] t (0, 0)) := blk_put (cs := #[a, y]) (blk_put (cs := #[x, y]) h 0 a rfl) 1 b rfl
theorem set2_below {w W : World} {g : Nat} (h : Below w.heap.size w W) (hg : w.heap.size ≤ g) (a b : Value) : Below w.heap.size w ((W.setCell ⟨g, 0, none⟩ a).setCell ⟨g, 1, none⟩ b) := below_set (below_set h hg) hg

section
variable {P : Program} {ops : Array Oper} {Q : Exit → Act → World → Prop}
/-- A call of a function value, drawn. -/
theorem goesV_ {oi : Oper} {N : Option Tmp} {a : Act} {w : World} {K : Act → World → Prop} {f : FuncId} {fn : Func} {ar : Array Operand} {ts : Array TypeId} {c : Operand} (hf : P.funcs[f]? = some fn) (hname : (fn.name == "runtime.NumGoroutine") = false) (hb : fn.body.isSome = true) (args : Array Value)
    (hw : Region.wanted oi (yielded ops a.tmps) = true) (hN : oi.dst = N) (hop : oi.op = .call { callee := .value c, args := ar, argTypes := ts }) (hc : a.eval c = .func (.func f) #[] #[]) (hargs : ar.map a.eval = args)
    (h : Calls P f args w fun e w' => ∃ v, e = .returned v ∧ K (a.put N v) w') : if Region.wanted oi (yielded ops a.tmps) = true then Oper.wp P oi a w K Q else K (a.put N undef) w := by
  refine call_ f args hw hN ?_ h
  have he := enters_ hf hname hb args w
  unfold execOp
  simp [hop, resolve, hc, Deferred.ofValue, invoke, hargs, he]
end
/-! ### impl_eachBody of impl_TrimBody: function 106 -/
def each_.l0 : Nat → List (List S63) → Int → List (List S63) → Option (List (List S63))
 | 0, _, _, _ => none
 | k + 1, b, i, x => if i < (b.length : Int) then (if 0 ≤ i then ((impl_TrimBody.f k (rd_L4 b i)).bind fun t => (if i < (x.length : Int) then each_.l0 k b (wrap64 (i + 1)) (x.set i.toNat t) else none)) else none) else some x
set_option maxHeartbeats 80000000 in
set_option maxRecDepth 100000 in
theorem each_.no (k : Nat) (A0 : Option Addr) (c0 : Nat) (l0 : List Int) (A1 : Option Addr) (c1 : Nat) (l1 : List (List S63)) (t1 : List Int) (t2 : List (List S63)) (w : World) (hr0 : Kd.C (Kd.int .i64) w A0 l0.length l0) (hc0 : l0.length ≤ c0) (hr1 : Kd.C (Kd.slice 63 k63) w A1 l1.length l1) (hc1 : l1.length ≤ c1) (hcp : impl_copyProg.f k l0 l1 = some (t1, t2)) (hok : impl_ProgOk.f k l0 l1 = some false) :
    Calls Try.prog 106 #[.agg #[.slice A0 l0.length c0, .slice A1 l1.length c1], .func (.func 51) #[] #[]] w fun e w' => ∃ v0_ v1_ : Value, e = .returned (.agg #[v0_, v1_]) ∧ Kd.R (Kd.int .i64) 3 w' w.heap.size (fun _ => True) v0_ t1 ∧ Kd.S (Kd.slice 63 k63) 24 w' w.heap.size (fun _ => True) v1_ t2 ∧ Below w.heap.size w w' := by
 have hu56 := Try.underlying56
 have HR0 := Aside0.mk hr0
 have HC0 := Aside0.mk hc0
 have HR1 := Aside0.mk hr1
 have HC1 := Aside0.mk hc1
 have HB := Aside0.mk (Below.refl w.heap.size w)
 have HCP := Aside0.mk hcp
 have HOK := Aside0.mk hok
 have tk1 := Aside0.mk True.intro
 have tk2 := Aside0.mk True.intro
 have tk3 := Aside0.mk True.intro
 have tk4 := Aside0.mk True.intro
 have tk5 := Aside0.mk True.intro
 clear hr0 hc0 hr1 hc1 hcp hok
 go_enter Try.func106, Try.ntmps106
 go_wp2_with (first | (clear tk1; (with_reducible refine gate_dst (N := 2) rfl ?_); refine box_event ?hg (N := 2) ?hd (cs := #[.slice A0 l0.length c0, .slice A1 l1.length c1]) (t := 56) ?hr ?_; (case hd => rfl); (case hg => rfl); (case hr => first | (go_simp; done) | (go_simp; rfl)); intro b1 hg w1_ hbox hb; replace HB := Aside0.mk (below_step HB.out hb); have Zw1_ := Aside0.mk hb.size; have Gb1 := Aside0.mk (show w.heap.size ≤ b1 ∧ b1 < w1_.heap.size from ⟨Nat.le_of_eq hg.symm, blk_lt hbox⟩); have Bb1 := Aside0.mk hbox; clear hb hbox hg; obtain ⟨b1c, b1d, b1e, b1f⟩ := cells2 Bb1.out) | (clear tk2; (with_reducible refine gate_dst (N := 4) rfl ?_); refine box_event ?hg (N := 4) ?hd (cs := #[.slice none 0 0, .slice none 0 0]) (t := 56) ?hr ?_; (case hd => rfl); (case hg => rfl); (case hr => first | (go_simp; done) | (go_simp; rfl)); intro b2 hg w2_ hbox hb; (try clear b1c b1d b1e b1f); replace Bb1 := Aside0.mk (blk_b Bb1.out hb); replace HB := Aside0.mk (below_step HB.out hb); have Zw2_ := Aside0.mk hb.size; have Gb2 := Aside0.mk (show w1_.heap.size ≤ b2 ∧ b2 < w2_.heap.size from ⟨Nat.le_of_eq hg.symm, blk_lt hbox⟩); have Bb2 := Aside0.mk hbox; clear hb hbox hg; obtain ⟨b1c, b1d, b1e, b1f⟩ := cells2 Bb1.out; obtain ⟨b2c, b2d, b2e, b2f⟩ := cells2 Bb2.out; have hn12 : b1 ≠ b2 := ate_0_1; have hn21 : b2 ≠ b1 := ate_0_1) | (clear tk3; go_at_call 125; (with_reducible refine (impl_copyProg.calls k _ _ l0 _ _ l1 t1 t2 _ (Kd.C_below HR0.out HB.out) HC0.out (Kd.C_below HR1.out HB.out) HC1.out HCP.out).mono ?_); rintro e w3_ ⟨vC0, vC1, rfl, hC0, hC1, hb⟩; (try clear b1c b1d b1e b1f b2c b2d b2e b2f); replace Bb1 := Aside0.mk (blk_b Bb1.out hb); replace Bb2 := Aside0.mk (blk_b Bb2.out hb); have C0 := Aside0.mk (OwnR.new hC0 HB.out.size); have C1 := Aside0.mk (Own.new hC1 HB.out.size); replace HB := Aside0.mk (below_step HB.out hb); have Zw3_ := Aside0.mk hb.size; clear hb; clear hC0; obtain ⟨AC0, cC0, eC0⟩ := OwnR.slice C0.out; subst eC0; clear hC1; obtain ⟨AC1, cC1, eC1⟩ := Own.slice C1.out; subst eC1; obtain ⟨b1c, b1d, b1e, b1f⟩ := cells2 Bb1.out; obtain ⟨b2c, b2d, b2e, b2f⟩ := cells2 Bb2.out) | (clear tk4; (with_reducible refine gate_dst (N := 5) rfl ?_); refine box_event ?hg (N := 5) ?hd (cs := #[.slice none 0 0, .slice none 0 0]) (t := 56) ?hr ?_; (case hd => rfl); (case hg => rfl); (case hr => first | (go_simp; done) | (go_simp; rfl)); intro b3 hg w4_ hbox hb; (try clear b1c b1d b1e b1f b2c b2d b2e b2f); replace C0 := Aside0.mk (OwnR.below C0.out hb); replace C1 := Aside0.mk (Own.below C1.out hb); replace Bb1 := Aside0.mk (blk_b Bb1.out hb); replace Bb2 := Aside0.mk (blk_b Bb2.out hb); replace HB := Aside0.mk (below_step HB.out hb); have Zw4_ := Aside0.mk hb.size; have Gb3 := Aside0.mk (show w3_.heap.size ≤ b3 ∧ b3 < w4_.heap.size from ⟨Nat.le_of_eq hg.symm, blk_lt hbox⟩); have Bb3 := Aside0.mk hbox; clear hb hbox hg; obtain ⟨b1c, b1d, b1e, b1f⟩ := cells2 Bb1.out; obtain ⟨b2c, b2d, b2e, b2f⟩ := cells2 Bb2.out; obtain ⟨b3c, b3d, b3e, b3f⟩ := cells2 Bb3.out; have hn13 : b1 ≠ b3 := ate_0_0; have hn31 : b3 ≠ b1 := ate_0_0; have hn23 : b2 ≠ b3 := ate_0_0; have hn32 : b3 ≠ b2 := ate_0_0) | (clear tk5; go_at_call 126; obtain ⟨w5_, hw⟩ : ∃ W_, W_ = ((w4_.setCell ⟨b3, 0, none⟩ (.slice AC0 t1.length cC0)).setCell ⟨b3, 1, none⟩ (.slice AC1 t2.length cC1)) := ⟨_, rfl⟩; rw [← hw]; (try clear b1c b1d b1e b1f b2c b2d b2e b2f b3c b3d b3e b3f); have hK : Kept w4_ w5_ (fun k => k = b3) := (by first | (rw [hw]; exact set2_kept _ _ _ _) | rw [hw]); replace Bb3 := Aside0.mk (show w5_.heap[b3]? = some (.cells #[.slice AC0 t1.length cC0, .slice AC1 t2.length cC1] 56 (0, 0)) by first | (rw [hw]; exact set2_blk Bb3.out _ _) | rw [hw]); replace HB := Aside0.mk (show Below w.heap.size w w5_ by first | (rw [hw]; exact set2_below HB.out ate_0_0 _ _) | rw [hw]); replace C0 := Aside0.mk (OwnR.kept C0.out hK (fun k h1 h2 h3 => ate_0_0)); replace C1 := Aside0.mk (Own.kept C1.out hK (fun k h1 h2 h3 => ate_0_0)); replace Bb1 := Aside0.mk (blk_k Bb1.out hK (fun h3 => ate_0_0)); replace Bb2 := Aside0.mk (blk_k Bb2.out hK (fun h3 => ate_0_0)); have Zw5_ := Aside0.mk hK.1; clear hK hw; obtain ⟨b1c, b1d, b1e, b1f⟩ := cells2 Bb1.out; obtain ⟨b2c, b2d, b2e, b2f⟩ := cells2 Bb2.out; obtain ⟨b3c, b3d, b3e, b3f⟩ := cells2 Bb3.out; (with_reducible refine (impl_ProgOk.calls k _ _ l0 _ _ l1 false _ (Kd.C_below HR0.out HB.out) HC0.out (Kd.C_below HR1.out HB.out) HC1.out HOK.out).mono ?_); rintro e w6_ ⟨rfl, hb⟩; (try clear b1c b1d b1e b1f b2c b2d b2e b2f b3c b3d b3e b3f); replace C0 := Aside0.mk (OwnR.below C0.out hb); replace C1 := Aside0.mk (Own.below C1.out hb); replace Bb1 := Aside0.mk (blk_b Bb1.out hb); replace Bb2 := Aside0.mk (blk_b Bb2.out hb); replace Bb3 := Aside0.mk (blk_b Bb3.out hb); replace HB := Aside0.mk (below_step HB.out hb); have Zw6_ := Aside0.mk hb.size; clear hb; obtain ⟨b1c, b1d, b1e, b1f⟩ := cells2 Bb1.out; obtain ⟨b2c, b2d, b2e, b2f⟩ := cells2 Bb2.out; obtain ⟨b3c, b3d, b3e, b3f⟩ := cells2 Bb3.out))
 refine bodyPost_ret (results_cell_row rfl _ _ b2 56 #[.slice AC0 t1.length cC0, .slice AC1 t2.length cC1] (0, 0) _ rfl (set2_blk Bb2.out _ _) Try.underlying56 rfl (by kernel_rfl)) rfl ?_
 exact ⟨_, _, rfl, Kd.R_mono (Kd.R_far (p := ⟨b2, 1, none⟩) (Kd.R_far (p := ⟨b2, 0, none⟩) (Kd.R_types (OwnR.R C0.out) Bb2.out (by decide)) (fun _ hk => hk.2) _) (fun _ hk => hk.2) _) (fun _ _ => trivial), Kd.S_mono (Kd.S_far (p := ⟨b2, 1, none⟩) (Kd.S_far (p := ⟨b2, 0, none⟩) (Kd.S_types (Own.S C1.out) Bb2.out (by decide)) (fun _ hk => hk.2) _) (fun _ hk => hk.2) _) (fun _ _ => trivial), set2_below HB.out (by have := Zw1_.out; have := Zw2_.out; have := Zw3_.out; have := Zw4_.out; have := Zw5_.out; have := Zw6_.out; have := Gb1.out; have := Gb2.out; have := Gb3.out; omega) _ _⟩

set_option maxHeartbeats 80000000 in
set_option maxRecDepth 100000 in
theorem each_.yes (k : Nat) (A0 : Option Addr) (c0 : Nat) (l0 : List Int) (A1 : Option Addr) (c1 : Nat) (l1 : List (List S63)) (t1 : List Int) (t2 r2 : List (List S63)) (w : World) (hr0 : Kd.C (Kd.int .i64) w A0 l0.length l0) (hc0 : l0.length ≤ c0) (hr1 : Kd.C (Kd.slice 63 k63) w A1 l1.length l1) (hc1 : l1.length ≤ c1) (hcp : impl_copyProg.f k l0 l1 = some (t1, t2)) (hok : impl_ProgOk.f k l0 l1 = some true) (h : each_.l0 k l1 0 t2 = some r2) :
    Calls Try.prog 106 #[.agg #[.slice A0 l0.length c0, .slice A1 l1.length c1], .func (.func 51) #[] #[]] w fun e w' => ∃ v0_ v1_ : Value, e = .returned (.agg #[v0_, v1_]) ∧ Kd.R (Kd.int .i64) 3 w' w.heap.size (fun _ => True) v0_ t1 ∧ Kd.S (Kd.slice 63 k63) 24 w' w.heap.size (fun _ => True) v1_ r2 ∧ Below w.heap.size w w' := by
 have hu56 := Try.underlying56
 have HR0 := Aside0.mk hr0
 have HC0 := Aside0.mk hc0
 have HR1 := Aside0.mk hr1
 have HC1 := Aside0.mk hc1
 have HB := Aside0.mk (Below.refl w.heap.size w)
 have HCP := Aside0.mk hcp
 have HOK := Aside0.mk hok
 have H' := Aside0.mk h
 have tk1 := Aside0.mk True.intro
 have tk2 := Aside0.mk True.intro
 have tk3 := Aside0.mk True.intro
 have tk4 := Aside0.mk True.intro
 have tk5 := Aside0.mk True.intro
 clear hr0 hc0 hr1 hc1 hcp hok h
 go_enter Try.func106, Try.ntmps106
 go_wp2_with (first | (clear tk1; (with_reducible refine gate_dst (N := 2) rfl ?_); refine box_event ?hg (N := 2) ?hd (cs := #[.slice A0 l0.length c0, .slice A1 l1.length c1]) (t := 56) ?hr ?_; (case hd => rfl); (case hg => rfl); (case hr => first | (go_simp; done) | (go_simp; rfl)); intro b1 hg w1_ hbox hb; replace HB := Aside0.mk (below_step HB.out hb); have Zw1_ := Aside0.mk hb.size; have Gb1 := Aside0.mk (show w.heap.size ≤ b1 ∧ b1 < w1_.heap.size from ⟨Nat.le_of_eq hg.symm, blk_lt hbox⟩); have Bb1 := Aside0.mk hbox; clear hb hbox hg; obtain ⟨b1c, b1d, b1e, b1f⟩ := cells2 Bb1.out) | (clear tk2; (with_reducible refine gate_dst (N := 4) rfl ?_); refine box_event ?hg (N := 4) ?hd (cs := #[.slice none 0 0, .slice none 0 0]) (t := 56) ?hr ?_; (case hd => rfl); (case hg => rfl); (case hr => first | (go_simp; done) | (go_simp; rfl)); intro b2 hg w2_ hbox hb; (try clear b1c b1d b1e b1f); replace Bb1 := Aside0.mk (blk_b Bb1.out hb); replace HB := Aside0.mk (below_step HB.out hb); have Zw2_ := Aside0.mk hb.size; have Gb2 := Aside0.mk (show w1_.heap.size ≤ b2 ∧ b2 < w2_.heap.size from ⟨Nat.le_of_eq hg.symm, blk_lt hbox⟩); have Bb2 := Aside0.mk hbox; clear hb hbox hg; obtain ⟨b1c, b1d, b1e, b1f⟩ := cells2 Bb1.out; obtain ⟨b2c, b2d, b2e, b2f⟩ := cells2 Bb2.out; have hn12 : b1 ≠ b2 := ate_0_1; have hn21 : b2 ≠ b1 := ate_0_1) | (clear tk3; go_at_call 125; (with_reducible refine (impl_copyProg.calls k _ _ l0 _ _ l1 t1 t2 _ (Kd.C_below HR0.out HB.out) HC0.out (Kd.C_below HR1.out HB.out) HC1.out HCP.out).mono ?_); rintro e w3_ ⟨vC0, vC1, rfl, hC0, hC1, hb⟩; (try clear b1c b1d b1e b1f b2c b2d b2e b2f); replace Bb1 := Aside0.mk (blk_b Bb1.out hb); replace Bb2 := Aside0.mk (blk_b Bb2.out hb); have C0 := Aside0.mk (OwnR.new hC0 HB.out.size); have C1 := Aside0.mk (Own.new hC1 HB.out.size); replace HB := Aside0.mk (below_step HB.out hb); have Zw3_ := Aside0.mk hb.size; clear hb; clear hC0; obtain ⟨AC0, cC0, eC0⟩ := OwnR.slice C0.out; subst eC0; clear hC1; obtain ⟨AC1, cC1, eC1⟩ := Own.slice C1.out; subst eC1; obtain ⟨b1c, b1d, b1e, b1f⟩ := cells2 Bb1.out; obtain ⟨b2c, b2d, b2e, b2f⟩ := cells2 Bb2.out) | (clear tk4; (with_reducible refine gate_dst (N := 5) rfl ?_); refine box_event ?hg (N := 5) ?hd (cs := #[.slice none 0 0, .slice none 0 0]) (t := 56) ?hr ?_; (case hd => rfl); (case hg => rfl); (case hr => first | (go_simp; done) | (go_simp; rfl)); intro b3 hg w4_ hbox hb; (try clear b1c b1d b1e b1f b2c b2d b2e b2f); replace C0 := Aside0.mk (OwnR.below C0.out hb); replace C1 := Aside0.mk (Own.below C1.out hb); replace Bb1 := Aside0.mk (blk_b Bb1.out hb); replace Bb2 := Aside0.mk (blk_b Bb2.out hb); replace HB := Aside0.mk (below_step HB.out hb); have Zw4_ := Aside0.mk hb.size; have Gb3 := Aside0.mk (show w3_.heap.size ≤ b3 ∧ b3 < w4_.heap.size from ⟨Nat.le_of_eq hg.symm, blk_lt hbox⟩); have Bb3 := Aside0.mk hbox; clear hb hbox hg; obtain ⟨b1c, b1d, b1e, b1f⟩ := cells2 Bb1.out; obtain ⟨b2c, b2d, b2e, b2f⟩ := cells2 Bb2.out; obtain ⟨b3c, b3d, b3e, b3f⟩ := cells2 Bb3.out; have hn13 : b1 ≠ b3 := ate_0_0; have hn31 : b3 ≠ b1 := ate_0_0; have hn23 : b2 ≠ b3 := ate_0_0; have hn32 : b3 ≠ b2 := ate_0_0) | (clear tk5; go_at_call 126; obtain ⟨w5_, hw⟩ : ∃ W_, W_ = ((w4_.setCell ⟨b3, 0, none⟩ (.slice AC0 t1.length cC0)).setCell ⟨b3, 1, none⟩ (.slice AC1 t2.length cC1)) := ⟨_, rfl⟩; rw [← hw]; (try clear b1c b1d b1e b1f b2c b2d b2e b2f b3c b3d b3e b3f); have hK : Kept w4_ w5_ (fun k => k = b3) := (by first | (rw [hw]; exact set2_kept _ _ _ _) | rw [hw]); replace Bb3 := Aside0.mk (show w5_.heap[b3]? = some (.cells #[.slice AC0 t1.length cC0, .slice AC1 t2.length cC1] 56 (0, 0)) by first | (rw [hw]; exact set2_blk Bb3.out _ _) | rw [hw]); replace HB := Aside0.mk (show Below w.heap.size w w5_ by first | (rw [hw]; exact set2_below HB.out ate_0_0 _ _) | rw [hw]); replace C0 := Aside0.mk (OwnR.kept C0.out hK (fun k h1 h2 h3 => ate_0_0)); replace C1 := Aside0.mk (Own.kept C1.out hK (fun k h1 h2 h3 => ate_0_0)); replace Bb1 := Aside0.mk (blk_k Bb1.out hK (fun h3 => ate_0_0)); replace Bb2 := Aside0.mk (blk_k Bb2.out hK (fun h3 => ate_0_0)); have Zw5_ := Aside0.mk hK.1; clear hK hw; obtain ⟨b1c, b1d, b1e, b1f⟩ := cells2 Bb1.out; obtain ⟨b2c, b2d, b2e, b2f⟩ := cells2 Bb2.out; obtain ⟨b3c, b3d, b3e, b3f⟩ := cells2 Bb3.out; (with_reducible refine (impl_ProgOk.calls k _ _ l0 _ _ l1 true _ (Kd.C_below HR0.out HB.out) HC0.out (Kd.C_below HR1.out HB.out) HC1.out HOK.out).mono ?_); rintro e w6_ ⟨rfl, hb⟩; (try clear b1c b1d b1e b1f b2c b2d b2e b2f b3c b3d b3e b3f); replace C0 := Aside0.mk (OwnR.below C0.out hb); replace C1 := Aside0.mk (Own.below C1.out hb); replace Bb1 := Aside0.mk (blk_b Bb1.out hb); replace Bb2 := Aside0.mk (blk_b Bb2.out hb); replace Bb3 := Aside0.mk (blk_b Bb3.out hb); replace HB := Aside0.mk (below_step HB.out hb); have Zw6_ := Aside0.mk hb.size; clear hb; obtain ⟨b1c, b1d, b1e, b1f⟩ := cells2 Bb1.out; obtain ⟨b2c, b2d, b2e, b2f⟩ := cells2 Bb2.out; obtain ⟨b3c, b3d, b3e, b3f⟩ := cells2 Bb3.out))
 have HG2 := Aside0.mk (show w.heap.size ≤ b2 from by have := Zw1_.out; have := Zw2_.out; have := Zw3_.out; have := Zw4_.out; have := Zw5_.out; have := Zw6_.out; have := Gb1.out; have := Gb2.out; have := Gb3.out; omega)
 have HG3 := Aside0.mk (show w.heap.size ≤ b3 from by have := Zw1_.out; have := Zw2_.out; have := Zw3_.out; have := Zw4_.out; have := Zw5_.out; have := Zw6_.out; have := Gb1.out; have := Gb2.out; have := Gb3.out; omega)
 go_loopg [17] k (fun kq v17 w' => ∃ (i : Int) (x : List (List S63)) (u : Value), v17 = .int .i64 i ∧ Aside0 (each_.l0 kq l1 i x = some r2) ∧ Aside0 (kq ≤ k) ∧ Aside0 (Kd.R (Kd.int .i64) 3 w' w.heap.size (fun _ => True) (.slice AC0 t1.length cC0) t1) ∧ Aside0 (Kd.S (Kd.slice 63 k63) 24 w' w.heap.size (fun _ => True) u x) ∧ Aside0 (w'.heap[b1]? = some (.cells #[.slice A0 l0.length c0, .slice A1 l1.length c1] 56 (0, 0))) ∧ Aside0 (w'.heap[b2]? = some (.cells #[.slice none 0 0, .slice none 0 0] 56 (0, 0))) ∧ Aside0 (w'.heap[b3]? = some (.cells #[.slice AC0 t1.length cC0, u] 56 (0, 0))) ∧ Aside0 (Below w.heap.size w w'))
 case atStart => exact ⟨0, t2, .slice AC1 t2.length cC1, rfl, H', ⟨Nat.le_refl _⟩, ⟨Kd.R_mono (OwnR.R C0.out) (fun _ _ => trivial)⟩, ⟨Kd.S_mono (Own.S C1.out) (fun _ _ => trivial)⟩, Bb1, Bb2, Bb3, HB⟩
 case round =>
  clear H' C0 C1 Bb1 Bb2 Bb3 HB
  obtain ⟨i, x, u, rfl, HA, HK1, HO0, HO1, Bb1, Bb2, Bb3, HB⟩ := hrel
  cases gk with
  | zero => exact absurd HA.out (by simp [each_.l0])
  | succ k1 =>
   have H := HA.out
   clear HA
   simp only [each_.l0] at H
   by_cases c14 : i < (l1.length : Int)
   ·rw [if_pos c14] at H
    have c14b0 : decide (i < (l1.length : Int)) = true := decide_eq_true c14
    by_cases c17 : 0 ≤ i
    ·rw [if_pos c17] at H
     have c17b0 : decide (0 ≤ i) = true := decide_eq_true c17
     obtain ⟨t, A18, H⟩ := Option.bind_eq_some_iff.mp H
     by_cases c19 : i < (x.length : Int)
     ·rw [if_pos c19] at H
      have A18 := Aside0.mk A18
      have H' := Aside0.mk H
      clear H
      have c19b0 : decide (i < (x.length : Int)) = true := decide_eq_true c19
      obtain ⟨ad, Ae, ce, ee, hx, hl, hi⟩ := at_L4 HR1.out i c17 c14
      cases ee
      have hw0 := hx
      replace hx := (HB.out.cell (World.block_lt_of_cell? w _ hx)).trans hx
      have HRe := Aside0.mk hi
      have HCe := Aside0.mk hl
      clear hi hl
      obtain ⟨go, cu, eu, gb, gl, cl, hg⟩ := Kd.S_form HO1.out (by omega)
      subst eu
      have GB := Aside0.mk gb
      clear gb gl
      have HP := Aside0.mk (show 0 ≤ i from c17)
      have HQ := Aside0.mk (show i < (x.length : Int) from c19)
      replace c17 := eq_true c17
      replace c14 := eq_true c14
      replace c19 := eq_true c19
      try go_wp2
      (try simp only [Act.put, List.setIfInBounds_toArray, List.set_cons_zero, List.set_cons_succ])
      have n0_ := Aside0.mk (Kd.R_drew HO0.out)
      have n1_ := Aside0.mk (Kd.S_drew HO1.out)
      have n2_ := Aside0.mk (blk_drew Bb1.out)
      have n3_ := Aside0.mk (blk_drew Bb2.out)
      have n4_ := Aside0.mk (blk_drew Bb3.out)
      have n5_ := Aside0.mk (below_drew1 HB.out)
      clear HO0 HO1 Bb1 Bb2 Bb3 HB
      have HO0 := n0_
      have HO1 := n1_
      have Bb1 := n2_
      have Bb2 := n3_
      have Bb3 := n4_
      have HB := n5_
      clear n0_ n1_ n2_ n3_ n4_ n5_
      clear hx hg cl
      refine start_ (n := 8) (S := fun w' => w'.cell? ⟨b3, 0, none⟩ = some (.slice AC0 t1.length cC0) ∧ w'.cell? ⟨b3, 1, none⟩ = some (.slice (some ⟨go, 0, none⟩) x.length cu)) (ds := [7]) (tf_ 0 8) (by kernel_rfl) rfl rfl ⟨(blk_cell Bb3.out 0).trans rfl, (blk_cell Bb3.out 1).trans rfl⟩ (fun hHeld => ?_)
      generalize wr.drew = w25 at HO0 HO1 Bb1 Bb2 Bb3 HB hHeld ⊢
      refine pure_ (i := 0) (N := some 22) (v := ?_) (a' := ?_) (tf_ 1 7) rfl rfl (by kernel_rfl) (fun _ _ _ h => h) (Or.inl ⟨by rfl, ?_⟩) ?_ ?_
      rotate_left
      · intro w'
        go_simp
        with_reducible rfl
      rotate_left
      · simp only [Act.put, List.setIfInBounds_toArray, List.set_cons_zero, List.set_cons_succ, i64_w, i32_w]
        rfl
      refine take_ (i := 1) (N := some 23) (v := ?_) (a' := ?_) (tf_ 2 6) rfl rfl (by kernel_rfl) (fun _ _ _ h => h) (Or.inl ⟨by rfl, ?_⟩) hHeld ?_ ?_
      rotate_left
      · rintro w' ⟨s0, s1⟩
        go_simp
        with_reducible rfl
      rotate_left
      · simp only [Act.put, List.setIfInBounds_toArray, List.set_cons_zero, List.set_cons_succ, i64_w, i32_w]
        rfl
      refine pure_ (i := 2) (N := some 24) (v := ?_) (a' := ?_) (tf_ 3 5) rfl rfl (by kernel_rfl) (fun _ _ _ h => h) (Or.inl ⟨by rfl, ?_⟩) ?_ ?_
      rotate_left
      · intro w'
        go_simp
        with_reducible rfl
      rotate_left
      · simp only [Act.put, List.setIfInBounds_toArray, List.set_cons_zero, List.set_cons_succ, i64_w, i32_w]
        rfl
      refine pure_ (i := 3) (N := some 25) (v := ?_) (a' := ?_) (tf_ 4 4) rfl rfl (by kernel_rfl) (fun _ _ _ h => h) (Or.inl ⟨by rfl, ?_⟩) ?_ ?_
      rotate_left
      · intro w'
        go_simp
        with_reducible rfl
      rotate_left
      · simp only [Act.put, List.setIfInBounds_toArray, List.set_cons_zero, List.set_cons_succ, i64_w, i32_w]
        rfl
      refine pure_ (i := 4) (N := some 26) (v := ?_) (a' := ?_) (tf_ 5 3) rfl rfl (by kernel_rfl) (fun _ _ _ h => h) (Or.inl ⟨by rfl, ?_⟩) ?_ ?_
      rotate_left
      · intro w'
        go_simp
        with_reducible rfl
      rotate_left
      · simp only [Act.put, List.setIfInBounds_toArray, List.set_cons_zero, List.set_cons_succ, i64_w, i32_w]
        rfl
      refine one_ (i := 5) (N := some 27) (tf_ 6 2) rfl rfl (by kernel_rfl) (by decide) (fun K hK => ?_)
      refine goesV_ Try.func51 (by kernel_rfl) rfl #[.slice Ae (rd_L4 l1 i).length ce] (by rfl) rfl rfl rfl (by (try simp only [List.map_toArray, List.map_cons, List.map_nil]); first | done | rfl | (simp only [List.length_drop, List.length_take]; rfl)) ?_
      with_reducible refine (impl_TrimBody.calls k1 _ _ (rd_L4 l1 i) t _ (Kd.C_below HRe.out HB.out) HCe.out A18.out).mono ?_
      rintro e w26 ⟨vv, rfl, ho0, hb⟩
      obtain ⟨Av, cv, rfl⟩ := Kd.R_slice ho0
      refine ⟨_, rfl, ?_⟩
      have n0_ := Aside0.mk (Kd.R_below HO0.out hb)
      have n1_ := Aside0.mk (Kd.S_elder' HO1.out (Kd.R_base ho0) hb)
      have HN := Aside0.mk (Kd.R_lower ho0 HB.out.size)
      have n2_ := Aside0.mk (blk_b Bb1.out hb)
      have n3_ := Aside0.mk (blk_b Bb2.out hb)
      have n4_ := Aside0.mk (blk_b Bb3.out hb)
      have n5_ := Aside0.mk (below_step HB.out hb)
      clear HO0 HO1 Bb1 Bb2 Bb3 HB ho0 hb
      have HO0 := n0_
      have HO1 := n1_
      have Bb1 := n2_
      have Bb2 := n3_
      have Bb3 := n4_
      have HB := n5_
      clear n0_ n1_ n2_ n3_ n4_ n5_
      obtain ⟨cells_, hgg⟩ := Kd.S_typed HO1.out go rfl
      have HGG := Aside0.mk hgg
      have HN1 := Aside0.mk (show b1 ≠ go from fun e_ => Kd.S_ne HO1.out Bb1.out (by decide) (by rw [e_]; rfl))
      have HN2 := Aside0.mk (show b2 ≠ go from fun e_ => Kd.S_ne HO1.out Bb2.out (by decide) (by rw [e_]; rfl))
      have HN3 := Aside0.mk (show b3 ≠ go from fun e_ => Kd.S_ne HO1.out Bb3.out (by decide) (by rw [e_]; rfl))
      have HNE := Aside0.mk (show ∀ k, some k = (Value.slice Av t.length cv).ownBlock → k ≠ go from fun k hk e_ => ((Kd.R_apart' HN.out (Kd.S_typed HO1.out) (by decide)).1 k hk.symm).2 (by rw [e_]; rfl))
      clear hgg
      obtain ⟨oki, cc, hcl, hM, hcc, hfr, hoki, hH⟩ := Kd.S_elem HO1.out [] i HP.out HQ.out
      obtain ⟨ua, rfl, hua⟩ := hM
      have hx0 := hcc 0 _ rfl
      have hf0 := hfr 0
      (try simp only [show ((Kd.slice 63 k63)).sz = 1 from rfl, Nat.mul_one, Nat.add_zero] at hx0)
      (try simp only [show ((Kd.slice 63 k63)).sz = 1 from rfl, Nat.mul_one, Nat.add_zero] at hf0)
      have hS2 := (Kd.S_seg (ok := fun _ => True) (okg := fun k => some k = (Value.slice Av t.length cv).ownBlock) hH HP.out HQ.out (seg := [(.slice Av t.length cv)]) (j := 0) (show 1 ≤ 1 from by decide) (x' := t) (Kd.M_row (Kd.R_tight rfl HN.out)) (fun k hk => .inr hk) (fun k hk => ⟨trivial, HNE.out k hk⟩)).1
      (try simp only [show ((Kd.slice 63 k63)).sz = 1 from rfl, Nat.mul_one, Nat.add_zero] at hS2)
      have HS2 := Aside0.mk hS2
      clear hcc hfr hH hua hcl hoki hS2
      refine hK.out _ _ ⟨(blk_cell Bb3.out 0).trans rfl, (blk_cell Bb3.out 1).trans rfl⟩ (fun hHeld => ?_)
      clear hK K
      refine norm_ (a' := ?_) ?_ ?_
      rotate_left
      · show Act.put _ (some 27) _ = _
        simp only [Act.put, List.setIfInBounds_toArray, List.set_cons_zero, List.set_cons_succ, i64_w, i32_w]
        rfl
      refine pure_ (i := 6) (N := some 28) (v := ?_) (a' := ?_) (tf_ 7 1) rfl rfl (by kernel_rfl) (fun _ _ _ h => h) (Or.inl ⟨by rfl, ?_⟩) ?_ ?_
      rotate_left
      · intro w'
        go_simp
        with_reducible rfl
      rotate_left
      · simp only [Act.put, List.setIfInBounds_toArray, List.set_cons_zero, List.set_cons_succ, i64_w, i32_w]
        rfl
      refine last_ (i := 7) (N := none) (tf_ 8 0) rfl rfl (by kernel_rfl) (by decide) (fun K hK => ?_)
      refine skip_ (w1 := ?_) (by rfl) rfl ?_ ?_
      rotate_left
      · go_simp
        rfl
      refine hK.out _ _ ?_
      clear hK K
      refine done_ (by kernel_rfl) ?_
      try go_wp2
      go_roundg k1
      case measure => have := HK1.out; omega
      case rel => exact ⟨wrap64 (i + 1), x.set i.toNat t, .slice (some ⟨go, 0, none⟩) x.length cu, by first | rfl | (simp; done) | (simp [*]; done), H', ⟨by have := HK1.out; omega⟩, ⟨Kd.R_mono (Kd.R_far (p := ⟨go, i.toNat, none⟩) (Kd.R_types HO0.out HGG.out (by decide)) (fun _ hk => hk.2) (.slice Av t.length cv)) (fun _ _ => trivial)⟩, HS2, ⟨blk_far Bb1.out (by have h_ := HN1.out; exact h_) _⟩, ⟨blk_far Bb2.out (by have h_ := HN2.out; exact h_) _⟩, ⟨blk_far Bb3.out (by have h_ := HN3.out; exact h_) _⟩, ⟨below_set HB.out GB.out⟩⟩
     ·rw [if_neg c19] at H
      exact absurd H (by simp)
    ·rw [if_neg c17] at H
     exact absurd H (by simp)
   ·rw [if_neg c14] at H
    have c14b0 : decide (i < (l1.length : Int)) = false := decide_eq_false c14
    clear c14
    obtain rfl := Option.some.inj H
    obtain ⟨Au, cu, eu⟩ := Kd.S_slice HO1.out
    subst eu
    have hczb10_wr : wr.cell? ⟨b1, 0, none⟩ = some (.slice A0 l0.length c0) := (blk_cell Bb1.out 0).trans rfl
    have hfzb10_wr := blk_frozen Bb1.out 0
    have hczb11_wr : wr.cell? ⟨b1, 1, none⟩ = some (.slice A1 l1.length c1) := (blk_cell Bb1.out 1).trans rfl
    have hfzb11_wr := blk_frozen Bb1.out 1
    have hczb20_wr : wr.cell? ⟨b2, 0, none⟩ = some (.slice none 0 0) := (blk_cell Bb2.out 0).trans rfl
    have hfzb20_wr := blk_frozen Bb2.out 0
    have hczb21_wr : wr.cell? ⟨b2, 1, none⟩ = some (.slice none 0 0) := (blk_cell Bb2.out 1).trans rfl
    have hfzb21_wr := blk_frozen Bb2.out 1
    have hczb30_wr : wr.cell? ⟨b3, 0, none⟩ = some (.slice AC0 t1.length cC0) := (blk_cell Bb3.out 0).trans rfl
    have hfzb30_wr := blk_frozen Bb3.out 0
    have hczb31_wr : wr.cell? ⟨b3, 1, none⟩ = some (.slice Au x.length cu) := (blk_cell Bb3.out 1).trans rfl
    have hfzb31_wr := blk_frozen Bb3.out 1
    go_wp2
    refine bodyPost_ret (results_cell_row rfl _ _ b2 56 #[.slice AC0 t1.length cC0, .slice Au x.length cu] (0, 0) _ rfl (set2_blk Bb2.out _ _) Try.underlying56 rfl (by kernel_rfl)) rfl ?_
    exact ⟨_, _, rfl, Kd.R_mono (Kd.R_far (p := ⟨b2, 1, none⟩) (Kd.R_far (p := ⟨b2, 0, none⟩) (Kd.R_types HO0.out Bb2.out (by decide)) (fun _ hk => hk.2) _) (fun _ hk => hk.2) _) (fun _ _ => trivial), Kd.S_mono (Kd.S_far (p := ⟨b2, 1, none⟩) (Kd.S_far (p := ⟨b2, 0, none⟩) (Kd.S_types HO1.out Bb2.out (by decide)) (fun _ hk => hk.2) _) (fun _ hk => hk.2) _) (fun _ _ => trivial), set2_below HB.out HG2.out _ _⟩
theorem each_.calls (k : Nat) (A0 : Option Addr) (c0 : Nat) (l0 : List Int) (A1 : Option Addr) (c1 : Nat) (l1 : List (List S63)) (t1 : List Int) (t2 r2 : List (List S63)) (b : Bool) (w : World) (hr0 : Kd.C (Kd.int .i64) w A0 l0.length l0) (hc0 : l0.length ≤ c0) (hr1 : Kd.C (Kd.slice 63 k63) w A1 l1.length l1) (hc1 : l1.length ≤ c1) (hcp : impl_copyProg.f k l0 l1 = some (t1, t2)) (hok : impl_ProgOk.f k l0 l1 = some b) (h : (if b = true then each_.l0 k l1 0 t2 else some t2) = some r2) :
    Calls Try.prog 106 #[.agg #[.slice A0 l0.length c0, .slice A1 l1.length c1], .func (.func 51) #[] #[]] w fun e w' => ∃ v0_ v1_ : Value, e = .returned (.agg #[v0_, v1_]) ∧ Kd.R (Kd.int .i64) 3 w' w.heap.size (fun _ => True) v0_ t1 ∧ Kd.S (Kd.slice 63 k63) 24 w' w.heap.size (fun _ => True) v1_ r2 ∧ Below w.heap.size w w' := by
  cases b with
  | false =>
    rw [if_neg (by decide)] at h
    obtain rfl := Option.some.inj h
    exact each_.no k A0 c0 l0 A1 c1 l1 t1 t2 w hr0 hc0 hr1 hc1 hcp hok
  | true =>
    rw [if_pos rfl] at h
    exact each_.yes k A0 c0 l0 A1 c1 l1 t1 t2 r2 w hr0 hc0 hr1 hc1 hcp hok h
/-! ### impl_TrimProg: function 62 -/
def impl_TrimProg.f (k : Nat) (l0 : List Int) (l1 : List (List S63)) : Option (List Int × List (List S63)) := (impl_copyProg.f k l0 l1).bind fun c => (impl_ProgOk.f k l0 l1).bind fun b => (if b = true then each_.l0 k l1 0 c.2 else some c.2).bind fun x => some (c.1, x)
set_option maxHeartbeats 80000000 in
set_option maxRecDepth 100000 in
theorem impl_TrimProg.calls (k : Nat) (A0 : Option Addr) (c0 : Nat) (l0 : List Int) (A1 : Option Addr) (c1 : Nat) (l1 : List (List S63)) (r1 : List Int) (r2 : List (List S63)) (w : World) (hr0 : Kd.C (Kd.int .i64) w A0 l0.length l0) (hc0 : l0.length ≤ c0) (hr1 : Kd.C (Kd.slice 63 k63) w A1 l1.length l1) (hc1 : l1.length ≤ c1) (h : impl_TrimProg.f k l0 l1 = some (r1, r2)) :
    Calls Try.prog 62 #[.agg #[.slice A0 l0.length c0, .slice A1 l1.length c1]] w fun e w' => ∃ v0_ v1_ : Value, e = .returned (.agg #[v0_, v1_]) ∧ Kd.R (Kd.int .i64) 3 w' w.heap.size (fun _ => True) v0_ r1 ∧ Kd.S (Kd.slice 63 k63) 24 w' w.heap.size (fun _ => True) v1_ r2 ∧ Below w.heap.size w w' := by
 obtain ⟨⟨t1, t2⟩, hcp, h⟩ := Option.bind_eq_some_iff.mp h
 obtain ⟨b, hok, h⟩ := Option.bind_eq_some_iff.mp h
 obtain ⟨x, hx, h⟩ := Option.bind_eq_some_iff.mp h
 simp only [Option.some.injEq, Prod.mk.injEq] at h
 obtain ⟨rfl, rfl⟩ := h
 have hu56 := Try.underlying56
 have HR0 := Aside0.mk hr0
 have HC0 := Aside0.mk hc0
 have HR1 := Aside0.mk hr1
 have HC1 := Aside0.mk hc1
 have HB := Aside0.mk (Below.refl w.heap.size w)
 have HCP := Aside0.mk hcp
 have HOK := Aside0.mk hok
 have HH := Aside0.mk hx
 have tk1 := Aside0.mk True.intro
 have tk2 := Aside0.mk True.intro
 have tk3 := Aside0.mk True.intro
 clear hr0 hc0 hr1 hc1 hcp hok hx
 go_enter Try.func62, Try.ntmps62
 go_wp2_with (first | (clear tk1; (with_reducible refine gate_dst (N := 1) rfl ?_); refine box_event ?hg (N := 1) ?hd (cs := #[.slice A0 l0.length c0, .slice A1 l1.length c1]) (t := 56) ?hr ?_; (case hd => rfl); (case hg => rfl); (case hr => first | (go_simp; done) | (go_simp; rfl)); intro b1 hg w1_ hbox hb; replace HB := Aside0.mk (below_step HB.out hb); have Zw1_ := Aside0.mk hb.size; have Gb1 := Aside0.mk (show w.heap.size ≤ b1 ∧ b1 < w1_.heap.size from ⟨Nat.le_of_eq hg.symm, blk_lt hbox⟩); have Bb1 := Aside0.mk hbox; clear hb hbox hg; obtain ⟨b1c, b1d, b1e, b1f⟩ := cells2 Bb1.out) | (clear tk2; (with_reducible refine gate_dst (N := 2) rfl ?_); refine box_event ?hg (N := 2) ?hd (cs := #[.slice none 0 0, .slice none 0 0]) (t := 56) ?hr ?_; (case hd => rfl); (case hg => rfl); (case hr => first | (go_simp; done) | (go_simp; rfl)); intro b2 hg w2_ hbox hb; (try clear b1c b1d b1e b1f); replace Bb1 := Aside0.mk (blk_b Bb1.out hb); replace HB := Aside0.mk (below_step HB.out hb); have Zw2_ := Aside0.mk hb.size; have Gb2 := Aside0.mk (show w1_.heap.size ≤ b2 ∧ b2 < w2_.heap.size from ⟨Nat.le_of_eq hg.symm, blk_lt hbox⟩); have Bb2 := Aside0.mk hbox; clear hb hbox hg; obtain ⟨b1c, b1d, b1e, b1f⟩ := cells2 Bb1.out; obtain ⟨b2c, b2d, b2e, b2f⟩ := cells2 Bb2.out; have hn12 : b1 ≠ b2 := ate_0_1; have hn21 : b2 ≠ b1 := ate_0_1) | (clear tk3; go_at_call 106; (with_reducible refine (each_.calls k _ _ l0 _ _ l1 t1 t2 x b _ (Kd.C_below HR0.out HB.out) HC0.out (Kd.C_below HR1.out HB.out) HC1.out HCP.out HOK.out HH.out).mono ?_); rintro e w3_ ⟨vC0, vC1, rfl, hC0, hC1, hb⟩; (try clear b1c b1d b1e b1f b2c b2d b2e b2f); replace Bb1 := Aside0.mk (blk_b Bb1.out hb); replace Bb2 := Aside0.mk (blk_b Bb2.out hb); have C0 := Aside0.mk (OwnR.new hC0 HB.out.size); have C1 := Aside0.mk (Own.new hC1 HB.out.size); replace HB := Aside0.mk (below_step HB.out hb); have Zw3_ := Aside0.mk hb.size; clear hb; clear hC0; obtain ⟨AC0, cC0, eC0⟩ := OwnR.slice C0.out; subst eC0; clear hC1; obtain ⟨AC1, cC1, eC1⟩ := Own.slice C1.out; subst eC1; obtain ⟨b1c, b1d, b1e, b1f⟩ := cells2 Bb1.out; obtain ⟨b2c, b2d, b2e, b2f⟩ := cells2 Bb2.out))
 refine bodyPost_ret (results_cell_row rfl _ _ b2 56 #[.slice AC0 t1.length cC0, .slice AC1 x.length cC1] (0, 0) _ rfl (set2_blk Bb2.out _ _) Try.underlying56 rfl (by kernel_rfl)) rfl ?_
 exact ⟨_, _, rfl, Kd.R_mono (Kd.R_far (p := ⟨b2, 1, none⟩) (Kd.R_far (p := ⟨b2, 0, none⟩) (Kd.R_types (OwnR.R C0.out) Bb2.out (by decide)) (fun _ hk => hk.2) _) (fun _ hk => hk.2) _) (fun _ _ => trivial), Kd.S_mono (Kd.S_far (p := ⟨b2, 1, none⟩) (Kd.S_far (p := ⟨b2, 0, none⟩) (Kd.S_types (Own.S C1.out) Bb2.out (by decide)) (fun _ hk => hk.2) _) (fun _ hk => hk.2) _) (fun _ _ => trivial), set2_below HB.out (by have := Zw1_.out; have := Zw2_.out; have := Zw3_.out; have := Gb1.out; have := Gb2.out; omega) _ _⟩

end Go.Proofs.Ytocimkpafakiaaa.XFnExactTrimProg
