/- Each Go function that the law reaches as a Lean function, and that Go comes to just its answer; written by this session's xprint.py over the kit's printer. -/
import Derived.Test.YtocimkpafakiaaaXFnExactPackProgx0
import Derived.Test.YtocimkpafakiaaaXFnExactPackProgx11
namespace Go.Proofs.Ytocimkpafakiaaa.XFnExactPackProg
open Go.RowKit Go.Proofs.YtocimkpafakiaaaW.PrintWords Go.Proofs.YtocimkpafakiaaaW.PrintLast Go.Proofs.YtocimkpafakiaaaW.PrintMore
attribute [local go_sem] max2_int min2_int max_two min_two max_three min_three max_four min_four   -- for this text's walks alone
set_option linter.unusedVariables false
set_option linter.unusedSimpArgs false

theorem att13_0_0 {p : Prop} (h : p := by repeat (first | (with_reducible first | exact HB.out | apply below_alloc | apply pw_below_drewN | apply below_drew1) | exact HB.out)) : p := h
theorem att13_0_1 {p : Prop} (h : p := by first | (with_reducible assumption) | assumption) : p := h
theorem att13_0_2 {p : Prop} (h : p := by (with_reducible repeat (first | apply Kd.Q_alloc | apply Kd.Q_drewN | apply Kd.Q_drew)); exact HO361.out) : p := h
theorem att13_0_3 {p : Prop} (h : p := by (with_reducible repeat (first | apply Kd.R_alloc | apply Kd.R_drewN | apply Kd.R_drew)); exact HO_5.out) : p := h
theorem att13_0_4 {p : Prop} (h : p := by (try simp only [List.map_toArray, List.map_cons, List.map_nil]); first | done | rfl | (simp only [List.length_drop, List.length_take]; rfl)) : p := h
theorem att13_0_5 {p : Prop} (h : p := by repeat (first | exact Below.refl _ _ | apply below_alloc)) : p := h
theorem att13_0_6 {p : Prop} (h : p := by (with_reducible repeat (first | apply Kd.R_alloc | apply Kd.R_drewN | apply Kd.R_drew)); exact HO366.out) : p := h
theorem att13_0_7 {p : Prop} (h : p := by (with_reducible repeat (first | apply Kd.R_alloc | apply Kd.R_drewN | apply Kd.R_drew)); exact HO354.out) : p := h
/-! ### impl_nextOf: function 78 -/
theorem Kd.Q_append_rows {P : Program} {ops : Array Oper} {rest : List Oper} {o : Oper} {a : Act} {Q : Exit → Act → World → Prop} {α : Type} (d : Kd α) {Rr : α → List Value → Prop} {w0 W : World} (base : Nat) (hgd : o.guard = none) (s x : Operand) (t e : TypeId) (z : Value) (bytes : Nat)
  (ho : o.op = .call { callee := .builtin .append, args := #[s, x], argTypes := #[t, t] })
  (ht : P.underlying t = some (.slice e)) (hinfo : (P.info? e).map (fun i => (i.zero, i.size, i.bytes)) = some (some z, d.sz, bytes)) (hz : z.cells.size = d.sz) (hs0 : 0 < d.sz) (hb0 : 0 < bytes)
  (v : Value) (xs ys : List α) (A : Option Addr) (m c : Nat) (ok okp : Nat → Prop) (hs : a.eval s = v) (hx : a.eval x = .slice A m c)
  (HO : d.Q e W base ok v xs) (HR : ReadsRow Rr d.sz W A m ys) (hKM : ∀ x cs, Rr x cs → d.M W base okp x cs) (hokp : ∀ k, okp k → ok k ∧ some k ≠ v.ownBlock) (hfresh : ∀ k, W.heap.size ≤ k → ok k)
  (HB : Below base w0 W) (hbase : base ≤ W.heap.size) (hl : (xs.length + m) * bytes ≤ 140737488355328)
  (h : ∀ v1 w1, d.Q e w1 base ok v1 (xs ++ ys) → Below base w0 w1 → W.grownBy w1 v.ownBlock → (v1.ownBlock = v.ownBlock ∨ ∃ b, v1.ownBlock = some b ∧ W.heap.size ≤ b) → wpList P ops Q rest (a.put o.dst v1) w1) :
  wpList P ops Q (o :: rest) a W := by
 obtain ⟨i0, hi, hzz⟩ := Option.map_eq_some_iff.1 hinfo
 simp only [Prod.mk.injEq] at hzz
 obtain ⟨hz0, hz1, hz2⟩ := hzz
 have hm : ys.length = m := HR.1
 have hlen : xs.length + m ≤ 140737488355328 := Nat.le_trans (Nat.le_mul_of_pos_right _ hb0) hl
 obtain ⟨hok, inner, hown, hr⟩ := HO
 have hrun : ∃ v1 w1, (Builtin.append_ #[t, t] o.type #[v, .slice A m c]).run P W = .ok v1 w1 ∧ d.Q e w1 base ok v1 (xs ++ ys) ∧ W.grownBy w1 v.ownBlock ∧ (v1.ownBlock = v.ownBlock ∨ ∃ b, v1.ownBlock = some b ∧ W.heap.size ≤ b) := by
  by_cases h0 : m = 0
  ·subst h0
   obtain rfl : ys = [] := List.eq_nil_of_length_eq_zero hm
   refine ⟨v, W, ?_, by rw [List.append_nil]; exact ⟨hok, inner, hown, hr⟩, World.grownBy.refl W _, .inl rfl⟩
   rcases hown.2 with ⟨hn, B, rfl, _⟩ | ⟨g, off, cap, cur, rfl, _, _, hnc, _⟩
   ·rcases A with _ | ad
    ·rcases B with _ | bd
     ·simp [Builtin.append_, run_underlying ht, sizeOf, typeInfo, hi, Builtin.lenOf, Builtin.firstCells]
     ·simp [Builtin.append_, run_underlying ht, sizeOf, typeInfo, hi, Builtin.lenOf, Builtin.firstCells, storeCells]
    ·rcases B with _ | bd
     ·simp [Builtin.append_, run_underlying ht, sizeOf, typeInfo, hi, Builtin.lenOf, Builtin.firstCells, loadCells, loadCellsFrom]
     ·simp [Builtin.append_, run_underlying ht, sizeOf, typeInfo, hi, Builtin.lenOf, Builtin.firstCells, loadCells, loadCellsFrom, storeCells]
   ·rcases A with _ | ad
    ·simp [Builtin.append_, run_underlying ht, sizeOf, typeInfo, hi, Builtin.lenOf, Builtin.firstCells, hnc, storeCells]
    ·simp [Builtin.append_, run_underlying ht, sizeOf, typeInfo, hi, Builtin.lenOf, Builtin.firstCells, hnc, storeCells, loadCells, loadCellsFrom]
  ·have hm0 : 0 < m := by omega
   obtain ⟨ad, rfl, _⟩ := HR.2.2 hm0
   obtain ⟨news, hnr, hnc⟩ := ReadsRow.inner_ HR
   have hnM : Reps (d.M W base okp) d.sz ys news := hnr.imp_ (fun p c hp => hKM p c hp)
   have hone : ∀ u ∈ news, u.oneCell' = true := by
    intro u hu
    obtain ⟨q, hq, rfl⟩ := List.mem_iff_getElem.1 hu
    have hql : q / d.sz < ys.length := by
     rw [Nat.div_lt_iff_lt_mul hs0]
     rw [← hnM.1]
     exact hq
    have hc := hnM.2 (q / d.sz) _ (List.getElem?_eq_getElem hql)
    refine d.K_one (d.K_of_M hc) _ ?_
    rw [List.mem_iff_getElem?]
    refine ⟨q % d.sz, ?_⟩
    rw [List.getElem?_take, if_pos (Nat.mod_lt _ hs0), List.getElem?_drop, Nat.mul_comm, Nat.div_add_mod, List.getElem?_eq_getElem hq]
   obtain ⟨v1, w1, hrun, h2, hg, hat'⟩ := q_append (P := P) W base t o.type e i0 z d.sz bytes ht hi hz0 hz1 hz2 hz hs0 v xs.length inner hown ad m c news (by rw [hnM.1, hm]) hnc hone hm0 (by simp only [maxLen]; omega) hl hbase
   have hne : ∀ k, some k ≠ v.ownBlock → k < W.heap.size → some k ≠ v1.ownBlock := by
    intro k hk hlt
    rcases hat' with hat | ⟨b, hb, hle⟩
    ·rw [hat]; exact hk
    ·rw [hb]
     intro he
     injection he with he
     omega
   have step : ∀ {q : α} {c : List Value} {o : Nat → Prop}, d.M W base o q c → (∀ k, o k → ok k ∧ some k ≠ v.ownBlock) → d.M w1 base (fun k => ok k ∧ some k ≠ v1.ownBlock) q c := by
    intro q c o hq ho
    have h1 := d.M_move (w1 := w1) (fun k hk => hg.block k hk.2.2.1 (ho k hk.1).2) (d.M_bound hq)
    exact d.M_mono (fun k hk => ⟨(ho k hk.1).1, hne k (ho k hk.1).2 hk.2.2.1⟩) h1
   refine ⟨v1, w1, hrun, ⟨fun k hk => ?_, inner ++ news, by rw [List.length_append, hm]; exact h2, Kd.reps_append (hr.imp_ (fun _ _ hq => step hq (fun _ hk => hk))) (hnM.imp_ (fun _ _ hq => step hq hokp))⟩, hg, hat'⟩
   rcases hat' with hat | ⟨b, hb, hle⟩
   ·exact hok k (hat ▸ hk)
   ·rw [hb] at hk
    injection hk with hk
    exact hfresh k (by omega)
 obtain ⟨v1, w1, hr1, h1, hg, hat⟩ := hrun
 refine wpList_plain hgd fun K hK => ?_
 unfold Oper.wp execOp
 simp only [ho, resolve, invoke, builtin, Sem.run_bind, Sem.run_pure, Result.andThen_ok, List.map_toArray, List.map_cons, List.map_nil, hs, hx, hr1]
 exact hK _ _ (h v1 w1 h1 (HB.grown hg hbase (fun k hk => (q_typed hown k hk).1)) hg hat)
theorem nx_heap_new (w : World) (o : Obj) (n : Nat) (h : n = w.heap.size) : (w.alloc o).heap[n]? = some o := by
 subst h
 exact Array.getElem?_push_size
theorem nx_size (w : World) (o : Obj) : (w.alloc o).heap.size = w.heap.size + 1 := Array.size_push ..
theorem nx_row1 (W : World) (base g : Nat) (ok : Nat → Prop) (hok : ok g) (hb : base ≤ g) (x : Int) (h : W.heap[g]? = some (.cells #[.int .i64 x] 3 (0, 0))) : Kd.R (Kd.int .i64) 3 W base ok (.slice (some ⟨g, 0, none⟩) 1 1) [x] := by
 refine ⟨fun k hk => ?_, [.int .i64 x], ⟨rfl, .inr ⟨g, 1, _, rfl, hb, h, Nat.le_refl _, by decide, rfl, rfl⟩⟩, rfl, fun j p hj => ?_⟩
 ·have : g = k := by simpa [Value.ownBlock] using hk
  subst this
  exact hok
 ·match j, hj with
  | 0, hj => obtain rfl := Option.some.inj hj; exact rfl
theorem nx_row2 (W : World) (base g : Nat) (ok : Nat → Prop) (hok : ok g) (hb : base ≤ g) (x y : Int) (h : W.heap[g]? = some (.cells #[.int .i64 x, .int .i64 y] 3 (0, 0))) : Kd.R (Kd.int .i64) 3 W base ok (.slice (some ⟨g, 0, none⟩) 2 2) [x, y] := by
 refine ⟨fun k hk => ?_, [.int .i64 x, .int .i64 y], ⟨rfl, .inr ⟨g, 2, _, rfl, hb, h, Nat.le_refl _, by decide, rfl, rfl⟩⟩, rfl, fun j p hj => ?_⟩
 ·have : g = k := by simpa [Value.ownBlock] using hk
  subst this
  exact hok
 ·match j, hj with
  | 0, hj => obtain rfl := Option.some.inj hj; exact rfl
  | 1, hj => obtain rfl := Option.some.inj hj; exact rfl
def nxC (x y : Int) : List Int := if x = y then [x] else [x, y]
def nx2 (x y : Int) : List Int := if y < x then nxC y x else nxC x y
theorem nx_sorted (x y : Int) : slices_Sort_int_int.f [x, y] = some (if y < x then [y, x] else [x, y]) := by
 unfold slices_Sort_int_int.f sorted
 rw [if_pos (by simp)]
 congr 1
 by_cases h : y < x
 ·simp [List.mergeSort, List.MergeSort.Internal.splitInTwo, List.merge, h, Int.not_le.mpr h]
 ·simp [List.mergeSort, List.MergeSort.Internal.splitInTwo, List.merge, h, Int.not_lt.mp h]
theorem nx_comp (x y : Int) : slices_Compact_int_int.f [x, y] = some (nxC x y) := by
 unfold slices_Compact_int_int.f nxC
 rw [if_pos (by simp)]
 congr 1
 have r : List.range 2 = [0, 1] := rfl
 by_cases h : x = y
 ·simp [Lib.compact, Lib.compactUpTo, Lib.keeps, h, r]
 ·have h' : ¬ y = x := fun e => h e.symm
  simp [Lib.compact, Lib.compactUpTo, Lib.keeps, h, h', r]
/-- The places behind a place: op, its number N, the next place m. -/
def nxt (op N m : Int) : List Int := if op = 13 then [] else if op = 11 then [N] else if op = 12 then nx2 m N else [m]
def impl_nextOf.f (l0 : List S63) (a1 : Int) : Option (List Int) := if 0 ≤ a1 ∧ a1 < (l0.length : Int) then some (nxt (rd_T63 l0 a1).f0 (rd_T63 l0 a1).f4 (wrap64 (a1 + 1))) else none
set_option maxHeartbeats 80000000 in
set_option maxRecDepth 100000 in
theorem nx_12 (A0 : Option Addr) (c0 : Nat) (l0 : List S63) (a1 N p q : Int) (w : World) (hr0 : Kd.C k63 w A0 l0.length l0) (h0 : 0 ≤ a1) (h1 : a1 < (l0.length : Int)) (ho : (rd_T63 l0 a1).f0 = 12) (hN : N = (rd_T63 l0 a1).f4) (hS : slices_Sort_int_int.f [wrap64 (a1 + 1), N] = some [p, q]) :
  Calls Try.prog 78 #[.slice A0 l0.length c0, .int .i64 a1] w fun e w' => ∃ v0_ : Value, e = .returned (v0_) ∧ Kd.R (Kd.int .i64) 3 w' w.heap.size (fun _ => True) v0_ (nxC p q) ∧ Below w.heap.size w w' := by
 obtain ⟨ad, e, q0, q1, q2, q3, q4⟩ := at_T63 hr0 a1 h0 h1
 subst e
 rw [ho] at q0
 rw [← hN] at q4
 have HS := Aside0.mk hS
 have hu63 := Try.underlying63
 replace h0 := eq_true h0
 replace h1 := eq_true h1
 clear hr0 ho hN hS
 go_enter Try.func78, Try.ntmps78
 go_wp2_with (first | (go_at_call 86; (with_reducible refine (slices_Sort_int_int.calls (fun k => w.heap.size ≤ k) (.slice (some ⟨w.heap.size + 1, 0, none⟩) 2 2) [wrap64 (a1 + 1), N] [p, q] w _ ?hB ?ho HS.out).mono ?_); (case hB => repeat (first | exact Below.refl _ _ | apply below_alloc)); (case ho => exact nx_row2 _ w.heap.size (w.heap.size + 1) _ (Nat.le_succ _) (Nat.le_succ _) _ _ (nx_heap_new _ _ _ (nx_size _ _).symm)); rintro e w1 ⟨rfl, hR, hB1, hK1⟩; have HR := Aside0.mk hR; have HB := Aside0.mk hB1; clear hR hB1 hK1) | (go_at_call 87; (with_reducible refine (slices_Compact_int_int.calls _ (.slice (some ⟨w.heap.size + 1, 0, none⟩) 2 2) [p, q] (nxC p q) w _ HB.out HR.out (nx_comp p q)).mono ?_); rintro e w2 ⟨v, rfl, hR, hB2, hK2⟩; have HR2 := Aside0.mk hR; have HB2 := Aside0.mk hB2; clear hR hB2 hK2))
 go_ret
 exact ⟨_, rfl, Kd.R_mono HR2.out (fun _ _ => trivial), HB2.out⟩
set_option maxHeartbeats 80000000 in
set_option maxRecDepth 100000 in
theorem nx_13 (A0 : Option Addr) (c0 : Nat) (l0 : List S63) (a1 : Int) (w : World) (hr0 : Kd.C k63 w A0 l0.length l0) (h0 : 0 ≤ a1) (h1 : a1 < (l0.length : Int)) (ho : (rd_T63 l0 a1).f0 = 13) :
  Calls Try.prog 78 #[.slice A0 l0.length c0, .int .i64 a1] w fun e w' => ∃ v0_ : Value, e = .returned (v0_) ∧ Kd.R (Kd.int .i64) 3 w' w.heap.size (fun _ => True) v0_ [] ∧ Below w.heap.size w w' := by
 obtain ⟨ad, e, q0, q1, q2, q3, q4⟩ := at_T63 hr0 a1 h0 h1
 subst e
 rw [ho] at q0
 have hu63 := Try.underlying63
 replace h0 := eq_true h0
 replace h1 := eq_true h1
 clear hr0 ho
 go_enter Try.func78, Try.ntmps78
 go_wp2
 go_ret
 exact ⟨_, rfl, Kd.R_nil _ _ _ _ _, att13_0_5⟩
set_option maxHeartbeats 80000000 in
set_option maxRecDepth 100000 in
theorem nx_11 (A0 : Option Addr) (c0 : Nat) (l0 : List S63) (a1 : Int) (w : World) (hr0 : Kd.C k63 w A0 l0.length l0) (h0 : 0 ≤ a1) (h1 : a1 < (l0.length : Int)) (ho : (rd_T63 l0 a1).f0 = 11) :
  Calls Try.prog 78 #[.slice A0 l0.length c0, .int .i64 a1] w fun e w' => ∃ v0_ : Value, e = .returned (v0_) ∧ Kd.R (Kd.int .i64) 3 w' w.heap.size (fun _ => True) v0_ [(rd_T63 l0 a1).f4] ∧ Below w.heap.size w w' := by
 obtain ⟨ad, e, q0, q1, q2, q3, q4⟩ := at_T63 hr0 a1 h0 h1
 subst e
 rw [ho] at q0
 have hu63 := Try.underlying63
 replace h0 := eq_true h0
 replace h1 := eq_true h1
 clear hr0 ho
 go_enter Try.func78, Try.ntmps78
 go_wp2
 go_ret
 exact ⟨_, rfl, nx_row1 _ w.heap.size (w.heap.size + 1) _ trivial (Nat.le_succ _) _ (nx_heap_new _ _ _ (nx_size _ _).symm), att13_0_5⟩
set_option maxHeartbeats 80000000 in
set_option maxRecDepth 100000 in
theorem nx_else (A0 : Option Addr) (c0 : Nat) (l0 : List S63) (a1 : Int) (w : World) (hr0 : Kd.C k63 w A0 l0.length l0) (h0 : 0 ≤ a1) (h1 : a1 < (l0.length : Int)) (o1 : ¬ (rd_T63 l0 a1).f0 = 11) (o2 : ¬ (rd_T63 l0 a1).f0 = 12) (o3 : ¬ (rd_T63 l0 a1).f0 = 13) :
  Calls Try.prog 78 #[.slice A0 l0.length c0, .int .i64 a1] w fun e w' => ∃ v0_ : Value, e = .returned (v0_) ∧ Kd.R (Kd.int .i64) 3 w' w.heap.size (fun _ => True) v0_ [wrap64 (a1 + 1)] ∧ Below w.heap.size w w' := by
 obtain ⟨ad, e, q0, q1, q2, q3, q4⟩ := at_T63 hr0 a1 h0 h1
 subst e
 replace o1 : ((rd_T63 l0 a1).f0 == 11) = false := beq_eq_false_iff_ne.mpr o1
 replace o2 : ((rd_T63 l0 a1).f0 == 12) = false := beq_eq_false_iff_ne.mpr o2
 replace o3 : ((rd_T63 l0 a1).f0 == 13) = false := beq_eq_false_iff_ne.mpr o3
 have hu63 := Try.underlying63
 replace h0 := eq_true h0
 replace h1 := eq_true h1
 clear hr0
 go_enter Try.func78, Try.ntmps78
 go_wp2
 go_ret
 exact ⟨_, rfl, nx_row1 _ w.heap.size (w.heap.size + 1) _ trivial (Nat.le_succ _) _ (nx_heap_new _ _ _ (nx_size _ _).symm), att13_0_5⟩
theorem impl_nextOf.calls (A0 : Option Addr) (c0 : Nat) (l0 : List (S63)) (a1 : Int) (r : List Int) (w : World) (hr0 : Kd.C k63 w A0 l0.length l0) (hc0 : l0.length ≤ c0) (h : impl_nextOf.f l0 a1 = some r) :
  Calls Try.prog 78 #[.slice A0 l0.length c0, .int .i64 a1] w fun e w' => ∃ v0_ : Value, e = .returned (v0_) ∧ Kd.R (Kd.int .i64) 3 w' w.heap.size (fun _ => True) v0_ r ∧ Below w.heap.size w w' := by
 unfold impl_nextOf.f at h
 by_cases hi : 0 ≤ a1 ∧ a1 < (l0.length : Int)
 ·rw [if_pos hi] at h
  obtain rfl := Option.some.inj h
  unfold nxt
  by_cases o3 : (rd_T63 l0 a1).f0 = 13
  ·rw [if_pos o3]
   exact nx_13 A0 c0 l0 a1 w hr0 hi.1 hi.2 o3
  rw [if_neg o3]
  by_cases o1 : (rd_T63 l0 a1).f0 = 11
  ·rw [if_pos o1]
   exact nx_11 A0 c0 l0 a1 w hr0 hi.1 hi.2 o1
  rw [if_neg o1]
  by_cases o2 : (rd_T63 l0 a1).f0 = 12
  ·rw [if_pos o2]
   unfold nx2
   have hs := nx_sorted (wrap64 (a1 + 1)) (rd_T63 l0 a1).f4
   by_cases hlt : (rd_T63 l0 a1).f4 < wrap64 (a1 + 1)
   ·rw [if_pos hlt] at hs ⊢
    exact nx_12 A0 c0 l0 a1 _ _ _ w hr0 hi.1 hi.2 o2 rfl hs
   ·rw [if_neg hlt] at hs ⊢
    exact nx_12 A0 c0 l0 a1 _ _ _ w hr0 hi.1 hi.2 o2 rfl hs
  ·rw [if_neg o2]
   exact nx_else A0 c0 l0 a1 w hr0 hi.1 hi.2 o1 o2 o3
 ·rw [if_neg hi] at h
  cases h

/-! ### impl_copyInts: function 82 -/
def impl_copyInts.f (l0 : List Int) : Option (List Int) := (some (([] : List Int) : List Int)).bind fun y346 => (if y346.length + l0.length < 17592186044416 then (some (y346 ++ l0)) else (none))
set_option maxHeartbeats 80000000 in
set_option maxRecDepth 100000 in
theorem impl_copyInts.calls (A0 : Option Addr) (c0 : Nat) (l0 : List Int) (r : List Int) (w : World) (hr0 : Kd.C (Kd.int .i64) w A0 l0.length l0) (hc0 : l0.length ≤ c0) (h : impl_copyInts.f l0 = some r) :
  Calls Try.prog 82 #[.slice A0 l0.length c0] w fun e w' => ∃ v0_ : Value, e = .returned (v0_) ∧ Kd.R (Kd.int .i64) 3 w' w.heap.size (fun _ => True) v0_ r ∧ Below w.heap.size w w' := by
 have HR0 := Aside0.mk hr0
 have HC0 := Aside0.mk hc0
 clear hr0 hc0
 have HB := Aside0.mk (Below.refl w.heap.size w)
 have H : ((some (([] : List Int) : List Int)).bind fun y346 => (if y346.length + l0.length < 17592186044416 then (some (y346 ++ l0)) else (none))) = some r := h
 clear h
 obtain ⟨y346, hy346⟩ : ∃ y_ : List Int, y_ = (([] : List Int)) := ⟨_, rfl⟩
 replace H : (if y346.length + l0.length < 17592186044416 then (some (y346 ++ l0)) else (none)) = some r := by first | (rw [hy346]; with_reducible exact H) | (have H2_ := (Option.bind_some _ _).symm.trans H; rw [hy346]; with_reducible exact H2_) | (have H2_ := (Option.bind_some _ _).symm.trans H; with_reducible exact H2_) | with_reducible exact H | (rw [hy346]; exact H) | exact H
 have Ny346 := Aside0.mk hy346
 clear hy346
 by_cases c2 : y346.length + l0.length < 17592186044416
 ·rw [if_pos c2] at H
  have LMc2 := Aside0.mk c2
  clear c2
  obtain ⟨y349, hy349⟩ : ∃ y_ : List Int, y_ = (y346 ++ l0) := ⟨_, rfl⟩
  replace H : (some y349) = some r := by first | (rw [hy349]; with_reducible exact H) | (have H2_ := (Option.bind_some _ _).symm.trans H; rw [hy349]; with_reducible exact H2_) | (have H2_ := (Option.bind_some _ _).symm.trans H; with_reducible exact H2_) | with_reducible exact H | (rw [hy349]; exact H) | exact H
  have Ny349 := Aside0.mk hy349
  clear hy349
  obtain rfl := Option.some.inj H
  go_enter Try.func82, Try.ntmps82
  go_wp2_with (first | ((with_reducible refine gate_dst (N := 3) rfl ?_); refine Kd.R_lit (Kd.int .i64) _ 3 ?hg (N := 3) ?hd (xs := ([] : List Int)) (inner := []) (ok := fun _ => True) (okp := fun _ => True) ?hr ?hp (fun _ hk => hk) trivial (Below.refl _ _) (Nat.le_refl _) (by simp) ?_; (case hd => rfl); (case hg => rfl); (case hr => first | (go_simp; done) | (go_simp; rfl)); (case hp => exact (Reps.none _ _)); intro v347 w3 ho4 hb hg_ hnew_; clear hg_ hnew_; (first | rw [← Ny346.out] at ho4 | (simp only [Int.reduceToNat] at ho4; rw [← Ny346.out] at ho4)); have n0_ := Aside0.mk (Kd.R_lower ho4 (below_size att13_0_0)); have n1_ := Aside0.mk (below_step att13_0_0 hb); clear HB; have HO348 := n0_; have HB := n1_; clear n0_ n1_; clear hb ho4) | ((with_reducible refine gate_builtin (b := .append) (xs := #[.tmp 3, .tmp 4]) rfl ?_); at_builtin; refine Kd.R_append_rows (Kd.int .i64) (w0 := w) w.heap.size rfl (.tmp 3) (.tmp 4) 34 3 (.int .i64 0) 8 rfl Try.underlying34 info3 rfl (by decide) (by omega) v347 y346 l0 _ _ _ (fun _ => True) (fun _ => False) rfl rfl ?aO ?aR (fun _ _ h => h) (fun _ h => h.elim) ?aF ?aB ?aS ?aL ?_; (case aR => repeat (first | exact (Kd.C_below HR0.out HB.out) | (with_reducible refine Kd.C_alloc ?_ _) | (with_reducible refine Kd.C_drewN ?_ _) | (with_reducible refine Kd.C_drew ?_))); (case aB => exact att13_0_0); (case aF => exact (fun _ _ => trivial)); (case aO => exact (by (with_reducible repeat (first | apply Kd.R_alloc | apply Kd.R_drewN | apply Kd.R_drew)); exact HO348.out)); (case aS => exact (below_size att13_0_0)); (case aL => have := LMc2.out; omega); intro v350 w5 ho hb hg hat; rw [← Ny349.out] at ho; have n0_ := Aside0.mk (hb); have n1_ := Aside0.mk (ho); clear HB; clear HO348; have HB := n0_; have HO351 := n1_; clear n0_ n1_; clear ho hb hg hat))
  go_ret
  exact ⟨_, by first | rfl | (simp [errW_none, errW_some] <;> rfl) | (simp [*, errW_none, errW_some] <;> rfl), by (with_reducible repeat (first | apply Kd.R_alloc | apply Kd.R_drewN | apply Kd.R_drew)); exact HO351.out, att13_0_0⟩
 ·rw [if_neg c2] at H
  exact absurd H (by simp)

/-! ### impl_reached: function 68 -/
def impl_reached.l0 : Nat → List (S63) → List Bool → List Int → Option (List Bool)
 | 0, _, _, _ => none
 | k + 1, x0, x5, x6 => if (x6.length : Int) > 0 then (if 0 < (x6.length : Int) then (if 1 ≤ (x6.length : Int) then ((some (x6.drop (1 : Int).toNat : List Int)).bind fun y359 => (if 0 ≤ (rd x6 0) then (if (rd x6 0) < (x5.length : Int) then (if (rdOf false x5 (rd x6 0) = true) then (impl_reached.l0 k x0 x5 y359) else ((impl_nextOf.f x0 (rd x6 0)).bind fun t364 => (if y359.length + t364.length < 17592186044416 then (impl_reached.l0 k x0 (x5.set ((rd x6 0) : Int).toNat true) (y359 ++ t364)) else (none)))) else (none)) else (none))) else (none)) else (none)) else (some x5)
def impl_reached.f (k : Nat) (l0 : List (S63)) (l1 : List Int) : Option (List Bool) := if 0 ≤ (l0.length : Int) then (if ((l0.length : Int) : Int).toNat ≤ 281474976710656 then ((impl_copyInts.f l1).bind fun t355 => (impl_reached.l0 k l0 (List.replicate ((l0.length : Int) : Int).toNat false) t355)) else (none)) else (none)
theorem impl_reached.mono_l : ∀ k, (∀ y0 y1 y2, LeO (impl_reached.l0 k y0 y1 y2) (impl_reached.l0 (k + 1) y0 y1 y2))
 | 0 => fun _ _ _ r h => by simp [impl_reached.l0] at h
 | k + 1 => by
  have ih0 := impl_reached.mono_l k
  ·intro y0 y1 y2
   unfold impl_reached.l0
   repeat' first
   | (with_reducible exact ih0 _ _ _)
   | (with_reducible exact LeO.refl _)
   | (with_reducible exact LeO.none _)
   | (with_reducible refine LeO.ite ?_ ?_)
   | (with_reducible refine LeO.bind ?_ (fun _ => ?_))
   | exact ih0 _ _ _
   | exact LeO.none _
   | refine LeO.ite ?_ ?_
   | refine LeO.bind ?_ (fun _ => ?_)
theorem impl_reached.mono : ∀ a0 a1 k, LeO (impl_reached.f k a0 a1) (impl_reached.f (k + 1) a0 a1) := by
 intro a0 a1 k
 have ih0 := impl_reached.mono_l k
 unfold impl_reached.f
 repeat' first
   | (with_reducible exact ih0 _ _ _)
   | (with_reducible exact LeO.refl _)
   | (with_reducible exact LeO.none _)
   | (with_reducible refine LeO.ite ?_ ?_)
   | (with_reducible refine LeO.bind ?_ (fun _ => ?_))
   | exact ih0 _ _ _
   | exact LeO.none _
   | refine LeO.ite ?_ ?_
   | refine LeO.bind ?_ (fun _ => ?_)
set_option maxHeartbeats 80000000 in
set_option maxRecDepth 100000 in
theorem impl_reached.calls (k : Nat) (A0 : Option Addr) (c0 : Nat) (l0 : List (S63)) (A1 : Option Addr) (c1 : Nat) (l1 : List Int) (r : List Bool) (w : World) (hr0 : Kd.C k63 w A0 l0.length l0) (hc0 : l0.length ≤ c0) (hr1 : Kd.C (Kd.int .i64) w A1 l1.length l1) (hc1 : l1.length ≤ c1) (h : impl_reached.f k l0 l1 = some r) :
  Calls Try.prog 68 #[.slice A0 l0.length c0, .slice A1 l1.length c1] w fun e w' => ∃ v0_ : Value, e = .returned (v0_) ∧ Kd.R Kd.bool 4 w' w.heap.size (fun _ => True) v0_ r ∧ Below w.heap.size w w' := by
 have HR0 := Aside0.mk hr0
 have HC0 := Aside0.mk hc0
 clear hr0 hc0
 have HR1 := Aside0.mk hr1
 have HC1 := Aside0.mk hc1
 clear hr1 hc1
 have HB := Aside0.mk (Below.refl w.heap.size w)
 have H : (if 0 ≤ (l0.length : Int) then (if ((l0.length : Int) : Int).toNat ≤ 281474976710656 then ((impl_copyInts.f l1).bind fun t355 => (impl_reached.l0 k l0 (List.replicate ((l0.length : Int) : Int).toNat false) t355)) else (none)) else (none)) = some r := h
 clear h
 by_cases c3 : 0 ≤ (l0.length : Int)
 ·rw [if_pos c3] at H
  have c3b0 := eq_true c3
  have c3b1 : decide (0 ≤ (l0.length : Int)) = true := decide_eq_true c3
  clear c3
  by_cases c4 : ((l0.length : Int) : Int).toNat ≤ 281474976710656
  ·rw [if_pos c4] at H
   have c4b0 := eq_true c4
   have c4b1 : decide (((l0.length : Int) : Int).toNat ≤ 281474976710656) = true := decide_eq_true c4
   clear c4
   obtain ⟨y352, hy352⟩ : ∃ y_ : List Bool, y_ = (List.replicate ((l0.length : Int) : Int).toNat false) := ⟨_, rfl⟩
   replace H : ((impl_copyInts.f l1).bind fun t355 => (impl_reached.l0 k l0 y352 t355)) = some r := by first | (rw [hy352]; with_reducible exact H) | (have H2_ := (Option.bind_some _ _).symm.trans H; rw [hy352]; with_reducible exact H2_) | (have H2_ := (Option.bind_some _ _).symm.trans H; with_reducible exact H2_) | with_reducible exact H | (rw [hy352]; exact H) | exact H
   have Ny352 := Aside0.mk hy352
   clear hy352
   replace H := Option.bind_eq_some_iff.mp H
   obtain ⟨t355, A50, H⟩ := H
   (try dsimp only at H)
   have A5 := Aside0.mk A50
   clear A50
   have H' := Aside0.mk H
   clear H
   go_enter Try.func68, Try.ntmps68
   go_wp2_with (first | ((with_reducible refine gate_dst (N := 10) rfl ?_); refine Kd.R_make Kd.bool _ 4 rfl (N := 10) rfl 66 _ _ rfl (l0.length : Int) rfl rfl Try.underlying66 (.bool false) 1 info4 rfl (by decide) (by omega) false (ok := fun _ => True) (okp := fun _ => True) rfl (fun _ hk => hk) trivial (of_decide_eq_true att13_0_1) (Nat.le_trans (Nat.mul_le_mul_right _ (of_decide_eq_true att13_0_1 : (l0.length : Int).toNat ≤ 281474976710656)) (by omega)) (Below.refl _ _) (Nat.le_refl _) ?_; intro v353 w6 ho7 hb hg_ hnew_; clear hg_ hnew_; (first | rw [← Ny352.out] at ho7 | (simp only [Int.reduceToNat] at ho7; rw [← Ny352.out] at ho7)); have n0_ := Aside0.mk (Kd.R_lower ho7 (below_size att13_0_0)); have n1_ := Aside0.mk (below_step att13_0_0 hb); clear HB; have HO354 := n0_; have HB := n1_; clear n0_ n1_; clear hb ho7) | ((with_reducible refine gate_callee (f := 82) rfl ?_); refine goesL_ (some 12) rfl rfl Try.func82 (by kernel_rfl) rfl #[.slice A1 l1.length c1] rfl att13_0_4 ?_; (with_reducible refine (impl_copyInts.calls _ _ l1 t355 _ ?side1 ?side2 A5.out).mono ?_); (case side1 => repeat (first | exact (Kd.C_below HR1.out HB.out) | (with_reducible refine Kd.C_alloc ?_ _) | (with_reducible refine Kd.C_drewN ?_ _) | (with_reducible refine Kd.C_drew ?_))); (case side2 => exact HC1.out); rintro e w8 ⟨v356, rfl, ho0, hb⟩; refine ⟨_, rfl, ?_⟩; have n0_ := Aside0.mk (Kd.R_below att13_0_7 hb); have n1_ := Aside0.mk (Kd.R_lower ho0 (below_size att13_0_0)); have n2_ := Aside0.mk (below_step att13_0_0 hb); clear HO354; clear HB; have HO354 := n0_; have HO357 := n1_; have HB := n2_; clear n0_ n1_ n2_; (try clear hb); (try clear hb2); (try clear hk); (try clear hi); (try clear ho0)))
   go_loopg [6] k (fun kq v6 w' => ∃ (x5_1 : List Bool) (x6_1 : List Int), Aside0 (impl_reached.l0 kq l0 x5_1 x6_1 = some r) ∧ Aside0 (kq ≤ k) ∧ Aside0 (Kd.R Kd.bool 4 w' w.heap.size (fun _ => True) v353 x5_1) ∧ Aside0 (Kd.Q (Kd.int .i64) 3 w' w.heap.size (fun _ => True) v6 x6_1) ∧ Aside0 (Below w.heap.size w w'))
   case atStart => exact ⟨(y352), (t355), H', ⟨Nat.le_refl _⟩, ⟨att13_0_7⟩, ⟨Kd.Q_of_R (by (with_reducible repeat (first | apply Kd.R_alloc | apply Kd.R_drewN | apply Kd.R_drew)); exact HO357.out)⟩, ⟨att13_0_0⟩⟩
   case round =>
    clear H'
    try clear c1
    try clear p2
    try clear c3
    try clear c3b0
    try clear c3b1
    try clear c4
    try clear c4b0
    try clear c4b1
    try clear c6
    try clear c8
    obtain ⟨x5_1, x6_1, HA, HK1, HO_5, HO_6, HB⟩ := hrel
    cases gk with
    | zero => exact absurd HA.out (by simp [impl_reached.l0])
    | succ k1 =>
     have H := HA.out
     clear HA
     simp only [impl_reached.l0] at H
     by_cases c9 : (x6_1.length : Int) > 0
     ·rw [if_pos c9] at H
      have c9b0 : decide (0 < (x6_1.length : Int)) = true := decide_eq_true c9
      have c9b1 : decide (0 < x6_1.length) = true := decide_eq_true (by omega)
      clear c9
      by_cases c10 : 0 < (x6_1.length : Int)
      ·rw [if_pos c10] at H
       have c10b0 : decide (0 < (x6_1.length : Int)) = true := decide_eq_true c10
       have c10b1 : decide (0 < x6_1.length) = true := decide_eq_true (by omega)
       clear c10
       by_cases c11 : 1 ≤ (x6_1.length : Int)
       ·rw [if_pos c11] at H
        have c11b0 := eq_true c11
        have c11b1 : decide (1 ≤ (x6_1.length : Int)) = true := decide_eq_true c11
        clear c11
        obtain ⟨y359, hy359⟩ : ∃ y_ : List Int, y_ = (x6_1.drop (1 : Int).toNat) := ⟨_, rfl⟩
        replace H : (if 0 ≤ (rd x6_1 0) then (if (rd x6_1 0) < (x5_1.length : Int) then (if (rdOf false x5_1 (rd x6_1 0) = true) then (impl_reached.l0 k1 l0 x5_1 y359) else ((impl_nextOf.f l0 (rd x6_1 0)).bind fun t364 => (if y359.length + t364.length < 17592186044416 then (impl_reached.l0 k1 l0 (x5_1.set ((rd x6_1 0) : Int).toNat true) (y359 ++ t364)) else (none)))) else (none)) else (none)) = some r := by first | (rw [hy359]; with_reducible exact H) | (have H2_ := (Option.bind_some _ _).symm.trans H; rw [hy359]; with_reducible exact H2_) | (have H2_ := (Option.bind_some _ _).symm.trans H; with_reducible exact H2_) | with_reducible exact H | (rw [hy359]; exact H) | exact H
        have Ny359 := Aside0.mk hy359
        clear hy359
        by_cases c12 : 0 ≤ (rd x6_1 0)
        ·rw [if_pos c12] at H
         have c12b0 : decide (0 ≤ (rd x6_1 0)) = true := decide_eq_true c12
         clear c12
         by_cases c13 : (rd x6_1 0) < (x5_1.length : Int)
         ·rw [if_pos c13] at H
          have c13b0 : decide ((rd x6_1 0) < (x5_1.length : Int)) = true := decide_eq_true c13
          clear c13
          obtain ⟨bq14, hbq14⟩ : ∃ b_ : Bool, b_ = (rdOf false x5_1 (rd x6_1 0)) := ⟨_, rfl⟩
          replace H : (if (bq14 = true) then (impl_reached.l0 k1 l0 x5_1 y359) else ((impl_nextOf.f l0 (rd x6_1 0)).bind fun t364 => (if y359.length + t364.length < 17592186044416 then (impl_reached.l0 k1 l0 (x5_1.set ((rd x6_1 0) : Int).toNat true) (y359 ++ t364)) else (none)))) = some r := by rw [← hbq14] at H; exact H
          have Nbq14 := Aside0.mk hbq14
          clear hbq14
          by_cases c15 : (bq14 = true)
          ·subst c15
           rw [if_pos rfl] at H
           have H' := Aside0.mk H
           clear H
           obtain ⟨Ao16, co16, eo16, _⟩ := Kd.Q_slice HO_6.out
           subst eo16
           have p358 : 0 ≤ (0 : Int) := (by omega)
           have q358 : 0 < (x6_1.length : Int) := of_decide_eq_true att13_0_1
           obtain ⟨ad358, e358, hx358_0⟩ := Kd.at_int (Kd.Q_reads' HO_6.out).2.2 0 p358 q358
           cases e358
           have qi358 : (0 < x6_1.length) = True := eq_true (by omega)
           (try rw [show ((0 : Int)).toNat = 0 from rfl] at hx358_0)
           (try rw [Addr.add_zero'] at hx358_0)
           replace p358 := eq_true p358
           replace q358 := eq_true q358
           have q17 : (1 : Int) ≤ ((x6_1.length : Int) : Int) := of_decide_eq_true att13_0_1
           obtain ⟨i017, hi017, _, hsz17, _⟩ := info_parts info3
           have hcut17 := cut_from (P := Try.prog) 34 3 .i64 Try.underlying34 hi017 1 hsz17 (some ad358) x6_1.length co16 1 (by omega) q17
           have hr17 := Kd.Q_drop (k := (1 : Int).toNat) HO_6.out (by omega)
           obtain ⟨A17, hA17⟩ : ∃ A1, A1 = (if co16 = (1 : Int).toNat then (some ad358) else ((some ad358) : Option Addr).map (·.add ((1 : Int).toNat * 1))) := ⟨_, rfl⟩
           obtain ⟨c17, hc17⟩ : ∃ c1, c1 = co16 - (1 : Int).toNat := ⟨_, rfl⟩
           have hy17 : y359.length = x6_1.length - (1 : Int).toNat := (by rw [Ny359.out, List.length_drop])
           rw [← Ny359.out] at hr17
           rw [← hy17, ← hA17, ← hc17] at hcut17
           replace hr17 : Kd.Q (Kd.int .i64) 3 wr w.heap.size (fun _ => True) (.slice A17 y359.length c17) y359 := (by rw [hA17, hc17, hy17]; exact hr17)
           have HE17 : Aside0 ((Value.slice A17 y359.length c17).ownBlock = (.slice (some ad358) x6_1.length co16 : Value).ownBlock) := ⟨by rw [hA17]; split <;> (cases ((some ad358) : Option Addr) <;> rfl)⟩
           clear hy17 hi017 hsz17 HO_6 hA17 hc17
           have HO361 := Aside0.mk hr17
           clear hr17
           replace q17 := eq_true q17
           obtain ⟨Ao18, co18, eo18⟩ := Kd.R_slice HO_5.out
           subst eo18
           have p362 : 0 ≤ ((rd x6_1 0) : Int) := of_decide_eq_true att13_0_1
           have q362 : (rd x6_1 0) < (x5_1.length : Int) := of_decide_eq_true att13_0_1
           obtain ⟨ad362, e362, hx362_0⟩ := Kd.at_bool (Kd.R_reads' HO_5.out).2.2 (rd x6_1 0) p362 q362
           (try rw [← Nbq14.out] at hx362_0)
           cases e362
           replace p362 := eq_true p362
           replace q362 := eq_true q362
           go_wp2
           go_roundg k1
           case measure => have := HK1.out; omega
           case rel => exact ⟨(x5_1), (y359), H', ⟨by have := HK1.out; omega⟩, ⟨att13_0_3⟩, ⟨att13_0_2⟩, ⟨att13_0_0⟩⟩
          ·replace c15 := Bool.eq_false_iff.mpr c15
           subst c15
           rw [if_neg (show ¬ (false = true) by decide)] at H
           obtain ⟨y363, hy363⟩ : ∃ y_ : List Bool, y_ = (x5_1.set ((rd x6_1 0) : Int).toNat true) := ⟨_, rfl⟩
           replace H : ((impl_nextOf.f l0 (rd x6_1 0)).bind fun t364 => (if y359.length + t364.length < 17592186044416 then (impl_reached.l0 k1 l0 y363 (y359 ++ t364)) else (none))) = some r := by first | (rw [hy363]; with_reducible exact H) | (have H2_ := (Option.bind_some _ _).symm.trans H; rw [hy363]; with_reducible exact H2_) | (have H2_ := (Option.bind_some _ _).symm.trans H; with_reducible exact H2_) | with_reducible exact H | (rw [hy363]; exact H) | exact H
           have Ny363 := Aside0.mk hy363
           clear hy363
           replace H := Option.bind_eq_some_iff.mp H
           obtain ⟨t364, A200, H⟩ := H
           (try dsimp only at H)
           have A20 := Aside0.mk A200
           clear A200
           by_cases c21 : y359.length + t364.length < 17592186044416
           ·rw [if_pos c21] at H
            have LMc21 := Aside0.mk c21
            clear c21
            obtain ⟨y367, hy367⟩ : ∃ y_ : List Int, y_ = (y359 ++ t364) := ⟨_, rfl⟩
            replace H : (impl_reached.l0 k1 l0 y363 y367) = some r := by first | (rw [hy367]; with_reducible exact H) | (have H2_ := (Option.bind_some _ _).symm.trans H; rw [hy367]; with_reducible exact H2_) | (have H2_ := (Option.bind_some _ _).symm.trans H; with_reducible exact H2_) | with_reducible exact H | (rw [hy367]; exact H) | exact H
            have Ny367 := Aside0.mk hy367
            clear hy367
            have H' := Aside0.mk H
            clear H
            obtain ⟨Ao22, co22, eo22, _⟩ := Kd.Q_slice HO_6.out
            subst eo22
            have p358 : 0 ≤ (0 : Int) := (by omega)
            have q358 : 0 < (x6_1.length : Int) := of_decide_eq_true att13_0_1
            obtain ⟨ad358, e358, hx358_0⟩ := Kd.at_int (Kd.Q_reads' HO_6.out).2.2 0 p358 q358
            cases e358
            have qi358 : (0 < x6_1.length) = True := eq_true (by omega)
            (try rw [show ((0 : Int)).toNat = 0 from rfl] at hx358_0)
            (try rw [Addr.add_zero'] at hx358_0)
            replace p358 := eq_true p358
            replace q358 := eq_true q358
            have q23 : (1 : Int) ≤ ((x6_1.length : Int) : Int) := of_decide_eq_true att13_0_1
            obtain ⟨i023, hi023, _, hsz23, _⟩ := info_parts info3
            have hcut23 := cut_from (P := Try.prog) 34 3 .i64 Try.underlying34 hi023 1 hsz23 (some ad358) x6_1.length co22 1 (by omega) q23
            have hr23 := Kd.Q_drop (k := (1 : Int).toNat) HO_6.out (by omega)
            obtain ⟨A23, hA23⟩ : ∃ A1, A1 = (if co22 = (1 : Int).toNat then (some ad358) else ((some ad358) : Option Addr).map (·.add ((1 : Int).toNat * 1))) := ⟨_, rfl⟩
            obtain ⟨c23, hc23⟩ : ∃ c1, c1 = co22 - (1 : Int).toNat := ⟨_, rfl⟩
            have hy23 : y359.length = x6_1.length - (1 : Int).toNat := (by rw [Ny359.out, List.length_drop])
            rw [← Ny359.out] at hr23
            rw [← hy23, ← hA23, ← hc23] at hcut23
            replace hr23 : Kd.Q (Kd.int .i64) 3 wr w.heap.size (fun _ => True) (.slice A23 y359.length c23) y359 := (by rw [hA23, hc23, hy23]; exact hr23)
            have HE23 : Aside0 ((Value.slice A23 y359.length c23).ownBlock = (.slice (some ad358) x6_1.length co22 : Value).ownBlock) := ⟨by rw [hA23]; split <;> (cases ((some ad358) : Option Addr) <;> rfl)⟩
            clear hy23 hi023 hsz23 HO_6 hA23 hc23
            have HO361 := Aside0.mk hr23
            clear hr23
            replace q23 := eq_true q23
            obtain ⟨Ao24, co24, eo24⟩ := Kd.R_slice HO_5.out
            subst eo24
            have p362 : 0 ≤ ((rd x6_1 0) : Int) := of_decide_eq_true att13_0_1
            have q362 : (rd x6_1 0) < (x5_1.length : Int) := of_decide_eq_true att13_0_1
            obtain ⟨ad362, e362, hx362_0⟩ := Kd.at_bool (Kd.R_reads' HO_5.out).2.2 (rd x6_1 0) p362 q362
            (try rw [← Nbq14.out] at hx362_0)
            cases e362
            replace p362 := eq_true p362
            replace q362 := eq_true q362
            have p19 : 0 ≤ ((rd x6_1 0) : Int) := of_decide_eq_true att13_0_1
            have q19 : ((rd x6_1 0) : Int) < ((x5_1.length : Int) : Int) := of_decide_eq_true att13_0_1
            obtain ⟨go19, co19, eo19, gb19, gl19, cl19, HG19⟩ := Kd.R_form HO_5.out (by omega)
            (first | cases eo19 | (injection eo19 with ea_ en_ ec_; (first | subst ea_ | (injection ea_ with ea_; subst ea_)); subst ec_; clear en_))
            have GB19 := Aside0.mk gb19
            have GG19 := Aside0.mk HG19
            clear gb19 gl19 HG19
            (first | simp only [add_plain] at hx362_0 | skip)
            obtain ⟨hx19_0, hf19_0⟩ := Kd.R_celln false HO_5.out ((rd x6_1 0) : Int) p19 q19
            replace p19 := eq_true p19
            replace q19 := eq_true q19
            have HP25 := Kd.R_putg HO_5.out ((rd x6_1 0) : Int) true
            go_wp2_with (first | ((with_reducible refine gate_store (t := 4) (p := 28) rfl ?_); refine store_event (t := 4) (p := 28) (v := ?vo_w26) (w1 := (wr.setCell ⟨go19, ((rd x6_1 0) : Int).toNat, none⟩ (.bool true))) ?hg ?ho ?hn ?hr ?_; (case ho => rfl); (case hg => rfl); (case hn => rfl); (case hr => first | (go_simp; done) | (go_simp; rfl)); intro w26 hw; have hg : wr.grownBy w26 (some go19) := (by rw [hw]; exact HP25.2); have hp_ : Kd.R Kd.bool 4 w26 w.heap.size (fun _ => True) (.slice (some ⟨go19, 0, none⟩) x5_1.length co24) y363 := (by rw [hw, Ny363.out]; exact HP25.1); clear HP25; have n0_ := Aside0.mk (hp_); have n1_ := Aside0.mk (Kd.Q_over' (v := (.slice (some ⟨go19, 0, none⟩) x5_1.length co24)) att13_0_2 (Kd.R_typed HO_5.out) (by decide) hg); have n2_ := Aside0.mk ((by rw [hw]; exact below_set (HB.out) GB19.out : Below w.heap.size w w26)); clear HO_5; clear HO361; clear HB; have HO_5 := n0_; have HO361 := n1_; have HB := n2_; clear n0_ n1_ n2_; clear hg hw hp_) | ((with_reducible refine gate_callee (f := 78) rfl ?_); refine goesL_ (some 32) rfl rfl Try.func78 (by kernel_rfl) rfl #[.slice A0 l0.length c0, .int .i64 (rd x6_1 0)] rfl att13_0_4 ?_; (with_reducible refine (impl_nextOf.calls _ _ l0 (rd x6_1 0) t364 _ ?side1 ?side2 A20.out).mono ?_); (case side1 => repeat (first | exact (Kd.C_below HR0.out HB.out) | (with_reducible refine Kd.C_alloc ?_ _) | (with_reducible refine Kd.C_drewN ?_ _) | (with_reducible refine Kd.C_drew ?_))); (case side2 => exact HC0.out); rintro e w27 ⟨v365, rfl, ho0, hb⟩; refine ⟨_, rfl, ?_⟩; have n0_ := Aside0.mk (Kd.R_below att13_0_3 hb); have n1_ := Aside0.mk (Kd.Q_elder' att13_0_2 (Kd.R_base ho0) hb); have n2_ := Aside0.mk (Kd.R_lower (Kd.R_new' ho0 (Kd.Q_lt att13_0_2)) (below_size att13_0_0)); have n3_ := Aside0.mk (below_step att13_0_0 hb); clear HO_5; clear HO361; clear HB; have HO_5 := n0_; have HO361 := n1_; have HO366 := n2_; have HB := n3_; clear n0_ n1_ n2_ n3_; (try clear hb); (try clear hb2); (try clear hk); (try clear hi); (try clear ho0); obtain ⟨Ao29, co29, eo29⟩ := Kd.R_slice HO366.out; subst eo29) | ((with_reducible refine gate_builtin (b := .append) (xs := #[.tmp 29, .tmp 32]) rfl ?_); at_builtin; refine Kd.Q_append_rows (Kd.int .i64) (w0 := w) w.heap.size rfl (.tmp 29) (.tmp 32) 34 3 (.int .i64 0) 8 rfl Try.underlying34 info3 rfl (by decide) (by omega) (.slice A23 y359.length c23) y359 t364 _ _ _ (fun k_ => some k_ ≠ (.slice Ao29 t364.length co29 : Value).ownBlock) (fun _ => False) rfl rfl ?aO ?aR (fun _ _ h => h) (fun _ h => h.elim) ?aF ?aB ?aS ?aL ?_; (case aR => repeat (first | exact (Kd.R_reads' HO366.out).2.2 | (with_reducible refine Kd.C_alloc ?_ _) | (with_reducible refine Kd.C_drewN ?_ _) | (with_reducible refine Kd.C_drew ?_))); (case aB => exact att13_0_0); (case aF => exact (fun k_ hk => Kd.fresh' (Kd.R_lt att13_0_6) k_ hk)); (case aO => exact (by (with_reducible repeat (first | apply Kd.Q_alloc | apply Kd.Q_drewN | apply Kd.Q_drew)); exact Kd.Q_mono HO361.out (fun _ hk => hk.2))); (case aS => exact (below_size att13_0_0)); (case aL => have := LMc21.out; omega); intro v368 w28 ho hb hg hat; rw [← Ny367.out] at ho; have n0_ := Aside0.mk (Kd.R_over' att13_0_3 (Kd.Q_typed att13_0_2) (by decide) hg); have n1_ := Aside0.mk (Kd.R_after (ok := (fun _ => True)) att13_0_6 hg hat); have n2_ := Aside0.mk (hb); have n3_ := Aside0.mk (ho); clear HO_5; clear HO366; clear HB; clear HO361; have HO_5 := n0_; have HO366 := n1_; have HB := n2_; have HO369 := n3_; clear n0_ n1_ n2_ n3_; clear ho hb hg hat))
            go_roundg k1
            case measure => have := HK1.out; omega
            case rel => exact ⟨(y363), (y367), H', ⟨by have := HK1.out; omega⟩, ⟨att13_0_3⟩, ⟨by (with_reducible repeat (first | apply Kd.Q_alloc | apply Kd.Q_drewN | apply Kd.Q_drew)); exact Kd.Q_mono HO369.out (fun _ hk => trivial)⟩, ⟨att13_0_0⟩⟩
           ·rw [if_neg c21] at H
            exact absurd H (by simp)
         ·rw [if_neg c13] at H
          exact absurd H (by simp)
        ·rw [if_neg c12] at H
         exact absurd H (by simp)
       ·rw [if_neg c11] at H
        exact absurd H (by simp)
      ·rw [if_neg c10] at H
       exact absurd H (by simp)
     ·rw [if_neg c9] at H
      have c9b0 : decide (0 < (x6_1.length : Int)) = false := decide_eq_false c9
      have c9b1 : decide (0 < x6_1.length) = false := decide_eq_false (by omega)
      clear c9
      obtain rfl := Option.some.inj H
      obtain ⟨Ao30, co30, eo30, _⟩ := Kd.Q_slice HO_6.out
      subst eo30
      go_wp2
      go_ret
      exact ⟨_, by first | rfl | (simp [errW_none, errW_some] <;> rfl) | (simp [*, errW_none, errW_some] <;> rfl), by (with_reducible repeat (first | apply Kd.R_alloc | apply Kd.R_drewN | apply Kd.R_drew)); exact HO_5.out, att13_0_0⟩
  ·rw [if_neg c4] at H
   exact absurd H (by simp)
 ·rw [if_neg c3] at H
  exact absurd H (by simp)

end Go.Proofs.Ytocimkpafakiaaa.XFnExactPackProg
