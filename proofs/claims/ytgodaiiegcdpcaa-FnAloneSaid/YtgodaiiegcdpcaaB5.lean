/- The program's functions, told in that language, and what each of them answers; each theorem bears its own conditions. -/
import Derived.Test.YtgodaiiegcdpcaaB4
section
set_option linter.unusedVariables false
set_option linter.unusedSimpArgs false
namespace Go.Proofs.Ytgodaiiegcdpcaa.Abs.MC
open Go.Proofs.Ytgodaiiegcdpcaa.Abs
set_option linter.unusedSimpArgs false
set_option linter.unusedVariables false
set_option maxRecDepth 10000
theorem memOk_room {m : Mem} (h : memOk m = true) : ∀ c ∈ m, c.length ≤ 4000 := by
  intro c hc
  simp only [memOk, Bool.and_eq_true, List.all_eq_true] at h
  have h1 := h.2 c hc
  simp only [cellOk, inn, Bool.and_eq_true, decide_eq_true_eq] at h1
  omega
set_option maxHeartbeats 16000000 in
theorem s65 {m : Mach} {x : Pick} (hm : m.sm) (hok : machOk m = true) (hl1 : -(2 ^ 63) ≤ x.late) (hl2 : x.late < 2 ^ 63) (hwho : inn 0 ((m.cores.length : Int) - 1) x.who = true) (hrun : (m.cores.getD x.who.toNat ⟨0, [], [], 0⟩).state = 0) :
    Runs (gam code) (.fn 65 [.agg (owL m.d), .agg (imL true (Enc.d x))] [] (.tup [.agg (owL (mstep m x).1.d), .c (.int .i64 (mstep m x).2)]) []) := by
  obtain ⟨who, late⟩ := x
  have hstep : mstep m ⟨who, late⟩ = if inn 0 ((m.cores.length : Int) - 1) who = false then (m, 2) else
    if (m.cores.getD who.toNat ⟨0, [], [], 0⟩).state ≠ 0 then (m, 3) else mdo m who.toNat late (m.cores.getD who.toNat ⟨0, [], [], 0⟩) ((m.codes.getD who.toNat []).getD (m.cores.getD who.toNat ⟨0, [], [], 0⟩).at'.toNat default) := rfl
  dsimp only at hwho hrun
  rw [if_neg (by rw [hwho]; simp), if_neg (by rw [hrun]; simp)] at hstep
  have hin : 0 ≤ who ∧ who ≤ (m.cores.length : Int) - 1 := by simpa [inn] using hwho
  obtain ⟨q, rfl⟩ := Int.eq_ofNat_of_zero_le hin.1
  have hq : q < m.cores.length := by omega
  obtain ⟨c, L, s, R⟩ := machOk_ready hok hq
  rw [show ((q : Int)).toNat = q from rfl, getD_some R.hc] at hrun
  rw [show ((q : Int)).toNat = q from rfl, getD_some R.hc, getD_some R.hL, getD_some R.hs] at hstep
  have hqc : q < m.codes.length := (List.getElem?_eq_some_iff.1 R.hL).1
  obtain ⟨atn, hat⟩ := Int.eq_ofNat_of_zero_le R.at0
  have hLs := R.hs
  have hatl : atn < L.length := by rw [hat] at hLs; exact (List.getElem?_eq_some_iff.1 hLs).1
  have hLl : L.length < 2 ^ 40 := hm.code L (List.mem_of_getElem? R.hL)
  obtain ⟨cat, regs, view, st⟩ := c
  dsimp only at hrun
  subst hrun
  have hrl : regs.length = 8 := R.regs
  have hvo := viewOk_get R.view
  have hvl : view.length = 24 := by rw [hvo.1]; exact R.mem
  refine W.is (fn := a65) rfl rfl ?_
  rw [show start [.agg (owL m.d), .agg (imL true (Enc.d (⟨(q : Int), late⟩ : Pick)))] [] = ⟨fun t => [.agg [.ref (0, 1, 0, 0) [] 1 0 m.codes.length, .ref (0, 1, 0, 1) [] 4 0 m.cores.length, .ref (0, 1, 0, 2) [] 1 0 m.mem.length, .ref (0, 1, 0, 3) [] 2 0 m.trace.length], .agg [.int .i64 (q : Int), .int .i64 late]].getD t (.c .dead),
    upd (upd (upd (upd (fun _ => none) (0, 1, 0, 0) (some (co m.codes))) (0, 1, 0, 1) (some (co m.cores))) (0, 1, 0, 2) (some (co m.mem))) (0, 1, 0, 3) (some (co m.trace)), 1⟩ from rfl]
  simp only [a65]
  rw [show co m.cores = seg m.cores q (owL (Enc.d (⟨cat, regs, view, 0⟩ : Core))) from seg_co R.hc, show co m.codes = seg m.codes q (owL (Enc.d L)) from seg_co R.hL]
  refine W.detS4 (e := (0, 1, 0, 1)) 1 (q := q) hh rfl hq rfl rfl rfl rfl ?_
  refine W.detS4 (e := (0, 1, 0, 1)) 2 (q := q) hh rfl hq rfl rfl rfl rfl ?_
  refine W.detS1 (e := (0, 1, 0, 0)) (q := q) hh rfl hqc rfl rfl rfl ?_
  dsimp only at hat
  subst hat
  repeat (first | refine wk1 ?_ | (apply WO.ci s117; (· exact lends)))
  obtain ⟨op, r, a, b, n⟩ := s
  obtain ⟨r, rfl⟩ := Int.eq_ofNat_of_zero_le R.r.1
  obtain ⟨b, rfl⟩ := Int.eq_ofNat_of_zero_le R.b.1
  have hrr : r < regs.length := by have := R.r.2; dsimp only at this; omega
  have hbb : b < regs.length := by have := R.b.2; dsimp only at this; omega
  have hgb : regs[b]? = some regs[b] := List.getElem?_eq_getElem hbb
  have hw : IntKind.i64.wrap ((atn : Int) + 1) = (atn : Int) + 1 := wrap_in (by omega)
  have hop := R.op
  have haa := R.a
  have hcm24 := R.mem
  dsimp only at hop haa
  rcases ops13 op with h | h | h | h | h | h | h | h | h | h | h | h | h | h
  · subst h
    have hdo : mstep m ⟨(q : Int), late⟩ = goOn m q (⟨(atn : Int), regs.set r n, view, 0⟩ : Core) ((atn : Int) + 1) := hstep
    repeat (first | refine wk1 ?_ | (apply WO.ci s117; (· exact lends)))
    rw [hw]
    refine W.if rfl (fun hb => ?_) (fun hb => ?_)
    · have hge : (L.length : Int) ≤ (atn : Int) + 1 := of_decide_eq_true hb
      rw [hdo.trans (goOn_end R.hL hge)]
      repeat (first | refine wk1 ?_ | (apply WO.ci s117; (· exact lends)))
      exact W.ret (endQ.many (.inr rfl) (Ans.cello rfl hh rfl rfl (root_own (q := q) hh hh R.hL rfl rfl hh hh (by simp) hh (by simp) rfl hq (own_row hh rfl rfl) (own_row hh rfl (by simp)) (by simp [memD])) (Ans.sc rfl rfl Ans.nil)) rfl)
    · have hlt : ¬ (L.length : Int) ≤ (atn : Int) + 1 := of_decide_eq_false hb
      rw [hdo.trans (goOn_go R.hL hlt)]
      repeat (first | refine wk1 ?_ | (apply WO.ci s117; (· exact lends)))
      exact W.ret (endQ.many (.inr rfl) (Ans.cello rfl hh rfl rfl (root_own (q := q) hh hh R.hL rfl rfl hh hh (by simp) hh (by simp) rfl hq (own_row hh rfl rfl) (own_row hh rfl (by simp)) (by simp [memD])) (Ans.sc rfl rfl Ans.nil)) rfl)
  · subst h
    obtain ⟨a, rfl⟩ := Int.eq_ofNat_of_zero_le (show 0 ≤ a by simpa using haa.1)
    have hal : a < regs.length := by have := haa.2; omega
    have hga : regs[a]? = some regs[a] := List.getElem?_eq_getElem hal
    have hdo : mstep m ⟨(q : Int), late⟩ = goOn m q (⟨(atn : Int), regs.set r (IntKind.i64.wrap (regs[a] + regs[b])), view, 0⟩ : Core) ((atn : Int) + 1) := by rw [hstep]; simp [mdo, rset, rg, wr64, hga, hgb]
    repeat (first | refine wk1 ?_ | (apply WO.ci s117; (· exact lends)))
    rw [hw]
    refine W.if rfl (fun hb => ?_) (fun hb => ?_)
    · have hge : (L.length : Int) ≤ (atn : Int) + 1 := of_decide_eq_true hb
      rw [hdo.trans (goOn_end R.hL hge)]
      repeat (first | refine wk1 ?_ | (apply WO.ci s117; (· exact lends)))
      exact W.ret (endQ.many (.inr rfl) (Ans.cello rfl hh rfl rfl (root_own (q := q) hh hh R.hL rfl rfl hh hh (by simp) hh (by simp) rfl hq (own_row hh rfl rfl) (own_row hh rfl (by simp)) (by simp [memD])) (Ans.sc rfl rfl Ans.nil)) rfl)
    · have hlt : ¬ (L.length : Int) ≤ (atn : Int) + 1 := of_decide_eq_false hb
      rw [hdo.trans (goOn_go R.hL hlt)]
      repeat (first | refine wk1 ?_ | (apply WO.ci s117; (· exact lends)))
      exact W.ret (endQ.many (.inr rfl) (Ans.cello rfl hh rfl rfl (root_own (q := q) hh hh R.hL rfl rfl hh hh (by simp) hh (by simp) rfl hq (own_row hh rfl rfl) (own_row hh rfl (by simp)) (by simp [memD])) (Ans.sc rfl rfl Ans.nil)) rfl)
  · subst h
    obtain ⟨a, rfl⟩ := Int.eq_ofNat_of_zero_le (show 0 ≤ a by simpa using haa.1)
    have hal : a < regs.length := by have := haa.2; omega
    have hga : regs[a]? = some regs[a] := List.getElem?_eq_getElem hal
    have hdo : mstep m ⟨(q : Int), late⟩ = goOn m q (⟨(atn : Int), regs.set r (IntKind.i64.wrap (regs[a] - regs[b])), view, 0⟩ : Core) ((atn : Int) + 1) := by rw [hstep]; simp [mdo, rset, rg, wr64, hga, hgb]
    repeat (first | refine wk1 ?_ | (apply WO.ci s117; (· exact lends)))
    rw [hw]
    refine W.if rfl (fun hb => ?_) (fun hb => ?_)
    · have hge : (L.length : Int) ≤ (atn : Int) + 1 := of_decide_eq_true hb
      rw [hdo.trans (goOn_end R.hL hge)]
      repeat (first | refine wk1 ?_ | (apply WO.ci s117; (· exact lends)))
      exact W.ret (endQ.many (.inr rfl) (Ans.cello rfl hh rfl rfl (root_own (q := q) hh hh R.hL rfl rfl hh hh (by simp) hh (by simp) rfl hq (own_row hh rfl rfl) (own_row hh rfl (by simp)) (by simp [memD])) (Ans.sc rfl rfl Ans.nil)) rfl)
    · have hlt : ¬ (L.length : Int) ≤ (atn : Int) + 1 := of_decide_eq_false hb
      rw [hdo.trans (goOn_go R.hL hlt)]
      repeat (first | refine wk1 ?_ | (apply WO.ci s117; (· exact lends)))
      exact W.ret (endQ.many (.inr rfl) (Ans.cello rfl hh rfl rfl (root_own (q := q) hh hh R.hL rfl rfl hh hh (by simp) hh (by simp) rfl hq (own_row hh rfl rfl) (own_row hh rfl (by simp)) (by simp [memD])) (Ans.sc rfl rfl Ans.nil)) rfl)
  · subst h
    obtain ⟨a, rfl⟩ := Int.eq_ofNat_of_zero_le (show 0 ≤ a by simpa using haa.1)
    have hal : a < regs.length := by have := haa.2; omega
    have hga : regs[a]? = some regs[a] := List.getElem?_eq_getElem hal
    have hdo : mstep m ⟨(q : Int), late⟩ = goOn m q (⟨(atn : Int), regs.set r (bit (decide (regs[a] < regs[b]))), view, 0⟩ : Core) ((atn : Int) + 1) := by rw [hstep]; simp [mdo, rset, rg, hga, hgb]
    repeat (first | refine wk1 ?_ | (apply WO.ci s117; (· exact lends)))
    rw [hw]
    refine W.if rfl (fun hb => ?_) (fun hb => ?_)
    · have hge : (L.length : Int) ≤ (atn : Int) + 1 := of_decide_eq_true hb
      rw [hdo.trans (goOn_end R.hL hge)]
      repeat (first | refine wk1 ?_ | (apply WO.ci s117; (· exact lends)))
      exact W.ret (endQ.many (.inr rfl) (Ans.cello rfl hh rfl rfl (root_own (q := q) hh hh R.hL rfl rfl hh hh (by simp) hh (by simp) rfl hq (own_row hh rfl rfl) (own_row hh rfl (by simp)) (by simp [memD])) (Ans.sc rfl rfl Ans.nil)) rfl)
    · have hlt : ¬ (L.length : Int) ≤ (atn : Int) + 1 := of_decide_eq_false hb
      rw [hdo.trans (goOn_go R.hL hlt)]
      repeat (first | refine wk1 ?_ | (apply WO.ci s117; (· exact lends)))
      exact W.ret (endQ.many (.inr rfl) (Ans.cello rfl hh rfl rfl (root_own (q := q) hh hh R.hL rfl rfl hh hh (by simp) hh (by simp) rfl hq (own_row hh rfl rfl) (own_row hh rfl (by simp)) (by simp [memD])) (Ans.sc rfl rfl Ans.nil)) rfl)
  · subst h
    repeat (first | refine wk1 ?_ | (apply WO.ci s117; (· exact lends)))
    rcases Int.lt_or_le a 0 with ha | ha
    · skip
      have hdo0 : mstep m ⟨(q : Int), late⟩ = mmem m q late (⟨(atn : Int), regs, view, 0⟩ : Core) (⟨5, (r : Int), a, (b : Int), n⟩ : Step) := hstep
      have hca : cellAt (⟨(atn : Int), regs, view, 0⟩ : Core) (⟨5, (r : Int), a, (b : Int), n⟩ : Step) = n := by simp [cellAt]; intro h9; omega
      refine WO.icall (fn := a118) rfl rfl ?_
      simp only [a118]
      repeat (first | refine wk1 ?_ | (apply WO.ci s117; (· exact lends)))
      rw [show decide (a ≥ 0) = false by simp; omega]
      repeat (first | refine wk1 ?_ | (apply WO.ci s117; (· exact lends)))
      refine WO.cb s63 (LA.int rfl (LA.int rfl (LA.int rfl LA.nil))) ?_
      rcases hi : inn 0 23 (n) with _ | _
      · rw [hdo0, show mmem m q late (⟨(atn : Int), regs, view, 0⟩ : Core) (⟨5, (r : Int), a, (b : Int), n⟩ : Step) = rest m q (⟨(atn : Int), regs, view, 0⟩ : Core) 2 by rw [mmem, hca, if_pos hi]]
        rw [show (decide (0 ≤ n) && decide (n ≤ 23)) = false from hi]
        repeat (first | refine wk1 ?_ | (apply WO.ci s117; (· exact lends)))
        refine W.ret (inlQ.many (.inr rfl) insr ?_)
        show WO _ _ _ _
        repeat (first | refine wk1 ?_ | (apply WO.ci s117; (· exact lends)))
        exact W.ret (endQ.many (.inr rfl) (Ans.cello rfl hh rfl rfl (root_own (q := q) hh hh R.hL rfl rfl hh hh (by simp) hh (by simp) rfl hq (own_row hh rfl rfl) (own_row hh rfl (by simp)) (by simp [memD])) (Ans.sc rfl rfl Ans.nil)) rfl)
      have hi2 : 0 ≤ n ∧ n ≤ 23 := by simpa [inn] using hi
      rw [show (decide (0 ≤ n) && decide (n ≤ 23)) = true from hi]
      obtain ⟨cell, hcz⟩ := Int.eq_ofNat_of_zero_le hi2.1
      have hc24 : cell < 24 := by omega
      have hcl : cell < m.mem.length := by omega
      have hrow : m.mem[cell]? = some m.mem[cell] := List.getElem?_eq_getElem hcl
      have hca2 := hca.trans hcz
      rw [hcz]
      repeat (first | refine wk1 ?_ | (apply WO.ci s117; (· exact lends)))
      have hdo : mstep m ⟨(q : Int), late⟩ = goOn m q (⟨(atn : Int), regs.set r (mload m.mem view cell late false).1, (mload m.mem view cell late false).2, 0⟩ : Core) ((atn : Int) + 1) := by
        rw [hdo0, mmem, if_neg (by rw [hca, hi]; simp), if_neg (by simp), if_pos rfl, hca2]; rfl
      refine WO.ct (s155 (fl := true) (fl' := true) (m := m.mem) (view := view) (cell := cell) (late := late) (hold := false) hm.mem R.view hcl (by simpa using hl1) (by simpa using hl2)) (LA.abt rfl abt (LA.ev rfl rfl rfl hh (LA.int rfl (LA.int rfl (LA.bool rfl LA.nil))))) btt ?_
      repeat (first | refine wk1 ?_ | (apply WO.ci s117; (· exact lends)))
      refine W.ret (inlQ.many (.inr rfl) insr ?_)
      show WO _ _ _ _
      repeat (first | refine wk1 ?_ | (apply WO.ci s117; (· exact lends)))
      rw [hw]
      refine W.if rfl (fun hb => ?_) (fun hb => ?_)
      · have hge : (L.length : Int) ≤ (atn : Int) + 1 := of_decide_eq_true hb
        rw [hdo.trans (goOn_end R.hL hge)]
        repeat (first | refine wk1 ?_ | (apply WO.ci s117; (· exact lends)))
        exact W.ret (endQ.many (.inr rfl) (Ans.cello rfl hh rfl rfl (root_own (q := q) hh hh R.hL rfl rfl hh hh (by simp) hh (by simp) rfl hq (own_row hh rfl rfl) (own_row hh rfl (by simp)) (by simp [memD])) (Ans.sc rfl rfl Ans.nil)) rfl)
      · have hlt : ¬ (L.length : Int) ≤ (atn : Int) + 1 := of_decide_eq_false hb
        rw [hdo.trans (goOn_go R.hL hlt)]
        repeat (first | refine wk1 ?_ | (apply WO.ci s117; (· exact lends)))
        exact W.ret (endQ.many (.inr rfl) (Ans.cello rfl hh rfl rfl (root_own (q := q) hh hh R.hL rfl rfl hh hh (by simp) hh (by simp) rfl hq (own_row hh rfl rfl) (own_row hh rfl (by simp)) (by simp [memD])) (Ans.sc rfl rfl Ans.nil)) rfl)
    · obtain ⟨a, rfl⟩ := Int.eq_ofNat_of_zero_le ha
      have hal : a < regs.length := by have := haa.2; omega
      have hga : regs[a]? = some regs[a] := List.getElem?_eq_getElem hal
      have hdo0 : mstep m ⟨(q : Int), late⟩ = mmem m q late (⟨(atn : Int), regs, view, 0⟩ : Core) (⟨5, (r : Int), (a : Int), (b : Int), n⟩ : Step) := hstep
      have hca : cellAt (⟨(atn : Int), regs, view, 0⟩ : Core) (⟨5, (r : Int), (a : Int), (b : Int), n⟩ : Step) = IntKind.i64.wrap (n + regs[a]) := by simp [cellAt, hga]
      refine WO.icall (fn := a118) rfl rfl ?_
      simp only [a118]
      repeat (first | refine wk1 ?_ | (apply WO.ci s117; (· exact lends)))
      rw [show decide ((a : Int) ≥ 0) = true by simp]
      repeat (first | refine wk1 ?_ | (apply WO.ci s117; (· exact lends)))
      refine WO.cb s63 (LA.int rfl (LA.int rfl (LA.int rfl LA.nil))) ?_
      rcases hi : inn 0 23 (IntKind.i64.wrap (n + regs[a])) with _ | _
      · rw [hdo0, show mmem m q late (⟨(atn : Int), regs, view, 0⟩ : Core) (⟨5, (r : Int), (a : Int), (b : Int), n⟩ : Step) = rest m q (⟨(atn : Int), regs, view, 0⟩ : Core) 2 by rw [mmem, hca, if_pos hi]]
        rw [show (decide (0 ≤ IntKind.i64.wrap (n + regs[a])) && decide (IntKind.i64.wrap (n + regs[a]) ≤ 23)) = false from hi]
        repeat (first | refine wk1 ?_ | (apply WO.ci s117; (· exact lends)))
        refine W.ret (inlQ.many (.inr rfl) insr ?_)
        show WO _ _ _ _
        repeat (first | refine wk1 ?_ | (apply WO.ci s117; (· exact lends)))
        exact W.ret (endQ.many (.inr rfl) (Ans.cello rfl hh rfl rfl (root_own (q := q) hh hh R.hL rfl rfl hh hh (by simp) hh (by simp) rfl hq (own_row hh rfl rfl) (own_row hh rfl (by simp)) (by simp [memD])) (Ans.sc rfl rfl Ans.nil)) rfl)
      have hi2 : 0 ≤ IntKind.i64.wrap (n + regs[a]) ∧ IntKind.i64.wrap (n + regs[a]) ≤ 23 := by simpa [inn] using hi
      rw [show (decide (0 ≤ IntKind.i64.wrap (n + regs[a])) && decide (IntKind.i64.wrap (n + regs[a]) ≤ 23)) = true from hi]
      obtain ⟨cell, hcz⟩ := Int.eq_ofNat_of_zero_le hi2.1
      have hc24 : cell < 24 := by omega
      have hcl : cell < m.mem.length := by omega
      have hrow : m.mem[cell]? = some m.mem[cell] := List.getElem?_eq_getElem hcl
      have hca2 := hca.trans hcz
      rw [hcz]
      repeat (first | refine wk1 ?_ | (apply WO.ci s117; (· exact lends)))
      have hdo : mstep m ⟨(q : Int), late⟩ = goOn m q (⟨(atn : Int), regs.set r (mload m.mem view cell late false).1, (mload m.mem view cell late false).2, 0⟩ : Core) ((atn : Int) + 1) := by
        rw [hdo0, mmem, if_neg (by rw [hca, hi]; simp), if_neg (by simp), if_pos rfl, hca2]; rfl
      refine WO.ct (s155 (fl := true) (fl' := true) (m := m.mem) (view := view) (cell := cell) (late := late) (hold := false) hm.mem R.view hcl (by simpa using hl1) (by simpa using hl2)) (LA.abt rfl abt (LA.ev rfl rfl rfl hh (LA.int rfl (LA.int rfl (LA.bool rfl LA.nil))))) btt ?_
      repeat (first | refine wk1 ?_ | (apply WO.ci s117; (· exact lends)))
      refine W.ret (inlQ.many (.inr rfl) insr ?_)
      show WO _ _ _ _
      repeat (first | refine wk1 ?_ | (apply WO.ci s117; (· exact lends)))
      rw [hw]
      refine W.if rfl (fun hb => ?_) (fun hb => ?_)
      · have hge : (L.length : Int) ≤ (atn : Int) + 1 := of_decide_eq_true hb
        rw [hdo.trans (goOn_end R.hL hge)]
        repeat (first | refine wk1 ?_ | (apply WO.ci s117; (· exact lends)))
        exact W.ret (endQ.many (.inr rfl) (Ans.cello rfl hh rfl rfl (root_own (q := q) hh hh R.hL rfl rfl hh hh (by simp) hh (by simp) rfl hq (own_row hh rfl rfl) (own_row hh rfl (by simp)) (by simp [memD])) (Ans.sc rfl rfl Ans.nil)) rfl)
      · have hlt : ¬ (L.length : Int) ≤ (atn : Int) + 1 := of_decide_eq_false hb
        rw [hdo.trans (goOn_go R.hL hlt)]
        repeat (first | refine wk1 ?_ | (apply WO.ci s117; (· exact lends)))
        exact W.ret (endQ.many (.inr rfl) (Ans.cello rfl hh rfl rfl (root_own (q := q) hh hh R.hL rfl rfl hh hh (by simp) hh (by simp) rfl hq (own_row hh rfl rfl) (own_row hh rfl (by simp)) (by simp [memD])) (Ans.sc rfl rfl Ans.nil)) rfl)
  · subst h
    repeat (first | refine wk1 ?_ | (apply WO.ci s117; (· exact lends)))
    rcases Int.lt_or_le a 0 with ha | ha
    · skip
      have hdo0 : mstep m ⟨(q : Int), late⟩ = mmem m q late (⟨(atn : Int), regs, view, 0⟩ : Core) (⟨6, (r : Int), a, (b : Int), n⟩ : Step) := hstep
      have hca : cellAt (⟨(atn : Int), regs, view, 0⟩ : Core) (⟨6, (r : Int), a, (b : Int), n⟩ : Step) = n := by simp [cellAt]; intro h9; omega
      refine WO.icall (fn := a118) rfl rfl ?_
      simp only [a118]
      repeat (first | refine wk1 ?_ | (apply WO.ci s117; (· exact lends)))
      rw [show decide (a ≥ 0) = false by simp; omega]
      repeat (first | refine wk1 ?_ | (apply WO.ci s117; (· exact lends)))
      refine WO.cb s63 (LA.int rfl (LA.int rfl (LA.int rfl LA.nil))) ?_
      rcases hi : inn 0 23 (n) with _ | _
      · rw [hdo0, show mmem m q late (⟨(atn : Int), regs, view, 0⟩ : Core) (⟨6, (r : Int), a, (b : Int), n⟩ : Step) = rest m q (⟨(atn : Int), regs, view, 0⟩ : Core) 2 by rw [mmem, hca, if_pos hi]]
        rw [show (decide (0 ≤ n) && decide (n ≤ 23)) = false from hi]
        repeat (first | refine wk1 ?_ | (apply WO.ci s117; (· exact lends)))
        refine W.ret (inlQ.many (.inr rfl) insr ?_)
        show WO _ _ _ _
        repeat (first | refine wk1 ?_ | (apply WO.ci s117; (· exact lends)))
        exact W.ret (endQ.many (.inr rfl) (Ans.cello rfl hh rfl rfl (root_own (q := q) hh hh R.hL rfl rfl hh hh (by simp) hh (by simp) rfl hq (own_row hh rfl rfl) (own_row hh rfl (by simp)) (by simp [memD])) (Ans.sc rfl rfl Ans.nil)) rfl)
      have hi2 : 0 ≤ n ∧ n ≤ 23 := by simpa [inn] using hi
      rw [show (decide (0 ≤ n) && decide (n ≤ 23)) = true from hi]
      obtain ⟨cell, hcz⟩ := Int.eq_ofNat_of_zero_le hi2.1
      have hc24 : cell < 24 := by omega
      have hcl : cell < m.mem.length := by omega
      have hrow : m.mem[cell]? = some m.mem[cell] := List.getElem?_eq_getElem hcl
      have hca2 := hca.trans hcz
      rw [hcz]
      repeat (first | refine wk1 ?_ | (apply WO.ci s117; (· exact lends)))
      by_cases hroom : (m.mem[cell].length : Int) < 4000
      rotate_left 1
      · have hful : m.mem[cell].length = 4000 := by have := memOk_room (machOk_mem hok) m.mem[cell] (List.getElem_mem _); omega
        rw [hdo0, show mmem m q late (⟨(atn : Int), regs, view, 0⟩ : Core) (⟨6, (r : Int), a, (b : Int), n⟩ : Step) = (m, 3) by rw [mmem, if_neg (by rw [hca, hi]; simp), if_pos ⟨by simp, by rw [hca2]; show ¬ ((m.mem.getD cell []).length : Int) < 4000; rw [mem_cell hcl]; exact hroom⟩]]
        rw [show ((m.mem[cell].length : Int) == 4000) = true by rw [hful]; rfl]
        repeat (first | refine wk1 ?_ | (apply WO.ci s117; (· exact lends)))
        refine W.ret (inlQ.many (.inr rfl) insr ?_)
        show WO _ _ _ _
        repeat (first | refine wk1 ?_ | (apply WO.ci s117; (· exact lends)))
        exact W.ret (endQ.many (.inr rfl) (Ans.cello rfl hh rfl rfl (root_same (q := q) R.hc hh hh R.hL rfl rfl hh hh rfl hh rfl rfl (own_row hh rfl rfl) (own_row hh rfl (by first | rfl | assumption)) (by simp [memD])) (Ans.sc rfl rfl Ans.nil)) rfl)
      rw [show ((m.mem[cell].length : Int) == 4000) = false by simp; omega]
      have hro : ¬ ((⟨6, (r : Int), a, (b : Int), n⟩ : Step).op ≠ 5 ∧ ¬ ((m.mem.getD (cellAt (⟨(atn : Int), regs, view, 0⟩ : Core) (⟨6, (r : Int), a, (b : Int), n⟩ : Step)).toNat []).length : Int) < 4000) := fun h => h.2 (by rw [hca2]; show ((m.mem.getD cell []).length : Int) < 4000; rw [mem_cell hcl]; exact hroom)
      repeat (first | refine wk1 ?_ | (apply WO.ci s117; (· exact lends)))
      have hdo : mstep m ⟨(q : Int), late⟩ = goOn ⟨m.codes, m.cores, (mstore m.mem view cell regs[b] ((6 : Int) == 7)).1, m.trace⟩ q (⟨(atn : Int), regs, (mstore m.mem view cell regs[b] ((6 : Int) == 7)).2, 0⟩ : Core) ((atn : Int) + 1) := by
        rw [hdo0, mmem, if_neg (by rw [hca, hi]; simp), if_neg hro, if_neg (by simp), if_neg (by simp), hca2]; simp [rg, hgb]
      refine WO.mvT (ds := memD m.mem) rfl abt (LA.ev rfl rfl rfl hh (LA.int rfl (LA.int rfl (LA.bool rfl LA.nil)))) (s156 hm.mem hcm24 hvl hc24) btt ?_
      repeat (first | refine wk1 ?_ | (apply WO.ci s117; (· exact lends)))
      refine W.ret (inlQ.many (.inr rfl) insr ?_)
      show WO _ _ _ _
      repeat (first | refine wk1 ?_ | (apply WO.ci s117; (· exact lends)))
      rw [hw]
      refine W.if rfl (fun hb => ?_) (fun hb => ?_)
      · have hge : (L.length : Int) ≤ (atn : Int) + 1 := of_decide_eq_true hb
        rw [hdo.trans (goOn_end R.hL hge)]
        repeat (first | refine wk1 ?_ | (apply WO.ci s117; (· exact lends)))
        exact W.ret (endQ.many (.inr rfl) (Ans.cello rfl hh rfl rfl (root_own (q := q) hh hh R.hL rfl rfl hh hh (by simp) hh (by simp) rfl hq (own_row hh rfl rfl) (own_row hh rfl (by simp)) (by simp [memD])) (Ans.sc rfl rfl Ans.nil)) rfl)
      · have hlt : ¬ (L.length : Int) ≤ (atn : Int) + 1 := of_decide_eq_false hb
        rw [hdo.trans (goOn_go R.hL hlt)]
        repeat (first | refine wk1 ?_ | (apply WO.ci s117; (· exact lends)))
        exact W.ret (endQ.many (.inr rfl) (Ans.cello rfl hh rfl rfl (root_own (q := q) hh hh R.hL rfl rfl hh hh (by simp) hh (by simp) rfl hq (own_row hh rfl rfl) (own_row hh rfl (by simp)) (by simp [memD])) (Ans.sc rfl rfl Ans.nil)) rfl)
    · obtain ⟨a, rfl⟩ := Int.eq_ofNat_of_zero_le ha
      have hal : a < regs.length := by have := haa.2; omega
      have hga : regs[a]? = some regs[a] := List.getElem?_eq_getElem hal
      have hdo0 : mstep m ⟨(q : Int), late⟩ = mmem m q late (⟨(atn : Int), regs, view, 0⟩ : Core) (⟨6, (r : Int), (a : Int), (b : Int), n⟩ : Step) := hstep
      have hca : cellAt (⟨(atn : Int), regs, view, 0⟩ : Core) (⟨6, (r : Int), (a : Int), (b : Int), n⟩ : Step) = IntKind.i64.wrap (n + regs[a]) := by simp [cellAt, hga]
      refine WO.icall (fn := a118) rfl rfl ?_
      simp only [a118]
      repeat (first | refine wk1 ?_ | (apply WO.ci s117; (· exact lends)))
      rw [show decide ((a : Int) ≥ 0) = true by simp]
      repeat (first | refine wk1 ?_ | (apply WO.ci s117; (· exact lends)))
      refine WO.cb s63 (LA.int rfl (LA.int rfl (LA.int rfl LA.nil))) ?_
      rcases hi : inn 0 23 (IntKind.i64.wrap (n + regs[a])) with _ | _
      · rw [hdo0, show mmem m q late (⟨(atn : Int), regs, view, 0⟩ : Core) (⟨6, (r : Int), (a : Int), (b : Int), n⟩ : Step) = rest m q (⟨(atn : Int), regs, view, 0⟩ : Core) 2 by rw [mmem, hca, if_pos hi]]
        rw [show (decide (0 ≤ IntKind.i64.wrap (n + regs[a])) && decide (IntKind.i64.wrap (n + regs[a]) ≤ 23)) = false from hi]
        repeat (first | refine wk1 ?_ | (apply WO.ci s117; (· exact lends)))
        refine W.ret (inlQ.many (.inr rfl) insr ?_)
        show WO _ _ _ _
        repeat (first | refine wk1 ?_ | (apply WO.ci s117; (· exact lends)))
        exact W.ret (endQ.many (.inr rfl) (Ans.cello rfl hh rfl rfl (root_own (q := q) hh hh R.hL rfl rfl hh hh (by simp) hh (by simp) rfl hq (own_row hh rfl rfl) (own_row hh rfl (by simp)) (by simp [memD])) (Ans.sc rfl rfl Ans.nil)) rfl)
      have hi2 : 0 ≤ IntKind.i64.wrap (n + regs[a]) ∧ IntKind.i64.wrap (n + regs[a]) ≤ 23 := by simpa [inn] using hi
      rw [show (decide (0 ≤ IntKind.i64.wrap (n + regs[a])) && decide (IntKind.i64.wrap (n + regs[a]) ≤ 23)) = true from hi]
      obtain ⟨cell, hcz⟩ := Int.eq_ofNat_of_zero_le hi2.1
      have hc24 : cell < 24 := by omega
      have hcl : cell < m.mem.length := by omega
      have hrow : m.mem[cell]? = some m.mem[cell] := List.getElem?_eq_getElem hcl
      have hca2 := hca.trans hcz
      rw [hcz]
      repeat (first | refine wk1 ?_ | (apply WO.ci s117; (· exact lends)))
      by_cases hroom : (m.mem[cell].length : Int) < 4000
      rotate_left 1
      · have hful : m.mem[cell].length = 4000 := by have := memOk_room (machOk_mem hok) m.mem[cell] (List.getElem_mem _); omega
        rw [hdo0, show mmem m q late (⟨(atn : Int), regs, view, 0⟩ : Core) (⟨6, (r : Int), (a : Int), (b : Int), n⟩ : Step) = (m, 3) by rw [mmem, if_neg (by rw [hca, hi]; simp), if_pos ⟨by simp, by rw [hca2]; show ¬ ((m.mem.getD cell []).length : Int) < 4000; rw [mem_cell hcl]; exact hroom⟩]]
        rw [show ((m.mem[cell].length : Int) == 4000) = true by rw [hful]; rfl]
        repeat (first | refine wk1 ?_ | (apply WO.ci s117; (· exact lends)))
        refine W.ret (inlQ.many (.inr rfl) insr ?_)
        show WO _ _ _ _
        repeat (first | refine wk1 ?_ | (apply WO.ci s117; (· exact lends)))
        exact W.ret (endQ.many (.inr rfl) (Ans.cello rfl hh rfl rfl (root_same (q := q) R.hc hh hh R.hL rfl rfl hh hh rfl hh rfl rfl (own_row hh rfl rfl) (own_row hh rfl (by first | rfl | assumption)) (by simp [memD])) (Ans.sc rfl rfl Ans.nil)) rfl)
      rw [show ((m.mem[cell].length : Int) == 4000) = false by simp; omega]
      have hro : ¬ ((⟨6, (r : Int), (a : Int), (b : Int), n⟩ : Step).op ≠ 5 ∧ ¬ ((m.mem.getD (cellAt (⟨(atn : Int), regs, view, 0⟩ : Core) (⟨6, (r : Int), (a : Int), (b : Int), n⟩ : Step)).toNat []).length : Int) < 4000) := fun h => h.2 (by rw [hca2]; show ((m.mem.getD cell []).length : Int) < 4000; rw [mem_cell hcl]; exact hroom)
      repeat (first | refine wk1 ?_ | (apply WO.ci s117; (· exact lends)))
      have hdo : mstep m ⟨(q : Int), late⟩ = goOn ⟨m.codes, m.cores, (mstore m.mem view cell regs[b] ((6 : Int) == 7)).1, m.trace⟩ q (⟨(atn : Int), regs, (mstore m.mem view cell regs[b] ((6 : Int) == 7)).2, 0⟩ : Core) ((atn : Int) + 1) := by
        rw [hdo0, mmem, if_neg (by rw [hca, hi]; simp), if_neg hro, if_neg (by simp), if_neg (by simp), hca2]; simp [rg, hgb]
      refine WO.mvT (ds := memD m.mem) rfl abt (LA.ev rfl rfl rfl hh (LA.int rfl (LA.int rfl (LA.bool rfl LA.nil)))) (s156 hm.mem hcm24 hvl hc24) btt ?_
      repeat (first | refine wk1 ?_ | (apply WO.ci s117; (· exact lends)))
      refine W.ret (inlQ.many (.inr rfl) insr ?_)
      show WO _ _ _ _
      repeat (first | refine wk1 ?_ | (apply WO.ci s117; (· exact lends)))
      rw [hw]
      refine W.if rfl (fun hb => ?_) (fun hb => ?_)
      · have hge : (L.length : Int) ≤ (atn : Int) + 1 := of_decide_eq_true hb
        rw [hdo.trans (goOn_end R.hL hge)]
        repeat (first | refine wk1 ?_ | (apply WO.ci s117; (· exact lends)))
        exact W.ret (endQ.many (.inr rfl) (Ans.cello rfl hh rfl rfl (root_own (q := q) hh hh R.hL rfl rfl hh hh (by simp) hh (by simp) rfl hq (own_row hh rfl rfl) (own_row hh rfl (by simp)) (by simp [memD])) (Ans.sc rfl rfl Ans.nil)) rfl)
      · have hlt : ¬ (L.length : Int) ≤ (atn : Int) + 1 := of_decide_eq_false hb
        rw [hdo.trans (goOn_go R.hL hlt)]
        repeat (first | refine wk1 ?_ | (apply WO.ci s117; (· exact lends)))
        exact W.ret (endQ.many (.inr rfl) (Ans.cello rfl hh rfl rfl (root_own (q := q) hh hh R.hL rfl rfl hh hh (by simp) hh (by simp) rfl hq (own_row hh rfl rfl) (own_row hh rfl (by simp)) (by simp [memD])) (Ans.sc rfl rfl Ans.nil)) rfl)
  · subst h
    repeat (first | refine wk1 ?_ | (apply WO.ci s117; (· exact lends)))
    rcases Int.lt_or_le a 0 with ha | ha
    · skip
      have hdo0 : mstep m ⟨(q : Int), late⟩ = mmem m q late (⟨(atn : Int), regs, view, 0⟩ : Core) (⟨7, (r : Int), a, (b : Int), n⟩ : Step) := hstep
      have hca : cellAt (⟨(atn : Int), regs, view, 0⟩ : Core) (⟨7, (r : Int), a, (b : Int), n⟩ : Step) = n := by simp [cellAt]; intro h9; omega
      refine WO.icall (fn := a118) rfl rfl ?_
      simp only [a118]
      repeat (first | refine wk1 ?_ | (apply WO.ci s117; (· exact lends)))
      rw [show decide (a ≥ 0) = false by simp; omega]
      repeat (first | refine wk1 ?_ | (apply WO.ci s117; (· exact lends)))
      refine WO.cb s63 (LA.int rfl (LA.int rfl (LA.int rfl LA.nil))) ?_
      rcases hi : inn 0 23 (n) with _ | _
      · rw [hdo0, show mmem m q late (⟨(atn : Int), regs, view, 0⟩ : Core) (⟨7, (r : Int), a, (b : Int), n⟩ : Step) = rest m q (⟨(atn : Int), regs, view, 0⟩ : Core) 2 by rw [mmem, hca, if_pos hi]]
        rw [show (decide (0 ≤ n) && decide (n ≤ 23)) = false from hi]
        repeat (first | refine wk1 ?_ | (apply WO.ci s117; (· exact lends)))
        refine W.ret (inlQ.many (.inr rfl) insr ?_)
        show WO _ _ _ _
        repeat (first | refine wk1 ?_ | (apply WO.ci s117; (· exact lends)))
        exact W.ret (endQ.many (.inr rfl) (Ans.cello rfl hh rfl rfl (root_own (q := q) hh hh R.hL rfl rfl hh hh (by simp) hh (by simp) rfl hq (own_row hh rfl rfl) (own_row hh rfl (by simp)) (by simp [memD])) (Ans.sc rfl rfl Ans.nil)) rfl)
      have hi2 : 0 ≤ n ∧ n ≤ 23 := by simpa [inn] using hi
      rw [show (decide (0 ≤ n) && decide (n ≤ 23)) = true from hi]
      obtain ⟨cell, hcz⟩ := Int.eq_ofNat_of_zero_le hi2.1
      have hc24 : cell < 24 := by omega
      have hcl : cell < m.mem.length := by omega
      have hrow : m.mem[cell]? = some m.mem[cell] := List.getElem?_eq_getElem hcl
      have hca2 := hca.trans hcz
      rw [hcz]
      repeat (first | refine wk1 ?_ | (apply WO.ci s117; (· exact lends)))
      by_cases hroom : (m.mem[cell].length : Int) < 4000
      rotate_left 1
      · have hful : m.mem[cell].length = 4000 := by have := memOk_room (machOk_mem hok) m.mem[cell] (List.getElem_mem _); omega
        rw [hdo0, show mmem m q late (⟨(atn : Int), regs, view, 0⟩ : Core) (⟨7, (r : Int), a, (b : Int), n⟩ : Step) = (m, 3) by rw [mmem, if_neg (by rw [hca, hi]; simp), if_pos ⟨by simp, by rw [hca2]; show ¬ ((m.mem.getD cell []).length : Int) < 4000; rw [mem_cell hcl]; exact hroom⟩]]
        rw [show ((m.mem[cell].length : Int) == 4000) = true by rw [hful]; rfl]
        repeat (first | refine wk1 ?_ | (apply WO.ci s117; (· exact lends)))
        refine W.ret (inlQ.many (.inr rfl) insr ?_)
        show WO _ _ _ _
        repeat (first | refine wk1 ?_ | (apply WO.ci s117; (· exact lends)))
        exact W.ret (endQ.many (.inr rfl) (Ans.cello rfl hh rfl rfl (root_same (q := q) R.hc hh hh R.hL rfl rfl hh hh rfl hh rfl rfl (own_row hh rfl rfl) (own_row hh rfl (by first | rfl | assumption)) (by simp [memD])) (Ans.sc rfl rfl Ans.nil)) rfl)
      rw [show ((m.mem[cell].length : Int) == 4000) = false by simp; omega]
      have hro : ¬ ((⟨7, (r : Int), a, (b : Int), n⟩ : Step).op ≠ 5 ∧ ¬ ((m.mem.getD (cellAt (⟨(atn : Int), regs, view, 0⟩ : Core) (⟨7, (r : Int), a, (b : Int), n⟩ : Step)).toNat []).length : Int) < 4000) := fun h => h.2 (by rw [hca2]; show ((m.mem.getD cell []).length : Int) < 4000; rw [mem_cell hcl]; exact hroom)
      repeat (first | refine wk1 ?_ | (apply WO.ci s117; (· exact lends)))
      have hdo : mstep m ⟨(q : Int), late⟩ = goOn ⟨m.codes, m.cores, (mstore m.mem view cell regs[b] ((7 : Int) == 7)).1, m.trace⟩ q (⟨(atn : Int), regs, (mstore m.mem view cell regs[b] ((7 : Int) == 7)).2, 0⟩ : Core) ((atn : Int) + 1) := by
        rw [hdo0, mmem, if_neg (by rw [hca, hi]; simp), if_neg hro, if_neg (by simp), if_neg (by simp), hca2]; simp [rg, hgb]
      refine WO.mvT (ds := memD m.mem) rfl abt (LA.ev rfl rfl rfl hh (LA.int rfl (LA.int rfl (LA.bool rfl LA.nil)))) (s156 hm.mem hcm24 hvl hc24) btt ?_
      repeat (first | refine wk1 ?_ | (apply WO.ci s117; (· exact lends)))
      refine W.ret (inlQ.many (.inr rfl) insr ?_)
      show WO _ _ _ _
      repeat (first | refine wk1 ?_ | (apply WO.ci s117; (· exact lends)))
      rw [hw]
      refine W.if rfl (fun hb => ?_) (fun hb => ?_)
      · have hge : (L.length : Int) ≤ (atn : Int) + 1 := of_decide_eq_true hb
        rw [hdo.trans (goOn_end R.hL hge)]
        repeat (first | refine wk1 ?_ | (apply WO.ci s117; (· exact lends)))
        exact W.ret (endQ.many (.inr rfl) (Ans.cello rfl hh rfl rfl (root_own (q := q) hh hh R.hL rfl rfl hh hh (by simp) hh (by simp) rfl hq (own_row hh rfl rfl) (own_row hh rfl (by simp)) (by simp [memD])) (Ans.sc rfl rfl Ans.nil)) rfl)
      · have hlt : ¬ (L.length : Int) ≤ (atn : Int) + 1 := of_decide_eq_false hb
        rw [hdo.trans (goOn_go R.hL hlt)]
        repeat (first | refine wk1 ?_ | (apply WO.ci s117; (· exact lends)))
        exact W.ret (endQ.many (.inr rfl) (Ans.cello rfl hh rfl rfl (root_own (q := q) hh hh R.hL rfl rfl hh hh (by simp) hh (by simp) rfl hq (own_row hh rfl rfl) (own_row hh rfl (by simp)) (by simp [memD])) (Ans.sc rfl rfl Ans.nil)) rfl)
    · obtain ⟨a, rfl⟩ := Int.eq_ofNat_of_zero_le ha
      have hal : a < regs.length := by have := haa.2; omega
      have hga : regs[a]? = some regs[a] := List.getElem?_eq_getElem hal
      have hdo0 : mstep m ⟨(q : Int), late⟩ = mmem m q late (⟨(atn : Int), regs, view, 0⟩ : Core) (⟨7, (r : Int), (a : Int), (b : Int), n⟩ : Step) := hstep
      have hca : cellAt (⟨(atn : Int), regs, view, 0⟩ : Core) (⟨7, (r : Int), (a : Int), (b : Int), n⟩ : Step) = IntKind.i64.wrap (n + regs[a]) := by simp [cellAt, hga]
      refine WO.icall (fn := a118) rfl rfl ?_
      simp only [a118]
      repeat (first | refine wk1 ?_ | (apply WO.ci s117; (· exact lends)))
      rw [show decide ((a : Int) ≥ 0) = true by simp]
      repeat (first | refine wk1 ?_ | (apply WO.ci s117; (· exact lends)))
      refine WO.cb s63 (LA.int rfl (LA.int rfl (LA.int rfl LA.nil))) ?_
      rcases hi : inn 0 23 (IntKind.i64.wrap (n + regs[a])) with _ | _
      · rw [hdo0, show mmem m q late (⟨(atn : Int), regs, view, 0⟩ : Core) (⟨7, (r : Int), (a : Int), (b : Int), n⟩ : Step) = rest m q (⟨(atn : Int), regs, view, 0⟩ : Core) 2 by rw [mmem, hca, if_pos hi]]
        rw [show (decide (0 ≤ IntKind.i64.wrap (n + regs[a])) && decide (IntKind.i64.wrap (n + regs[a]) ≤ 23)) = false from hi]
        repeat (first | refine wk1 ?_ | (apply WO.ci s117; (· exact lends)))
        refine W.ret (inlQ.many (.inr rfl) insr ?_)
        show WO _ _ _ _
        repeat (first | refine wk1 ?_ | (apply WO.ci s117; (· exact lends)))
        exact W.ret (endQ.many (.inr rfl) (Ans.cello rfl hh rfl rfl (root_own (q := q) hh hh R.hL rfl rfl hh hh (by simp) hh (by simp) rfl hq (own_row hh rfl rfl) (own_row hh rfl (by simp)) (by simp [memD])) (Ans.sc rfl rfl Ans.nil)) rfl)
      have hi2 : 0 ≤ IntKind.i64.wrap (n + regs[a]) ∧ IntKind.i64.wrap (n + regs[a]) ≤ 23 := by simpa [inn] using hi
      rw [show (decide (0 ≤ IntKind.i64.wrap (n + regs[a])) && decide (IntKind.i64.wrap (n + regs[a]) ≤ 23)) = true from hi]
      obtain ⟨cell, hcz⟩ := Int.eq_ofNat_of_zero_le hi2.1
      have hc24 : cell < 24 := by omega
      have hcl : cell < m.mem.length := by omega
      have hrow : m.mem[cell]? = some m.mem[cell] := List.getElem?_eq_getElem hcl
      have hca2 := hca.trans hcz
      rw [hcz]
      repeat (first | refine wk1 ?_ | (apply WO.ci s117; (· exact lends)))
      by_cases hroom : (m.mem[cell].length : Int) < 4000
      rotate_left 1
      · have hful : m.mem[cell].length = 4000 := by have := memOk_room (machOk_mem hok) m.mem[cell] (List.getElem_mem _); omega
        rw [hdo0, show mmem m q late (⟨(atn : Int), regs, view, 0⟩ : Core) (⟨7, (r : Int), (a : Int), (b : Int), n⟩ : Step) = (m, 3) by rw [mmem, if_neg (by rw [hca, hi]; simp), if_pos ⟨by simp, by rw [hca2]; show ¬ ((m.mem.getD cell []).length : Int) < 4000; rw [mem_cell hcl]; exact hroom⟩]]
        rw [show ((m.mem[cell].length : Int) == 4000) = true by rw [hful]; rfl]
        repeat (first | refine wk1 ?_ | (apply WO.ci s117; (· exact lends)))
        refine W.ret (inlQ.many (.inr rfl) insr ?_)
        show WO _ _ _ _
        repeat (first | refine wk1 ?_ | (apply WO.ci s117; (· exact lends)))
        exact W.ret (endQ.many (.inr rfl) (Ans.cello rfl hh rfl rfl (root_same (q := q) R.hc hh hh R.hL rfl rfl hh hh rfl hh rfl rfl (own_row hh rfl rfl) (own_row hh rfl (by first | rfl | assumption)) (by simp [memD])) (Ans.sc rfl rfl Ans.nil)) rfl)
      rw [show ((m.mem[cell].length : Int) == 4000) = false by simp; omega]
      have hro : ¬ ((⟨7, (r : Int), (a : Int), (b : Int), n⟩ : Step).op ≠ 5 ∧ ¬ ((m.mem.getD (cellAt (⟨(atn : Int), regs, view, 0⟩ : Core) (⟨7, (r : Int), (a : Int), (b : Int), n⟩ : Step)).toNat []).length : Int) < 4000) := fun h => h.2 (by rw [hca2]; show ((m.mem.getD cell []).length : Int) < 4000; rw [mem_cell hcl]; exact hroom)
      repeat (first | refine wk1 ?_ | (apply WO.ci s117; (· exact lends)))
      have hdo : mstep m ⟨(q : Int), late⟩ = goOn ⟨m.codes, m.cores, (mstore m.mem view cell regs[b] ((7 : Int) == 7)).1, m.trace⟩ q (⟨(atn : Int), regs, (mstore m.mem view cell regs[b] ((7 : Int) == 7)).2, 0⟩ : Core) ((atn : Int) + 1) := by
        rw [hdo0, mmem, if_neg (by rw [hca, hi]; simp), if_neg hro, if_neg (by simp), if_neg (by simp), hca2]; simp [rg, hgb]
      refine WO.mvT (ds := memD m.mem) rfl abt (LA.ev rfl rfl rfl hh (LA.int rfl (LA.int rfl (LA.bool rfl LA.nil)))) (s156 hm.mem hcm24 hvl hc24) btt ?_
      repeat (first | refine wk1 ?_ | (apply WO.ci s117; (· exact lends)))
      refine W.ret (inlQ.many (.inr rfl) insr ?_)
      show WO _ _ _ _
      repeat (first | refine wk1 ?_ | (apply WO.ci s117; (· exact lends)))
      rw [hw]
      refine W.if rfl (fun hb => ?_) (fun hb => ?_)
      · have hge : (L.length : Int) ≤ (atn : Int) + 1 := of_decide_eq_true hb
        rw [hdo.trans (goOn_end R.hL hge)]
        repeat (first | refine wk1 ?_ | (apply WO.ci s117; (· exact lends)))
        exact W.ret (endQ.many (.inr rfl) (Ans.cello rfl hh rfl rfl (root_own (q := q) hh hh R.hL rfl rfl hh hh (by simp) hh (by simp) rfl hq (own_row hh rfl rfl) (own_row hh rfl (by simp)) (by simp [memD])) (Ans.sc rfl rfl Ans.nil)) rfl)
      · have hlt : ¬ (L.length : Int) ≤ (atn : Int) + 1 := of_decide_eq_false hb
        rw [hdo.trans (goOn_go R.hL hlt)]
        repeat (first | refine wk1 ?_ | (apply WO.ci s117; (· exact lends)))
        exact W.ret (endQ.many (.inr rfl) (Ans.cello rfl hh rfl rfl (root_own (q := q) hh hh R.hL rfl rfl hh hh (by simp) hh (by simp) rfl hq (own_row hh rfl rfl) (own_row hh rfl (by simp)) (by simp [memD])) (Ans.sc rfl rfl Ans.nil)) rfl)
  · subst h
    repeat (first | refine wk1 ?_ | (apply WO.ci s117; (· exact lends)))
    have hdo0 : mstep m ⟨(q : Int), late⟩ = mmem m q late (⟨(atn : Int), regs, view, 0⟩ : Core) (⟨8, (r : Int), a, (b : Int), n⟩ : Step) := hstep
    have hca : cellAt (⟨(atn : Int), regs, view, 0⟩ : Core) (⟨8, (r : Int), a, (b : Int), n⟩ : Step) = n := by simp [cellAt]
    refine WO.icall (fn := a118) rfl rfl ?_
    simp only [a118]
    repeat (first | refine wk1 ?_ | (apply WO.ci s117; (· exact lends)))
    refine WO.cb s63 (LA.int rfl (LA.int rfl (LA.int rfl LA.nil))) ?_
    rcases hi : inn 0 23 (n) with _ | _
    · rw [hdo0, show mmem m q late (⟨(atn : Int), regs, view, 0⟩ : Core) (⟨8, (r : Int), a, (b : Int), n⟩ : Step) = rest m q (⟨(atn : Int), regs, view, 0⟩ : Core) 2 by rw [mmem, hca, if_pos hi]]
      rw [show (decide (0 ≤ n) && decide (n ≤ 23)) = false from hi]
      repeat (first | refine wk1 ?_ | (apply WO.ci s117; (· exact lends)))
      refine W.ret (inlQ.many (.inr rfl) insr ?_)
      show WO _ _ _ _
      repeat (first | refine wk1 ?_ | (apply WO.ci s117; (· exact lends)))
      exact W.ret (endQ.many (.inr rfl) (Ans.cello rfl hh rfl rfl (root_own (q := q) hh hh R.hL rfl rfl hh hh (by simp) hh (by simp) rfl hq (own_row hh rfl rfl) (own_row hh rfl (by simp)) (by simp [memD])) (Ans.sc rfl rfl Ans.nil)) rfl)
    have hi2 : 0 ≤ n ∧ n ≤ 23 := by simpa [inn] using hi
    rw [show (decide (0 ≤ n) && decide (n ≤ 23)) = true from hi]
    obtain ⟨cell, hcz⟩ := Int.eq_ofNat_of_zero_le hi2.1
    have hc24 : cell < 24 := by omega
    have hcl : cell < m.mem.length := by omega
    have hrow : m.mem[cell]? = some m.mem[cell] := List.getElem?_eq_getElem hcl
    have hca2 := hca.trans hcz
    rw [hcz]
    repeat (first | refine wk1 ?_ | (apply WO.ci s117; (· exact lends)))
    by_cases hroom : (m.mem[cell].length : Int) < 4000
    rotate_left 1
    · have hful : m.mem[cell].length = 4000 := by have := memOk_room (machOk_mem hok) m.mem[cell] (List.getElem_mem _); omega
      rw [hdo0, show mmem m q late (⟨(atn : Int), regs, view, 0⟩ : Core) (⟨8, (r : Int), a, (b : Int), n⟩ : Step) = (m, 3) by rw [mmem, if_neg (by rw [hca, hi]; simp), if_pos ⟨by simp, by rw [hca2]; show ¬ ((m.mem.getD cell []).length : Int) < 4000; rw [mem_cell hcl]; exact hroom⟩]]
      rw [show ((m.mem[cell].length : Int) == 4000) = true by rw [hful]; rfl]
      repeat (first | refine wk1 ?_ | (apply WO.ci s117; (· exact lends)))
      refine W.ret (inlQ.many (.inr rfl) insr ?_)
      show WO _ _ _ _
      repeat (first | refine wk1 ?_ | (apply WO.ci s117; (· exact lends)))
      exact W.ret (endQ.many (.inr rfl) (Ans.cello rfl hh rfl rfl (root_same (q := q) R.hc hh hh R.hL rfl rfl hh hh rfl hh rfl rfl (own_row hh rfl rfl) (own_row hh rfl (by first | rfl | assumption)) (by simp [memD])) (Ans.sc rfl rfl Ans.nil)) rfl)
    rw [show ((m.mem[cell].length : Int) == 4000) = false by simp; omega]
    have hro : ¬ ((⟨8, (r : Int), a, (b : Int), n⟩ : Step).op ≠ 5 ∧ ¬ ((m.mem.getD (cellAt (⟨(atn : Int), regs, view, 0⟩ : Core) (⟨8, (r : Int), a, (b : Int), n⟩ : Step)).toNat []).length : Int) < 4000) := fun h => h.2 (by rw [hca2]; show ((m.mem.getD cell []).length : Int) < 4000; rw [mem_cell hcl]; exact hroom)
    repeat (first | refine wk1 ?_ | (apply WO.ci s117; (· exact lends)))
    have hdo : mstep m ⟨(q : Int), late⟩ = goOn ⟨m.codes, m.cores, (mstore m.mem (mload m.mem view cell 0 true).2 cell regs[b] true).1, m.trace⟩ q (⟨(atn : Int), regs.set r (mload m.mem view cell 0 true).1, (mstore m.mem (mload m.mem view cell 0 true).2 cell regs[b] true).2, 0⟩ : Core) ((atn : Int) + 1) := by
      rw [hdo0, mmem, if_neg (by rw [hca, hi]; simp), if_neg hro, if_neg (by simp), if_pos rfl, hca2]; simp [rg, hgb]
    have hll := mload_len (hold := true) (machOk_mem hok) hvl hcl (ldAt_lt (late := 0) R.view hcl)
    refine WO.ct (s155 (fl := true) (fl' := true) (m := m.mem) (view := view) (cell := cell) (late := 0) (hold := true) hm.mem R.view hcl (by decide) (by decide)) (LA.abt rfl abt (LA.ev rfl rfl rfl hh (LA.int rfl (LA.int rfl (LA.bool rfl LA.nil))))) btt ?_
    repeat (first | refine wk1 ?_ | (apply WO.ci s117; (· exact lends)))
    refine WO.mvT (ds := memD m.mem) rfl abt (LA.ev rfl rfl rfl hh (LA.int rfl (LA.int rfl (LA.bool rfl LA.nil)))) (s156 hm.mem hcm24 hll hc24) btt ?_
    repeat (first | refine wk1 ?_ | (apply WO.ci s117; (· exact lends)))
    refine W.ret (inlQ.many (.inr rfl) insr ?_)
    show WO _ _ _ _
    repeat (first | refine wk1 ?_ | (apply WO.ci s117; (· exact lends)))
    rw [hw]
    refine W.if rfl (fun hb => ?_) (fun hb => ?_)
    · have hge : (L.length : Int) ≤ (atn : Int) + 1 := of_decide_eq_true hb
      rw [hdo.trans (goOn_end R.hL hge)]
      repeat (first | refine wk1 ?_ | (apply WO.ci s117; (· exact lends)))
      exact W.ret (endQ.many (.inr rfl) (Ans.cello rfl hh rfl rfl (root_own (q := q) hh hh R.hL rfl rfl hh hh (by simp) hh (by simp) rfl hq (own_row hh rfl rfl) (own_row hh rfl (by simp)) (by simp [memD])) (Ans.sc rfl rfl Ans.nil)) rfl)
    · have hlt : ¬ (L.length : Int) ≤ (atn : Int) + 1 := of_decide_eq_false hb
      rw [hdo.trans (goOn_go R.hL hlt)]
      repeat (first | refine wk1 ?_ | (apply WO.ci s117; (· exact lends)))
      exact W.ret (endQ.many (.inr rfl) (Ans.cello rfl hh rfl rfl (root_own (q := q) hh hh R.hL rfl rfl hh hh (by simp) hh (by simp) rfl hq (own_row hh rfl rfl) (own_row hh rfl (by simp)) (by simp [memD])) (Ans.sc rfl rfl Ans.nil)) rfl)
  · subst h
    obtain ⟨a, rfl⟩ := Int.eq_ofNat_of_zero_le (show 0 ≤ a by simpa using haa.1)
    have hal : a < regs.length := by have := haa.2; omega
    have hga : regs[a]? = some regs[a] := List.getElem?_eq_getElem hal
    have kt := hm.trace
    by_cases htr : m.trace.length = 4000
    · have hdo : mstep m ⟨(q : Int), late⟩ = (m, 3) := by rw [hstep]; simp [mdo, htr]
      rw [hdo]
      repeat (first | refine wk1 ?_ | (apply WO.ci s117; (· exact lends)))
      rw [htr]
      repeat (first | refine wk1 ?_ | (apply WO.ci s117; (· exact lends)))
      exact W.ret (endQ.many (.inr rfl) (Ans.cello rfl hh rfl rfl (root_same (q := q) R.hc hh hh R.hL rfl rfl hh hh rfl hh rfl rfl (own_row hh rfl rfl) (own_row hh rfl (by first | rfl | assumption)) (by simp [memD])) (Ans.sc rfl rfl Ans.nil)) rfl)
    have htr2 : ((m.trace.length : Int) == 4000) = false := by simpa using fun h : (m.trace.length : Int) = 4000 => htr (by omega)
    have hdo : mstep m ⟨(q : Int), late⟩ = goOn ⟨m.codes, m.cores, m.mem, m.trace ++ [⟨(q : Int), regs[a]⟩]⟩ q (⟨(atn : Int), regs, view, 0⟩ : Core) ((atn : Int) + 1) := by rw [hstep]; simp [mdo, htr, rg, hga]
    repeat (first | refine wk1 ?_ | (apply WO.ci s117; (· exact lends)))
    rw [htr2]
    repeat (first | refine wk1 ?_ | (apply WO.ci s117; (· exact lends)))
    refine WO.ap1r (⟨(q : Int), regs[a]⟩ : Note) rfl hh rfl rfl (by omega) rfl hh abt ?_
    repeat (first | refine wk1 ?_ | (apply WO.ci s117; (· exact lends)))
    rw [hw]
    refine W.if rfl (fun hb => ?_) (fun hb => ?_)
    · have hge : (L.length : Int) ≤ (atn : Int) + 1 := of_decide_eq_true hb
      rw [hdo.trans (goOn_end R.hL hge)]
      repeat (first | refine wk1 ?_ | (apply WO.ci s117; (· exact lends)))
      exact W.ret (endQ.many (.inr rfl) (Ans.cello rfl hh rfl rfl (root_own (q := q) hh hh R.hL rfl rfl hh hh (by simp) hh (by simp) rfl hq (own_row hh rfl rfl) (own_row hh rfl (by simp)) (by simp [memD])) (Ans.sc rfl rfl Ans.nil)) rfl)
    · have hlt : ¬ (L.length : Int) ≤ (atn : Int) + 1 := of_decide_eq_false hb
      rw [hdo.trans (goOn_go R.hL hlt)]
      repeat (first | refine wk1 ?_ | (apply WO.ci s117; (· exact lends)))
      exact W.ret (endQ.many (.inr rfl) (Ans.cello rfl hh rfl rfl (root_own (q := q) hh hh R.hL rfl rfl hh hh (by simp) hh (by simp) rfl hq (own_row hh rfl rfl) (own_row hh rfl (by simp)) (by simp [memD])) (Ans.sc rfl rfl Ans.nil)) rfl)
  · subst h
    have hdo : mstep m ⟨(q : Int), late⟩ = goOn m q (⟨(atn : Int), regs, view, 0⟩ : Core) n := hstep
    repeat (first | refine wk1 ?_ | (apply WO.ci s117; (· exact lends)))
    refine W.if rfl (fun hb => ?_) (fun hb => ?_)
    · have hge : (L.length : Int) ≤ n := of_decide_eq_true hb
      rw [hdo.trans (goOn_end R.hL hge)]
      repeat (first | refine wk1 ?_ | (apply WO.ci s117; (· exact lends)))
      exact W.ret (endQ.many (.inr rfl) (Ans.cello rfl hh rfl rfl (root_own (q := q) hh hh R.hL rfl rfl hh hh (by simp) hh (by simp) rfl hq (own_row hh rfl rfl) (own_row hh rfl (by simp)) (by simp [memD])) (Ans.sc rfl rfl Ans.nil)) rfl)
    · have hlt : ¬ (L.length : Int) ≤ n := of_decide_eq_false hb
      rw [hdo.trans (goOn_go R.hL hlt)]
      repeat (first | refine wk1 ?_ | (apply WO.ci s117; (· exact lends)))
      exact W.ret (endQ.many (.inr rfl) (Ans.cello rfl hh rfl rfl (root_own (q := q) hh hh R.hL rfl rfl hh hh (by simp) hh (by simp) rfl hq (own_row hh rfl rfl) (own_row hh rfl (by simp)) (by simp [memD])) (Ans.sc rfl rfl Ans.nil)) rfl)
  · subst h
    obtain ⟨a, rfl⟩ := Int.eq_ofNat_of_zero_le (show 0 ≤ a by simpa using haa.1)
    have hal : a < regs.length := by have := haa.2; omega
    have hga : regs[a]? = some regs[a] := List.getElem?_eq_getElem hal
    by_cases hz : regs[a] = 0
    · have hdo : mstep m ⟨(q : Int), late⟩ = goOn m q (⟨(atn : Int), regs, view, 0⟩ : Core) n := by rw [hstep]; simp [mdo, rg, hga, hz]
      repeat (first | refine wk1 ?_ | (apply WO.ci s117; (· exact lends)))
      rw [show (regs[a] == 0) = true by simpa using hz]
      repeat (first | refine wk1 ?_ | (apply WO.ci s117; (· exact lends)))
      refine W.if rfl (fun hb => ?_) (fun hb => ?_)
      · have hge : (L.length : Int) ≤ n := of_decide_eq_true hb
        rw [hdo.trans (goOn_end R.hL hge)]
        repeat (first | refine wk1 ?_ | (apply WO.ci s117; (· exact lends)))
        exact W.ret (endQ.many (.inr rfl) (Ans.cello rfl hh rfl rfl (root_own (q := q) hh hh R.hL rfl rfl hh hh (by simp) hh (by simp) rfl hq (own_row hh rfl rfl) (own_row hh rfl (by simp)) (by simp [memD])) (Ans.sc rfl rfl Ans.nil)) rfl)
      · have hlt : ¬ (L.length : Int) ≤ n := of_decide_eq_false hb
        rw [hdo.trans (goOn_go R.hL hlt)]
        repeat (first | refine wk1 ?_ | (apply WO.ci s117; (· exact lends)))
        exact W.ret (endQ.many (.inr rfl) (Ans.cello rfl hh rfl rfl (root_own (q := q) hh hh R.hL rfl rfl hh hh (by simp) hh (by simp) rfl hq (own_row hh rfl rfl) (own_row hh rfl (by simp)) (by simp [memD])) (Ans.sc rfl rfl Ans.nil)) rfl)
    · have hdo : mstep m ⟨(q : Int), late⟩ = goOn m q (⟨(atn : Int), regs, view, 0⟩ : Core) ((atn : Int) + 1) := by rw [hstep]; simp [mdo, rg, hga, hz]
      repeat (first | refine wk1 ?_ | (apply WO.ci s117; (· exact lends)))
      rw [show (regs[a] == 0) = false by simpa using hz]
      repeat (first | refine wk1 ?_ | (apply WO.ci s117; (· exact lends)))
      rw [hw]
      refine W.if rfl (fun hb => ?_) (fun hb => ?_)
      · have hge : (L.length : Int) ≤ (atn : Int) + 1 := of_decide_eq_true hb
        rw [hdo.trans (goOn_end R.hL hge)]
        repeat (first | refine wk1 ?_ | (apply WO.ci s117; (· exact lends)))
        exact W.ret (endQ.many (.inr rfl) (Ans.cello rfl hh rfl rfl (root_own (q := q) hh hh R.hL rfl rfl hh hh (by simp) hh (by simp) rfl hq (own_row hh rfl rfl) (own_row hh rfl (by simp)) (by simp [memD])) (Ans.sc rfl rfl Ans.nil)) rfl)
      · have hlt : ¬ (L.length : Int) ≤ (atn : Int) + 1 := of_decide_eq_false hb
        rw [hdo.trans (goOn_go R.hL hlt)]
        repeat (first | refine wk1 ?_ | (apply WO.ci s117; (· exact lends)))
        exact W.ret (endQ.many (.inr rfl) (Ans.cello rfl hh rfl rfl (root_own (q := q) hh hh R.hL rfl rfl hh hh (by simp) hh (by simp) rfl hq (own_row hh rfl rfl) (own_row hh rfl (by simp)) (by simp [memD])) (Ans.sc rfl rfl Ans.nil)) rfl)
  · subst h
    rw [show mstep m ⟨(q : Int), late⟩ = rest m q (⟨(atn : Int), regs, view, 0⟩ : Core) 1 from hstep]
    repeat (first | refine wk1 ?_ | (apply WO.ci s117; (· exact lends)))
    exact W.ret (endQ.many (.inr rfl) (Ans.cello rfl hh rfl rfl (root_own (q := q) hh hh R.hL rfl rfl hh hh (by simp) hh (by simp) rfl hq (own_row hh rfl rfl) (own_row hh rfl (by simp)) (by simp [memD])) (Ans.sc rfl rfl Ans.nil)) rfl)
  · subst h
    rw [show mstep m ⟨(q : Int), late⟩ = rest m q (⟨(atn : Int), regs, view, 0⟩ : Core) 2 from hstep]
    repeat (first | refine wk1 ?_ | (apply WO.ci s117; (· exact lends)))
    exact W.ret (endQ.many (.inr rfl) (Ans.cello rfl hh rfl rfl (root_own (q := q) hh hh R.hL rfl rfl hh hh (by simp) hh (by simp) rfl hq (own_row hh rfl rfl) (own_row hh rfl (by simp)) (by simp [memD])) (Ans.sc rfl rfl Ans.nil)) rfl)
  · omega
end Go.Proofs.Ytgodaiiegcdpcaa.Abs.MC
end
