/- The program's functions, told in that language, and what each of them answers; each theorem bears its own conditions. -/
import Derived.Test.YtgodaiiegcdpcaaB3
section
set_option linter.unusedVariables false
set_option linter.unusedSimpArgs false
namespace Go.Proofs.Ytgodaiiegcdpcaa.Abs.MC
open Go.Proofs.Ytgodaiiegcdpcaa.Abs
set_option linter.unusedSimpArgs false
set_option linter.unusedVariables false
set_option maxRecDepth 10000
set_option maxHeartbeats 16000000 in
theorem s48 {m : Mach} {x : Pick} (hm : m.sm) (hok : machOk m = true) (hl1 : -(2 ^ 63) ≤ x.late) (hl2 : x.late < 2 ^ 63) : 
    Runs (gam code) (.fn 48 [.c (.ptr (0, 0, 0, 0) [] 0), .agg (imL true (Enc.d x))] [owL m.d] (.c (.int .i64 (mstep m x).2)) [owL (mstep m x).1.d]) := by
  obtain ⟨who, late⟩ := x
  suffices h : ∃ v' ds, (v' = .c (.int .i64 (mstep m ⟨who, late⟩).2) ∧ ds = (mstep m ⟨who, late⟩).1.d) ∧ Runs (gam code) (.fn 48 [.c (.ptr (0, 0, 0, 0) [] 0), .agg (imL true (Enc.d (⟨who, late⟩ : Pick)))] [owL m.d] v' [owL ds]) by
    obtain ⟨_, _, ⟨rfl, rfl⟩, h2⟩ := h
    exact h2
  have k3 := hm.cores
  refine W.root (fn := a48) rfl rfl ?_
  rw [start_im (by repeat (first | exact Pls.nil | refine Pls.c rfl ?_ | refine Pls.agg ?_))]
  simp only [a48]
  dsimp only [Enc.d, imL, D.im]
  repeat (first | refine wk1 ?_ | (apply WO.cb (s103 ?_); (· exact lends); rotate_left 1; (· assumption)) | (apply WO.ci s104; (· exact lends)))
  have hstep : mstep m ⟨who, late⟩ = if inn 0 ((m.cores.length : Int) - 1) who = false then (m, 2) else
    if (m.cores.getD who.toNat ⟨0, [], [], 0⟩).state ≠ 0 then (m, 3) else mdo m who.toNat late (m.cores.getD who.toNat ⟨0, [], [], 0⟩) ((m.codes.getD who.toNat []).getD (m.cores.getD who.toNat ⟨0, [], [], 0⟩).at'.toNat default) := rfl
  refine W.if rfl (fun hb => ?_) (fun hb => ?_)
  · have hb' := not_t hb
    rw [hstep, if_pos hb']
    repeat (first | refine wk1 ?_ | (apply WO.cb (s103 ?_); (· exact lends); rotate_left 1; (· assumption)) | (apply WO.ci s104; (· exact lends)))
    exact W.ret ⟨.inr rfl, _, _, _, _, _, Ans.sc rfl rfl Ans.nil, hh, Owns.ow _ _, rfl, rfl⟩
  have hb' := not_f hb
  rw [if_neg (by rw [hb']; simp)] at hstep
  clear hb
  have hin : 0 ≤ who ∧ who ≤ (m.cores.length : Int) - 1 := by simpa [inn] using hb'
  obtain ⟨q, rfl⟩ := Int.eq_ofNat_of_zero_le hin.1
  have hq : q < m.cores.length := by omega
  obtain ⟨c, L, s, R⟩ := machOk_ready hok hq
  rw [show ((q : Int)).toNat = q from rfl, getD_some R.hc, getD_some R.hL, getD_some R.hs] at hstep
  have hqc : q < m.codes.length := (List.getElem?_eq_some_iff.1 R.hL).1
  obtain ⟨atn, hat⟩ := Int.eq_ofNat_of_zero_le R.at0
  have hLs := R.hs
  have hatl : atn < L.length := by rw [hat] at hLs; exact (List.getElem?_eq_some_iff.1 hLs).1
  have hLl : L.length < 2 ^ 40 := hm.code L (List.mem_of_getElem? R.hL)
  obtain ⟨cat, regs, view, st⟩ := c
  have hrl : regs.length = 8 := R.regs
  have hvo := viewOk_get R.view
  have hvl : view.length = 24 := by rw [hvo.1]; exact R.mem
  refine W.det4 (e := (0, 0, 0, 0)) 1 hh rfl rfl ?_
  rw [show owL (List.flatMap Enc.d m.cores) = seg m.cores q (owL (Enc.d (⟨cat, regs, view, st⟩ : Core))) from seg_co R.hc]
  refine W.detS4 (e := (3, 0, 0, 0)) 1 (q := q) hh rfl hq rfl rfl rfl rfl ?_
  refine W.detS4 (e := (3, 0, 0, 0)) 2 (q := q) hh rfl hq rfl rfl rfl rfl ?_
  refine W.det4 (e := (0, 0, 0, 0)) 0 hh rfl rfl ?_
  rw [show owL (List.flatMap Enc.d m.codes) = seg m.codes q (owL (Enc.d L)) from seg_co R.hL]
  refine W.detS1 (e := (6, 0, 0, 0)) (q := q) hh rfl hqc rfl rfl rfl ?_
  refine W.det4 (e := (0, 0, 0, 0)) 3 hh rfl rfl ?_
  dsimp only at hat
  subst hat
  repeat (first | refine wk1 ?_ | (apply WO.cb (s103 ?_); (· exact lends); rotate_left 1; (· assumption)) | (apply WO.ci s104; (· exact lends)))
  have hself : m = ⟨m.codes, m.cores.set q ⟨(atn : Int), regs, view, st⟩, m.mem, m.trace⟩ := by rw [set_self R.hc]
  refine WO.gs rfl (fun hb => ?_) (fun hb => ?_)
  · have hst : st ≠ 0 := by simpa using hb
    rw [if_pos hst] at hstep
    rw [hstep]
    repeat (first | refine wk1 ?_ | (apply WO.cb (s103 ?_); (· exact lends); rotate_left 1; (· assumption)) | (apply WO.ci s104; (· exact lends)))
    exact W.ret ⟨.inr rfl, _, _, _, _, _, Ans.sc rfl rfl Ans.nil, hh, root_own (q := q) hh hh R.hL rfl rfl hh hh rfl hh rfl rfl hq (.ow _) (own_row hh rfl rfl) (by simp), rfl, congrArg Mach.d hself.symm⟩
  have hst : st = 0 := by simpa using hb
  subst hst
  rw [if_neg (by simp)] at hstep
  obtain ⟨op, r, a, b, n⟩ := s
  obtain ⟨r, rfl⟩ := Int.eq_ofNat_of_zero_le R.r.1
  obtain ⟨b, rfl⟩ := Int.eq_ofNat_of_zero_le R.b.1
  have hrr : r < regs.length := by have := R.r.2; dsimp only at this; omega
  have hbb : b < regs.length := by have := R.b.2; dsimp only at this; omega
  have hgb : regs[b]? = some regs[b] := List.getElem?_eq_getElem hbb
  have hw : IntKind.i64.wrap ((atn : Int) + 1) = (atn : Int) + 1 := wrap_in (by omega)
  have hop := R.op
  have haa := R.a
  have hcm24 := R.mem
  dsimp only at hop haa
  rcases ops13 op with h | h | h | h | h | h | h | h | h | h | h | h | h | h
  · subst h
    have hdo : mstep m ⟨(q : Int), late⟩ = goOn m q (⟨(atn : Int), regs.set r n, view, 0⟩ : Core) ((atn : Int) + 1) := hstep
    repeat (first | refine wk1 ?_ | (apply WO.cb (s103 ?_); (· exact lends); rotate_left 1; (· assumption)) | (apply WO.ci s104; (· exact lends)))
    rw [hw]
    refine W.if rfl (fun hb => ?_) (fun hb => ?_)
    · have hge : (L.length : Int) ≤ (atn : Int) + 1 := of_decide_eq_true hb
      rw [hdo.trans (goOn_end R.hL hge)]
      repeat (first | refine wk1 ?_ | (apply WO.cb (s103 ?_); (· exact lends); rotate_left 1; (· assumption)) | (apply WO.ci s104; (· exact lends)))
      exact W.ret ⟨.inr rfl, _, _, _, _, _, Ans.sc rfl rfl Ans.nil, hh, root_own (q := q) hh hh R.hL rfl rfl hh hh (by simp) hh (by simp) rfl hq (.ow _) (own_row hh rfl (by simp)) (by simp), rfl, rfl⟩
    · have hlt : ¬ (L.length : Int) ≤ (atn : Int) + 1 := of_decide_eq_false hb
      rw [hdo.trans (goOn_go R.hL hlt)]
      repeat (first | refine wk1 ?_ | (apply WO.cb (s103 ?_); (· exact lends); rotate_left 1; (· assumption)) | (apply WO.ci s104; (· exact lends)))
      exact W.ret ⟨.inr rfl, _, _, _, _, _, Ans.sc rfl rfl Ans.nil, hh, root_own (q := q) hh hh R.hL rfl rfl hh hh (by simp) hh (by simp) rfl hq (.ow _) (own_row hh rfl (by simp)) (by simp), rfl, rfl⟩
  · subst h
    obtain ⟨a, rfl⟩ := Int.eq_ofNat_of_zero_le (show 0 ≤ a by simpa using haa.1)
    have hal : a < regs.length := by have := haa.2; omega
    have hga : regs[a]? = some regs[a] := List.getElem?_eq_getElem hal
    have hdo : mstep m ⟨(q : Int), late⟩ = goOn m q (⟨(atn : Int), regs.set r (IntKind.i64.wrap (regs[a] + regs[b])), view, 0⟩ : Core) ((atn : Int) + 1) := by rw [hstep]; simp [mdo, rset, rg, wr64, hga, hgb]
    repeat (first | refine wk1 ?_ | (apply WO.cb (s103 ?_); (· exact lends); rotate_left 1; (· assumption)) | (apply WO.ci s104; (· exact lends)))
    rw [hw]
    refine W.if rfl (fun hb => ?_) (fun hb => ?_)
    · have hge : (L.length : Int) ≤ (atn : Int) + 1 := of_decide_eq_true hb
      rw [hdo.trans (goOn_end R.hL hge)]
      repeat (first | refine wk1 ?_ | (apply WO.cb (s103 ?_); (· exact lends); rotate_left 1; (· assumption)) | (apply WO.ci s104; (· exact lends)))
      exact W.ret ⟨.inr rfl, _, _, _, _, _, Ans.sc rfl rfl Ans.nil, hh, root_own (q := q) hh hh R.hL rfl rfl hh hh (by simp) hh (by simp) rfl hq (.ow _) (own_row hh rfl (by simp)) (by simp), rfl, rfl⟩
    · have hlt : ¬ (L.length : Int) ≤ (atn : Int) + 1 := of_decide_eq_false hb
      rw [hdo.trans (goOn_go R.hL hlt)]
      repeat (first | refine wk1 ?_ | (apply WO.cb (s103 ?_); (· exact lends); rotate_left 1; (· assumption)) | (apply WO.ci s104; (· exact lends)))
      exact W.ret ⟨.inr rfl, _, _, _, _, _, Ans.sc rfl rfl Ans.nil, hh, root_own (q := q) hh hh R.hL rfl rfl hh hh (by simp) hh (by simp) rfl hq (.ow _) (own_row hh rfl (by simp)) (by simp), rfl, rfl⟩
  · subst h
    obtain ⟨a, rfl⟩ := Int.eq_ofNat_of_zero_le (show 0 ≤ a by simpa using haa.1)
    have hal : a < regs.length := by have := haa.2; omega
    have hga : regs[a]? = some regs[a] := List.getElem?_eq_getElem hal
    have hdo : mstep m ⟨(q : Int), late⟩ = goOn m q (⟨(atn : Int), regs.set r (IntKind.i64.wrap (regs[a] - regs[b])), view, 0⟩ : Core) ((atn : Int) + 1) := by rw [hstep]; simp [mdo, rset, rg, wr64, hga, hgb]
    repeat (first | refine wk1 ?_ | (apply WO.cb (s103 ?_); (· exact lends); rotate_left 1; (· assumption)) | (apply WO.ci s104; (· exact lends)))
    rw [hw]
    refine W.if rfl (fun hb => ?_) (fun hb => ?_)
    · have hge : (L.length : Int) ≤ (atn : Int) + 1 := of_decide_eq_true hb
      rw [hdo.trans (goOn_end R.hL hge)]
      repeat (first | refine wk1 ?_ | (apply WO.cb (s103 ?_); (· exact lends); rotate_left 1; (· assumption)) | (apply WO.ci s104; (· exact lends)))
      exact W.ret ⟨.inr rfl, _, _, _, _, _, Ans.sc rfl rfl Ans.nil, hh, root_own (q := q) hh hh R.hL rfl rfl hh hh (by simp) hh (by simp) rfl hq (.ow _) (own_row hh rfl (by simp)) (by simp), rfl, rfl⟩
    · have hlt : ¬ (L.length : Int) ≤ (atn : Int) + 1 := of_decide_eq_false hb
      rw [hdo.trans (goOn_go R.hL hlt)]
      repeat (first | refine wk1 ?_ | (apply WO.cb (s103 ?_); (· exact lends); rotate_left 1; (· assumption)) | (apply WO.ci s104; (· exact lends)))
      exact W.ret ⟨.inr rfl, _, _, _, _, _, Ans.sc rfl rfl Ans.nil, hh, root_own (q := q) hh hh R.hL rfl rfl hh hh (by simp) hh (by simp) rfl hq (.ow _) (own_row hh rfl (by simp)) (by simp), rfl, rfl⟩
  · subst h
    obtain ⟨a, rfl⟩ := Int.eq_ofNat_of_zero_le (show 0 ≤ a by simpa using haa.1)
    have hal : a < regs.length := by have := haa.2; omega
    have hga : regs[a]? = some regs[a] := List.getElem?_eq_getElem hal
    have hdo : mstep m ⟨(q : Int), late⟩ = goOn m q (⟨(atn : Int), regs.set r (bit (decide (regs[a] < regs[b]))), view, 0⟩ : Core) ((atn : Int) + 1) := by rw [hstep]; simp [mdo, rset, rg, hga, hgb]
    repeat (first | refine wk1 ?_ | (apply WO.cb (s103 ?_); (· exact lends); rotate_left 1; (· assumption)) | (apply WO.ci s104; (· exact lends)))
    rw [hw]
    refine W.if rfl (fun hb => ?_) (fun hb => ?_)
    · have hge : (L.length : Int) ≤ (atn : Int) + 1 := of_decide_eq_true hb
      rw [hdo.trans (goOn_end R.hL hge)]
      repeat (first | refine wk1 ?_ | (apply WO.cb (s103 ?_); (· exact lends); rotate_left 1; (· assumption)) | (apply WO.ci s104; (· exact lends)))
      exact W.ret ⟨.inr rfl, _, _, _, _, _, Ans.sc rfl rfl Ans.nil, hh, root_own (q := q) hh hh R.hL rfl rfl hh hh (by simp) hh (by simp) rfl hq (.ow _) (own_row hh rfl (by simp)) (by simp), rfl, rfl⟩
    · have hlt : ¬ (L.length : Int) ≤ (atn : Int) + 1 := of_decide_eq_false hb
      rw [hdo.trans (goOn_go R.hL hlt)]
      repeat (first | refine wk1 ?_ | (apply WO.cb (s103 ?_); (· exact lends); rotate_left 1; (· assumption)) | (apply WO.ci s104; (· exact lends)))
      exact W.ret ⟨.inr rfl, _, _, _, _, _, Ans.sc rfl rfl Ans.nil, hh, root_own (q := q) hh hh R.hL rfl rfl hh hh (by simp) hh (by simp) rfl hq (.ow _) (own_row hh rfl (by simp)) (by simp), rfl, rfl⟩
  · subst h
    have hdo0 : mstep m ⟨(q : Int), late⟩ = mmem m q late (⟨(atn : Int), regs, view, 0⟩ : Core) (⟨5, (r : Int), a, (b : Int), n⟩ : Step) := hstep
    repeat (first | refine wk1 ?_ | (apply WO.cb (s103 ?_); (· exact lends); rotate_left 1; (· assumption)) | (apply WO.ci s104; (· exact lends)))
    refine WO.ct (s105 (fl := true) (fl' := true) (L := m.cores) (i := q) (c := (⟨(atn : Int), regs, view, 0⟩ : Core)) (s := (⟨5, (r : Int), a, (b : Int), n⟩ : Step)) R.hc hrl (by dsimp only; omega)) (LA.ptrO (off := q * 4) (Eq.trans (b := V.c (.ptr (3, 0, 0, 0) [] (0 + q * 4))) rfl (by rw [Nat.zero_add])) hh (seg_same R.hc (core_owns hh rfl hh rfl (by simp))) (LA.agg rfl LA.nil)) btt ?_
    rcases hi : inn 0 23 (cellAt (⟨(atn : Int), regs, view, 0⟩ : Core) (⟨5, (r : Int), a, (b : Int), n⟩ : Step)) with _ | _
    · rw [hdo0, show mmem m q late (⟨(atn : Int), regs, view, 0⟩ : Core) (⟨5, (r : Int), a, (b : Int), n⟩ : Step) = rest m q (⟨(atn : Int), regs, view, 0⟩ : Core) 2 by rw [mmem, if_pos hi]]
      repeat (first | refine wk1 ?_ | (apply WO.cb (s103 ?_); (· exact lends); rotate_left 1; (· assumption)) | (apply WO.ci s104; (· exact lends)))
      exact W.ret ⟨.inr rfl, _, _, _, _, _, Ans.sc rfl rfl Ans.nil, hh, root_own (q := q) hh hh R.hL rfl rfl hh hh (by simp) hh (by simp) rfl hq (.ow _) (own_row hh rfl (by simp)) (by simp), rfl, rfl⟩
    have hi2 : 0 ≤ cellAt (⟨(atn : Int), regs, view, 0⟩ : Core) (⟨5, (r : Int), a, (b : Int), n⟩ : Step) ∧ cellAt (⟨(atn : Int), regs, view, 0⟩ : Core) (⟨5, (r : Int), a, (b : Int), n⟩ : Step) ≤ 23 := by simpa [inn] using hi
    obtain ⟨cell, hcz⟩ := Int.eq_ofNat_of_zero_le hi2.1
    have hc24 : cell < 24 := by omega
    have hcl : cell < m.mem.length := by omega
    rw [hcz]
    repeat (first | refine wk1 ?_ | (apply WO.cb (s103 ?_); (· exact lends); rotate_left 1; (· assumption)) | (apply WO.ci s104; (· exact lends)))
    refine WO.icall (fn := a107) rfl rfl ?_
    simp only [a107]
    have hdo : mstep m ⟨(q : Int), late⟩ = goOn m q (⟨(atn : Int), regs.set r (mload m.mem view cell late false).1, (mload m.mem view cell late false).2, 0⟩ : Core) ((atn : Int) + 1) := by
      rw [hdo0, mmem, if_neg (by rw [hi]; simp), if_neg (by simp), if_pos rfl, hcz]; rfl
    repeat (first | refine wk1 ?_ | (apply WO.cb (s103 ?_); (· exact lends); rotate_left 1; (· assumption)) | (apply WO.ci s104; (· exact lends)))
    refine WO.ct (s145 (fl := true) (fl' := true) (ds := m.d) (o := 2) (m := m.mem) (view := view) (cell := cell) (late := late) (hold := false) rfl hm.mem R.view hcl (by simpa using hl1) (by simpa using hl2)) (LA.ptrO rfl hh (root_same (q := q) R.hc hh hh R.hL rfl rfl hh hh rfl hh rfl rfl (.ow _) (own_row hh rfl rfl) (by simp)) (LA.ev rfl rfl rfl hh (LA.int rfl (LA.int rfl (LA.bool rfl LA.nil))))) btt ?_
    repeat (first | refine wk1 ?_ | (apply WO.cb (s103 ?_); (· exact lends); rotate_left 1; (· assumption)) | (apply WO.ci s104; (· exact lends)))
    refine ⟨.inl rfl, [], rfl, rfl, ?_⟩
    show WO _ _ _ _
    repeat (first | refine wk1 ?_ | (apply WO.cb (s103 ?_); (· exact lends); rotate_left 1; (· assumption)) | (apply WO.ci s104; (· exact lends)))
    rw [hw]
    refine W.if rfl (fun hb => ?_) (fun hb => ?_)
    · have hge : (L.length : Int) ≤ (atn : Int) + 1 := of_decide_eq_true hb
      rw [hdo.trans (goOn_end R.hL hge)]
      repeat (first | refine wk1 ?_ | (apply WO.cb (s103 ?_); (· exact lends); rotate_left 1; (· assumption)) | (apply WO.ci s104; (· exact lends)))
      exact W.ret ⟨.inr rfl, _, _, _, _, _, Ans.sc rfl rfl Ans.nil, hh, root_own (q := q) hh hh R.hL rfl rfl hh hh (by simp) hh (by simp) rfl hq (.ow _) (own_row hh rfl (by simp)) (by simp), rfl, rfl⟩
    · have hlt : ¬ (L.length : Int) ≤ (atn : Int) + 1 := of_decide_eq_false hb
      rw [hdo.trans (goOn_go R.hL hlt)]
      repeat (first | refine wk1 ?_ | (apply WO.cb (s103 ?_); (· exact lends); rotate_left 1; (· assumption)) | (apply WO.ci s104; (· exact lends)))
      exact W.ret ⟨.inr rfl, _, _, _, _, _, Ans.sc rfl rfl Ans.nil, hh, root_own (q := q) hh hh R.hL rfl rfl hh hh (by simp) hh (by simp) rfl hq (.ow _) (own_row hh rfl (by simp)) (by simp), rfl, rfl⟩
  · subst h
    have hdo0 : mstep m ⟨(q : Int), late⟩ = mmem m q late (⟨(atn : Int), regs, view, 0⟩ : Core) (⟨6, (r : Int), a, (b : Int), n⟩ : Step) := hstep
    repeat (first | refine wk1 ?_ | (apply WO.cb (s103 ?_); (· exact lends); rotate_left 1; (· assumption)) | (apply WO.ci s104; (· exact lends)))
    refine WO.ct (s105 (fl := true) (fl' := true) (L := m.cores) (i := q) (c := (⟨(atn : Int), regs, view, 0⟩ : Core)) (s := (⟨6, (r : Int), a, (b : Int), n⟩ : Step)) R.hc hrl (by dsimp only; omega)) (LA.ptrO (off := q * 4) (Eq.trans (b := V.c (.ptr (3, 0, 0, 0) [] (0 + q * 4))) rfl (by rw [Nat.zero_add])) hh (seg_same R.hc (core_owns hh rfl hh rfl (by simp))) (LA.agg rfl LA.nil)) btt ?_
    rcases hi : inn 0 23 (cellAt (⟨(atn : Int), regs, view, 0⟩ : Core) (⟨6, (r : Int), a, (b : Int), n⟩ : Step)) with _ | _
    · rw [hdo0, show mmem m q late (⟨(atn : Int), regs, view, 0⟩ : Core) (⟨6, (r : Int), a, (b : Int), n⟩ : Step) = rest m q (⟨(atn : Int), regs, view, 0⟩ : Core) 2 by rw [mmem, if_pos hi]]
      repeat (first | refine wk1 ?_ | (apply WO.cb (s103 ?_); (· exact lends); rotate_left 1; (· assumption)) | (apply WO.ci s104; (· exact lends)))
      exact W.ret ⟨.inr rfl, _, _, _, _, _, Ans.sc rfl rfl Ans.nil, hh, root_own (q := q) hh hh R.hL rfl rfl hh hh (by simp) hh (by simp) rfl hq (.ow _) (own_row hh rfl (by simp)) (by simp), rfl, rfl⟩
    have hi2 : 0 ≤ cellAt (⟨(atn : Int), regs, view, 0⟩ : Core) (⟨6, (r : Int), a, (b : Int), n⟩ : Step) ∧ cellAt (⟨(atn : Int), regs, view, 0⟩ : Core) (⟨6, (r : Int), a, (b : Int), n⟩ : Step) ≤ 23 := by simpa [inn] using hi
    obtain ⟨cell, hcz⟩ := Int.eq_ofNat_of_zero_le hi2.1
    have hc24 : cell < 24 := by omega
    have hcl : cell < m.mem.length := by omega
    rw [hcz]
    repeat (first | refine wk1 ?_ | (apply WO.cb (s103 ?_); (· exact lends); rotate_left 1; (· assumption)) | (apply WO.ci s104; (· exact lends)))
    refine WO.cb (s106 (fl := true) (ds := m.d) (o := 2) (m := m.mem) (i := cell) rfl hcl) (LA.ptrO rfl hh (root_same (q := q) R.hc hh hh R.hL rfl rfl hh hh rfl hh rfl rfl (.ow _) (own_row hh rfl rfl) (by simp)) (LA.int rfl LA.nil)) ?_
    by_cases hroom : (m.mem[cell].length : Int) < 4000
    rotate_left 1
    · rw [hdo0, show mmem m q late (⟨(atn : Int), regs, view, 0⟩ : Core) (⟨6, (r : Int), a, (b : Int), n⟩ : Step) = (m, 3) by rw [mmem, if_neg (by rw [hi]; simp), if_pos ⟨by simp, by rw [hcz]; show ¬ ((m.mem.getD cell []).length : Int) < 4000; rw [mem_cell hcl]; exact hroom⟩]]
      rw [show decide ((m.mem[cell].length : Int) < 4000) = false from decide_eq_false hroom]
      repeat (first | refine wk1 ?_ | (apply WO.cb (s103 ?_); (· exact lends); rotate_left 1; (· assumption)) | (apply WO.ci s104; (· exact lends)))
      exact W.ret ⟨.inr rfl, _, _, _, _, _, Ans.sc rfl rfl Ans.nil, hh, root_same (q := q) R.hc hh hh R.hL rfl rfl hh hh rfl hh rfl rfl (.ow _) (own_row hh rfl rfl) (by simp), rfl, rfl⟩
    rw [show decide ((m.mem[cell].length : Int) < 4000) = true from decide_eq_true hroom]
    have hro : ¬ ((⟨6, (r : Int), a, (b : Int), n⟩ : Step).op ≠ 5 ∧ ¬ ((m.mem.getD (cellAt (⟨(atn : Int), regs, view, 0⟩ : Core) (⟨6, (r : Int), a, (b : Int), n⟩ : Step)).toNat []).length : Int) < 4000) := fun h => h.2 (by rw [hcz]; show ((m.mem.getD cell []).length : Int) < 4000; rw [mem_cell hcl]; exact hroom)
    repeat (first | refine wk1 ?_ | (apply WO.cb (s103 ?_); (· exact lends); rotate_left 1; (· assumption)) | (apply WO.ci s104; (· exact lends)))
    refine WO.icall (fn := a107) rfl rfl ?_
    simp only [a107]
    have hdo : mstep m ⟨(q : Int), late⟩ = goOn ⟨m.codes, m.cores, (mstore m.mem view cell regs[b] ((6 : Int) == 7)).1, m.trace⟩ q (⟨(atn : Int), regs, (mstore m.mem view cell regs[b] ((6 : Int) == 7)).2, 0⟩ : Core) ((atn : Int) + 1) := by
      rw [hdo0, mmem, if_neg (by rw [hi]; simp), if_neg hro, if_neg (by simp), if_neg (by simp), hcz]; simp [rg, hgb]
    repeat (first | refine wk1 ?_ | (apply WO.cb (s103 ?_); (· exact lends); rotate_left 1; (· assumption)) | (apply WO.ci s104; (· exact lends)))
    refine WO.io1r (L := m.mem) (L' := (mstore m.mem view cell regs[b] ((6 : Int) == 7)).1) (M := (mstore m.mem view cell regs[b] ((6 : Int) == 7)).2) rfl hh rfl rfl rfl (by simp) (LA.ev rfl rfl rfl hh (LA.int rfl (LA.int rfl (LA.bool rfl LA.nil)))) (s146 hm.mem hcm24 hvl hc24) ?_
    repeat (first | refine wk1 ?_ | (apply WO.cb (s103 ?_); (· exact lends); rotate_left 1; (· assumption)) | (apply WO.ci s104; (· exact lends)))
    refine ⟨.inl rfl, [], rfl, rfl, ?_⟩
    show WO _ _ _ _
    repeat (first | refine wk1 ?_ | (apply WO.cb (s103 ?_); (· exact lends); rotate_left 1; (· assumption)) | (apply WO.ci s104; (· exact lends)))
    rw [hw]
    refine W.if rfl (fun hb => ?_) (fun hb => ?_)
    · have hge : (L.length : Int) ≤ (atn : Int) + 1 := of_decide_eq_true hb
      rw [hdo.trans (goOn_end R.hL hge)]
      repeat (first | refine wk1 ?_ | (apply WO.cb (s103 ?_); (· exact lends); rotate_left 1; (· assumption)) | (apply WO.ci s104; (· exact lends)))
      exact W.ret ⟨.inr rfl, _, _, _, _, _, Ans.sc rfl rfl Ans.nil, hh, root_own (q := q) hh hh R.hL rfl rfl hh hh (by simp) hh (by simp) rfl hq (own_row hh rfl rfl) (own_row hh rfl rfl) (by simp), rfl, rfl⟩
    · have hlt : ¬ (L.length : Int) ≤ (atn : Int) + 1 := of_decide_eq_false hb
      rw [hdo.trans (goOn_go R.hL hlt)]
      repeat (first | refine wk1 ?_ | (apply WO.cb (s103 ?_); (· exact lends); rotate_left 1; (· assumption)) | (apply WO.ci s104; (· exact lends)))
      exact W.ret ⟨.inr rfl, _, _, _, _, _, Ans.sc rfl rfl Ans.nil, hh, root_own (q := q) hh hh R.hL rfl rfl hh hh (by simp) hh (by simp) rfl hq (own_row hh rfl rfl) (own_row hh rfl rfl) (by simp), rfl, rfl⟩
  · subst h
    have hdo0 : mstep m ⟨(q : Int), late⟩ = mmem m q late (⟨(atn : Int), regs, view, 0⟩ : Core) (⟨7, (r : Int), a, (b : Int), n⟩ : Step) := hstep
    repeat (first | refine wk1 ?_ | (apply WO.cb (s103 ?_); (· exact lends); rotate_left 1; (· assumption)) | (apply WO.ci s104; (· exact lends)))
    refine WO.ct (s105 (fl := true) (fl' := true) (L := m.cores) (i := q) (c := (⟨(atn : Int), regs, view, 0⟩ : Core)) (s := (⟨7, (r : Int), a, (b : Int), n⟩ : Step)) R.hc hrl (by dsimp only; omega)) (LA.ptrO (off := q * 4) (Eq.trans (b := V.c (.ptr (3, 0, 0, 0) [] (0 + q * 4))) rfl (by rw [Nat.zero_add])) hh (seg_same R.hc (core_owns hh rfl hh rfl (by simp))) (LA.agg rfl LA.nil)) btt ?_
    rcases hi : inn 0 23 (cellAt (⟨(atn : Int), regs, view, 0⟩ : Core) (⟨7, (r : Int), a, (b : Int), n⟩ : Step)) with _ | _
    · rw [hdo0, show mmem m q late (⟨(atn : Int), regs, view, 0⟩ : Core) (⟨7, (r : Int), a, (b : Int), n⟩ : Step) = rest m q (⟨(atn : Int), regs, view, 0⟩ : Core) 2 by rw [mmem, if_pos hi]]
      repeat (first | refine wk1 ?_ | (apply WO.cb (s103 ?_); (· exact lends); rotate_left 1; (· assumption)) | (apply WO.ci s104; (· exact lends)))
      exact W.ret ⟨.inr rfl, _, _, _, _, _, Ans.sc rfl rfl Ans.nil, hh, root_own (q := q) hh hh R.hL rfl rfl hh hh (by simp) hh (by simp) rfl hq (.ow _) (own_row hh rfl (by simp)) (by simp), rfl, rfl⟩
    have hi2 : 0 ≤ cellAt (⟨(atn : Int), regs, view, 0⟩ : Core) (⟨7, (r : Int), a, (b : Int), n⟩ : Step) ∧ cellAt (⟨(atn : Int), regs, view, 0⟩ : Core) (⟨7, (r : Int), a, (b : Int), n⟩ : Step) ≤ 23 := by simpa [inn] using hi
    obtain ⟨cell, hcz⟩ := Int.eq_ofNat_of_zero_le hi2.1
    have hc24 : cell < 24 := by omega
    have hcl : cell < m.mem.length := by omega
    rw [hcz]
    repeat (first | refine wk1 ?_ | (apply WO.cb (s103 ?_); (· exact lends); rotate_left 1; (· assumption)) | (apply WO.ci s104; (· exact lends)))
    refine WO.cb (s106 (fl := true) (ds := m.d) (o := 2) (m := m.mem) (i := cell) rfl hcl) (LA.ptrO rfl hh (root_same (q := q) R.hc hh hh R.hL rfl rfl hh hh rfl hh rfl rfl (.ow _) (own_row hh rfl rfl) (by simp)) (LA.int rfl LA.nil)) ?_
    by_cases hroom : (m.mem[cell].length : Int) < 4000
    rotate_left 1
    · rw [hdo0, show mmem m q late (⟨(atn : Int), regs, view, 0⟩ : Core) (⟨7, (r : Int), a, (b : Int), n⟩ : Step) = (m, 3) by rw [mmem, if_neg (by rw [hi]; simp), if_pos ⟨by simp, by rw [hcz]; show ¬ ((m.mem.getD cell []).length : Int) < 4000; rw [mem_cell hcl]; exact hroom⟩]]
      rw [show decide ((m.mem[cell].length : Int) < 4000) = false from decide_eq_false hroom]
      repeat (first | refine wk1 ?_ | (apply WO.cb (s103 ?_); (· exact lends); rotate_left 1; (· assumption)) | (apply WO.ci s104; (· exact lends)))
      exact W.ret ⟨.inr rfl, _, _, _, _, _, Ans.sc rfl rfl Ans.nil, hh, root_same (q := q) R.hc hh hh R.hL rfl rfl hh hh rfl hh rfl rfl (.ow _) (own_row hh rfl rfl) (by simp), rfl, rfl⟩
    rw [show decide ((m.mem[cell].length : Int) < 4000) = true from decide_eq_true hroom]
    have hro : ¬ ((⟨7, (r : Int), a, (b : Int), n⟩ : Step).op ≠ 5 ∧ ¬ ((m.mem.getD (cellAt (⟨(atn : Int), regs, view, 0⟩ : Core) (⟨7, (r : Int), a, (b : Int), n⟩ : Step)).toNat []).length : Int) < 4000) := fun h => h.2 (by rw [hcz]; show ((m.mem.getD cell []).length : Int) < 4000; rw [mem_cell hcl]; exact hroom)
    repeat (first | refine wk1 ?_ | (apply WO.cb (s103 ?_); (· exact lends); rotate_left 1; (· assumption)) | (apply WO.ci s104; (· exact lends)))
    refine WO.icall (fn := a107) rfl rfl ?_
    simp only [a107]
    have hdo : mstep m ⟨(q : Int), late⟩ = goOn ⟨m.codes, m.cores, (mstore m.mem view cell regs[b] ((7 : Int) == 7)).1, m.trace⟩ q (⟨(atn : Int), regs, (mstore m.mem view cell regs[b] ((7 : Int) == 7)).2, 0⟩ : Core) ((atn : Int) + 1) := by
      rw [hdo0, mmem, if_neg (by rw [hi]; simp), if_neg hro, if_neg (by simp), if_neg (by simp), hcz]; simp [rg, hgb]
    repeat (first | refine wk1 ?_ | (apply WO.cb (s103 ?_); (· exact lends); rotate_left 1; (· assumption)) | (apply WO.ci s104; (· exact lends)))
    refine WO.io1r (L := m.mem) (L' := (mstore m.mem view cell regs[b] ((7 : Int) == 7)).1) (M := (mstore m.mem view cell regs[b] ((7 : Int) == 7)).2) rfl hh rfl rfl rfl (by simp) (LA.ev rfl rfl rfl hh (LA.int rfl (LA.int rfl (LA.bool rfl LA.nil)))) (s146 hm.mem hcm24 hvl hc24) ?_
    repeat (first | refine wk1 ?_ | (apply WO.cb (s103 ?_); (· exact lends); rotate_left 1; (· assumption)) | (apply WO.ci s104; (· exact lends)))
    refine ⟨.inl rfl, [], rfl, rfl, ?_⟩
    show WO _ _ _ _
    repeat (first | refine wk1 ?_ | (apply WO.cb (s103 ?_); (· exact lends); rotate_left 1; (· assumption)) | (apply WO.ci s104; (· exact lends)))
    rw [hw]
    refine W.if rfl (fun hb => ?_) (fun hb => ?_)
    · have hge : (L.length : Int) ≤ (atn : Int) + 1 := of_decide_eq_true hb
      rw [hdo.trans (goOn_end R.hL hge)]
      repeat (first | refine wk1 ?_ | (apply WO.cb (s103 ?_); (· exact lends); rotate_left 1; (· assumption)) | (apply WO.ci s104; (· exact lends)))
      exact W.ret ⟨.inr rfl, _, _, _, _, _, Ans.sc rfl rfl Ans.nil, hh, root_own (q := q) hh hh R.hL rfl rfl hh hh (by simp) hh (by simp) rfl hq (own_row hh rfl rfl) (own_row hh rfl rfl) (by simp), rfl, rfl⟩
    · have hlt : ¬ (L.length : Int) ≤ (atn : Int) + 1 := of_decide_eq_false hb
      rw [hdo.trans (goOn_go R.hL hlt)]
      repeat (first | refine wk1 ?_ | (apply WO.cb (s103 ?_); (· exact lends); rotate_left 1; (· assumption)) | (apply WO.ci s104; (· exact lends)))
      exact W.ret ⟨.inr rfl, _, _, _, _, _, Ans.sc rfl rfl Ans.nil, hh, root_own (q := q) hh hh R.hL rfl rfl hh hh (by simp) hh (by simp) rfl hq (own_row hh rfl rfl) (own_row hh rfl rfl) (by simp), rfl, rfl⟩
  · subst h
    have hdo0 : mstep m ⟨(q : Int), late⟩ = mmem m q late (⟨(atn : Int), regs, view, 0⟩ : Core) (⟨8, (r : Int), a, (b : Int), n⟩ : Step) := hstep
    repeat (first | refine wk1 ?_ | (apply WO.cb (s103 ?_); (· exact lends); rotate_left 1; (· assumption)) | (apply WO.ci s104; (· exact lends)))
    refine WO.ct (s105 (fl := true) (fl' := true) (L := m.cores) (i := q) (c := (⟨(atn : Int), regs, view, 0⟩ : Core)) (s := (⟨8, (r : Int), a, (b : Int), n⟩ : Step)) R.hc hrl (by dsimp only; omega)) (LA.ptrO (off := q * 4) (Eq.trans (b := V.c (.ptr (3, 0, 0, 0) [] (0 + q * 4))) rfl (by rw [Nat.zero_add])) hh (seg_same R.hc (core_owns hh rfl hh rfl (by simp))) (LA.agg rfl LA.nil)) btt ?_
    rcases hi : inn 0 23 (cellAt (⟨(atn : Int), regs, view, 0⟩ : Core) (⟨8, (r : Int), a, (b : Int), n⟩ : Step)) with _ | _
    · rw [hdo0, show mmem m q late (⟨(atn : Int), regs, view, 0⟩ : Core) (⟨8, (r : Int), a, (b : Int), n⟩ : Step) = rest m q (⟨(atn : Int), regs, view, 0⟩ : Core) 2 by rw [mmem, if_pos hi]]
      repeat (first | refine wk1 ?_ | (apply WO.cb (s103 ?_); (· exact lends); rotate_left 1; (· assumption)) | (apply WO.ci s104; (· exact lends)))
      exact W.ret ⟨.inr rfl, _, _, _, _, _, Ans.sc rfl rfl Ans.nil, hh, root_own (q := q) hh hh R.hL rfl rfl hh hh (by simp) hh (by simp) rfl hq (.ow _) (own_row hh rfl (by simp)) (by simp), rfl, rfl⟩
    have hi2 : 0 ≤ cellAt (⟨(atn : Int), regs, view, 0⟩ : Core) (⟨8, (r : Int), a, (b : Int), n⟩ : Step) ∧ cellAt (⟨(atn : Int), regs, view, 0⟩ : Core) (⟨8, (r : Int), a, (b : Int), n⟩ : Step) ≤ 23 := by simpa [inn] using hi
    obtain ⟨cell, hcz⟩ := Int.eq_ofNat_of_zero_le hi2.1
    have hc24 : cell < 24 := by omega
    have hcl : cell < m.mem.length := by omega
    rw [hcz]
    repeat (first | refine wk1 ?_ | (apply WO.cb (s103 ?_); (· exact lends); rotate_left 1; (· assumption)) | (apply WO.ci s104; (· exact lends)))
    refine WO.cb (s106 (fl := true) (ds := m.d) (o := 2) (m := m.mem) (i := cell) rfl hcl) (LA.ptrO rfl hh (root_same (q := q) R.hc hh hh R.hL rfl rfl hh hh rfl hh rfl rfl (.ow _) (own_row hh rfl rfl) (by simp)) (LA.int rfl LA.nil)) ?_
    by_cases hroom : (m.mem[cell].length : Int) < 4000
    rotate_left 1
    · rw [hdo0, show mmem m q late (⟨(atn : Int), regs, view, 0⟩ : Core) (⟨8, (r : Int), a, (b : Int), n⟩ : Step) = (m, 3) by rw [mmem, if_neg (by rw [hi]; simp), if_pos ⟨by simp, by rw [hcz]; show ¬ ((m.mem.getD cell []).length : Int) < 4000; rw [mem_cell hcl]; exact hroom⟩]]
      rw [show decide ((m.mem[cell].length : Int) < 4000) = false from decide_eq_false hroom]
      repeat (first | refine wk1 ?_ | (apply WO.cb (s103 ?_); (· exact lends); rotate_left 1; (· assumption)) | (apply WO.ci s104; (· exact lends)))
      exact W.ret ⟨.inr rfl, _, _, _, _, _, Ans.sc rfl rfl Ans.nil, hh, root_same (q := q) R.hc hh hh R.hL rfl rfl hh hh rfl hh rfl rfl (.ow _) (own_row hh rfl rfl) (by simp), rfl, rfl⟩
    rw [show decide ((m.mem[cell].length : Int) < 4000) = true from decide_eq_true hroom]
    have hro : ¬ ((⟨8, (r : Int), a, (b : Int), n⟩ : Step).op ≠ 5 ∧ ¬ ((m.mem.getD (cellAt (⟨(atn : Int), regs, view, 0⟩ : Core) (⟨8, (r : Int), a, (b : Int), n⟩ : Step)).toNat []).length : Int) < 4000) := fun h => h.2 (by rw [hcz]; show ((m.mem.getD cell []).length : Int) < 4000; rw [mem_cell hcl]; exact hroom)
    repeat (first | refine wk1 ?_ | (apply WO.cb (s103 ?_); (· exact lends); rotate_left 1; (· assumption)) | (apply WO.ci s104; (· exact lends)))
    refine WO.icall (fn := a107) rfl rfl ?_
    simp only [a107]
    have hdo : mstep m ⟨(q : Int), late⟩ = goOn ⟨m.codes, m.cores, (mstore m.mem (mload m.mem view cell 0 true).2 cell regs[b] true).1, m.trace⟩ q (⟨(atn : Int), regs.set r (mload m.mem view cell 0 true).1, (mstore m.mem (mload m.mem view cell 0 true).2 cell regs[b] true).2, 0⟩ : Core) ((atn : Int) + 1) := by
      rw [hdo0, mmem, if_neg (by rw [hi]; simp), if_neg hro, if_neg (by simp), if_pos rfl, hcz]; simp [rg, hgb]
    have hll := mload_len (hold := true) (machOk_mem hok) hvl hcl (ldAt_lt (late := 0) R.view hcl)
    repeat (first | refine wk1 ?_ | (apply WO.cb (s103 ?_); (· exact lends); rotate_left 1; (· assumption)) | (apply WO.ci s104; (· exact lends)))
    refine WO.ct (s145 (fl := true) (fl' := true) (ds := m.d) (o := 2) (m := m.mem) (view := view) (cell := cell) (late := 0) (hold := true) rfl hm.mem R.view hcl (by decide) (by decide)) (LA.ptrO rfl hh (root_same (q := q) R.hc hh hh R.hL rfl rfl hh hh rfl hh rfl rfl (.ow _) (own_row hh rfl rfl) (by simp)) (LA.ev rfl rfl rfl hh (LA.int rfl (LA.int rfl (LA.bool rfl LA.nil))))) btt ?_
    repeat (first | refine wk1 ?_ | (apply WO.cb (s103 ?_); (· exact lends); rotate_left 1; (· assumption)) | (apply WO.ci s104; (· exact lends)))
    refine WO.io1r (L := m.mem) (L' := (mstore m.mem (mload m.mem view cell 0 true).2 cell regs[b] true).1) (M := (mstore m.mem (mload m.mem view cell 0 true).2 cell regs[b] true).2) rfl hh rfl rfl rfl (by simp) (LA.ev rfl rfl rfl hh (LA.int rfl (LA.int rfl (LA.bool rfl LA.nil)))) (s146 hm.mem hcm24 hll hc24) ?_
    repeat (first | refine wk1 ?_ | (apply WO.cb (s103 ?_); (· exact lends); rotate_left 1; (· assumption)) | (apply WO.ci s104; (· exact lends)))
    refine ⟨.inl rfl, [], rfl, rfl, ?_⟩
    show WO _ _ _ _
    repeat (first | refine wk1 ?_ | (apply WO.cb (s103 ?_); (· exact lends); rotate_left 1; (· assumption)) | (apply WO.ci s104; (· exact lends)))
    rw [hw]
    refine W.if rfl (fun hb => ?_) (fun hb => ?_)
    · have hge : (L.length : Int) ≤ (atn : Int) + 1 := of_decide_eq_true hb
      rw [hdo.trans (goOn_end R.hL hge)]
      repeat (first | refine wk1 ?_ | (apply WO.cb (s103 ?_); (· exact lends); rotate_left 1; (· assumption)) | (apply WO.ci s104; (· exact lends)))
      exact W.ret ⟨.inr rfl, _, _, _, _, _, Ans.sc rfl rfl Ans.nil, hh, root_own (q := q) hh hh R.hL rfl rfl hh hh (by simp) hh (by simp) rfl hq (own_row hh rfl rfl) (own_row hh rfl rfl) (by simp), rfl, rfl⟩
    · have hlt : ¬ (L.length : Int) ≤ (atn : Int) + 1 := of_decide_eq_false hb
      rw [hdo.trans (goOn_go R.hL hlt)]
      repeat (first | refine wk1 ?_ | (apply WO.cb (s103 ?_); (· exact lends); rotate_left 1; (· assumption)) | (apply WO.ci s104; (· exact lends)))
      exact W.ret ⟨.inr rfl, _, _, _, _, _, Ans.sc rfl rfl Ans.nil, hh, root_own (q := q) hh hh R.hL rfl rfl hh hh (by simp) hh (by simp) rfl hq (own_row hh rfl rfl) (own_row hh rfl rfl) (by simp), rfl, rfl⟩
  · subst h
    obtain ⟨a, rfl⟩ := Int.eq_ofNat_of_zero_le (show 0 ≤ a by simpa using haa.1)
    have hal : a < regs.length := by have := haa.2; omega
    have hga : regs[a]? = some regs[a] := List.getElem?_eq_getElem hal
    have kt := hm.trace
    by_cases htr : m.trace.length = 4000
    · have hdo : mstep m ⟨(q : Int), late⟩ = (m, 3) := by rw [hstep]; simp [mdo, htr]
      rw [hdo]
      repeat (first | refine wk1 ?_ | (apply WO.cb (s103 ?_); (· exact lends); rotate_left 1; (· assumption)) | (apply WO.ci s104; (· exact lends)))
      rw [htr]
      repeat (first | refine wk1 ?_ | (apply WO.cb (s103 ?_); (· exact lends); rotate_left 1; (· assumption)) | (apply WO.ci s104; (· exact lends)))
      exact W.ret ⟨.inr rfl, _, _, _, _, _, Ans.sc rfl rfl Ans.nil, hh, root_same (q := q) R.hc hh hh R.hL rfl rfl hh hh rfl hh rfl rfl (.ow _) (own_row hh rfl htr) (by simp), rfl, rfl⟩
    have htr2 : ((m.trace.length : Int) == 4000) = false := by simpa using fun h : (m.trace.length : Int) = 4000 => htr (by omega)
    have hdo : mstep m ⟨(q : Int), late⟩ = goOn ⟨m.codes, m.cores, m.mem, m.trace ++ [⟨(q : Int), regs[a]⟩]⟩ q (⟨(atn : Int), regs, view, 0⟩ : Core) ((atn : Int) + 1) := by rw [hstep]; simp [mdo, htr, rg, hga]
    repeat (first | refine wk1 ?_ | (apply WO.cb (s103 ?_); (· exact lends); rotate_left 1; (· assumption)) | (apply WO.ci s104; (· exact lends)))
    rw [htr2]
    repeat (first | refine wk1 ?_ | (apply WO.cb (s103 ?_); (· exact lends); rotate_left 1; (· assumption)) | (apply WO.ci s104; (· exact lends)))
    refine WO.ap1r (⟨(q : Int), regs[a]⟩ : Note) rfl hh rfl rfl (by omega) rfl hh abt ?_
    repeat (first | refine wk1 ?_ | (apply WO.cb (s103 ?_); (· exact lends); rotate_left 1; (· assumption)) | (apply WO.ci s104; (· exact lends)))
    rw [hw]
    refine W.if rfl (fun hb => ?_) (fun hb => ?_)
    · have hge : (L.length : Int) ≤ (atn : Int) + 1 := of_decide_eq_true hb
      rw [hdo.trans (goOn_end R.hL hge)]
      repeat (first | refine wk1 ?_ | (apply WO.cb (s103 ?_); (· exact lends); rotate_left 1; (· assumption)) | (apply WO.ci s104; (· exact lends)))
      exact W.ret ⟨.inr rfl, _, _, _, _, _, Ans.sc rfl rfl Ans.nil, hh, root_own (q := q) hh hh R.hL rfl rfl hh hh (by simp) hh (by simp) rfl hq (.ow _) (own_row hh rfl (by simp)) (by simp), rfl, rfl⟩
    · have hlt : ¬ (L.length : Int) ≤ (atn : Int) + 1 := of_decide_eq_false hb
      rw [hdo.trans (goOn_go R.hL hlt)]
      repeat (first | refine wk1 ?_ | (apply WO.cb (s103 ?_); (· exact lends); rotate_left 1; (· assumption)) | (apply WO.ci s104; (· exact lends)))
      exact W.ret ⟨.inr rfl, _, _, _, _, _, Ans.sc rfl rfl Ans.nil, hh, root_own (q := q) hh hh R.hL rfl rfl hh hh (by simp) hh (by simp) rfl hq (.ow _) (own_row hh rfl (by simp)) (by simp), rfl, rfl⟩
  · subst h
    have hdo : mstep m ⟨(q : Int), late⟩ = goOn m q (⟨(atn : Int), regs, view, 0⟩ : Core) n := hstep
    repeat (first | refine wk1 ?_ | (apply WO.cb (s103 ?_); (· exact lends); rotate_left 1; (· assumption)) | (apply WO.ci s104; (· exact lends)))
    refine W.if rfl (fun hb => ?_) (fun hb => ?_)
    · have hge : (L.length : Int) ≤ n := of_decide_eq_true hb
      rw [hdo.trans (goOn_end R.hL hge)]
      repeat (first | refine wk1 ?_ | (apply WO.cb (s103 ?_); (· exact lends); rotate_left 1; (· assumption)) | (apply WO.ci s104; (· exact lends)))
      exact W.ret ⟨.inr rfl, _, _, _, _, _, Ans.sc rfl rfl Ans.nil, hh, root_own (q := q) hh hh R.hL rfl rfl hh hh (by simp) hh (by simp) rfl hq (.ow _) (own_row hh rfl (by simp)) (by simp), rfl, rfl⟩
    · have hlt : ¬ (L.length : Int) ≤ n := of_decide_eq_false hb
      rw [hdo.trans (goOn_go R.hL hlt)]
      repeat (first | refine wk1 ?_ | (apply WO.cb (s103 ?_); (· exact lends); rotate_left 1; (· assumption)) | (apply WO.ci s104; (· exact lends)))
      exact W.ret ⟨.inr rfl, _, _, _, _, _, Ans.sc rfl rfl Ans.nil, hh, root_own (q := q) hh hh R.hL rfl rfl hh hh (by simp) hh (by simp) rfl hq (.ow _) (own_row hh rfl (by simp)) (by simp), rfl, rfl⟩
  · subst h
    obtain ⟨a, rfl⟩ := Int.eq_ofNat_of_zero_le (show 0 ≤ a by simpa using haa.1)
    have hal : a < regs.length := by have := haa.2; omega
    have hga : regs[a]? = some regs[a] := List.getElem?_eq_getElem hal
    by_cases hz : regs[a] = 0
    · have hdo : mstep m ⟨(q : Int), late⟩ = goOn m q (⟨(atn : Int), regs, view, 0⟩ : Core) n := by rw [hstep]; simp [mdo, rg, hga, hz]
      repeat (first | refine wk1 ?_ | (apply WO.cb (s103 ?_); (· exact lends); rotate_left 1; (· assumption)) | (apply WO.ci s104; (· exact lends)))
      rw [show (regs[a] == 0) = true by simpa using hz]
      repeat (first | refine wk1 ?_ | (apply WO.cb (s103 ?_); (· exact lends); rotate_left 1; (· assumption)) | (apply WO.ci s104; (· exact lends)))
      refine W.if rfl (fun hb => ?_) (fun hb => ?_)
      · have hge : (L.length : Int) ≤ n := of_decide_eq_true hb
        rw [hdo.trans (goOn_end R.hL hge)]
        repeat (first | refine wk1 ?_ | (apply WO.cb (s103 ?_); (· exact lends); rotate_left 1; (· assumption)) | (apply WO.ci s104; (· exact lends)))
        exact W.ret ⟨.inr rfl, _, _, _, _, _, Ans.sc rfl rfl Ans.nil, hh, root_own (q := q) hh hh R.hL rfl rfl hh hh (by simp) hh (by simp) rfl hq (.ow _) (own_row hh rfl (by simp)) (by simp), rfl, rfl⟩
      · have hlt : ¬ (L.length : Int) ≤ n := of_decide_eq_false hb
        rw [hdo.trans (goOn_go R.hL hlt)]
        repeat (first | refine wk1 ?_ | (apply WO.cb (s103 ?_); (· exact lends); rotate_left 1; (· assumption)) | (apply WO.ci s104; (· exact lends)))
        exact W.ret ⟨.inr rfl, _, _, _, _, _, Ans.sc rfl rfl Ans.nil, hh, root_own (q := q) hh hh R.hL rfl rfl hh hh (by simp) hh (by simp) rfl hq (.ow _) (own_row hh rfl (by simp)) (by simp), rfl, rfl⟩
    · have hdo : mstep m ⟨(q : Int), late⟩ = goOn m q (⟨(atn : Int), regs, view, 0⟩ : Core) ((atn : Int) + 1) := by rw [hstep]; simp [mdo, rg, hga, hz]
      repeat (first | refine wk1 ?_ | (apply WO.cb (s103 ?_); (· exact lends); rotate_left 1; (· assumption)) | (apply WO.ci s104; (· exact lends)))
      rw [show (regs[a] == 0) = false by simpa using hz]
      repeat (first | refine wk1 ?_ | (apply WO.cb (s103 ?_); (· exact lends); rotate_left 1; (· assumption)) | (apply WO.ci s104; (· exact lends)))
      rw [hw]
      refine W.if rfl (fun hb => ?_) (fun hb => ?_)
      · have hge : (L.length : Int) ≤ (atn : Int) + 1 := of_decide_eq_true hb
        rw [hdo.trans (goOn_end R.hL hge)]
        repeat (first | refine wk1 ?_ | (apply WO.cb (s103 ?_); (· exact lends); rotate_left 1; (· assumption)) | (apply WO.ci s104; (· exact lends)))
        exact W.ret ⟨.inr rfl, _, _, _, _, _, Ans.sc rfl rfl Ans.nil, hh, root_own (q := q) hh hh R.hL rfl rfl hh hh (by simp) hh (by simp) rfl hq (.ow _) (own_row hh rfl (by simp)) (by simp), rfl, rfl⟩
      · have hlt : ¬ (L.length : Int) ≤ (atn : Int) + 1 := of_decide_eq_false hb
        rw [hdo.trans (goOn_go R.hL hlt)]
        repeat (first | refine wk1 ?_ | (apply WO.cb (s103 ?_); (· exact lends); rotate_left 1; (· assumption)) | (apply WO.ci s104; (· exact lends)))
        exact W.ret ⟨.inr rfl, _, _, _, _, _, Ans.sc rfl rfl Ans.nil, hh, root_own (q := q) hh hh R.hL rfl rfl hh hh (by simp) hh (by simp) rfl hq (.ow _) (own_row hh rfl (by simp)) (by simp), rfl, rfl⟩
  · subst h
    rw [show mstep m ⟨(q : Int), late⟩ = rest m q (⟨(atn : Int), regs, view, 0⟩ : Core) 1 from hstep]
    repeat (first | refine wk1 ?_ | (apply WO.cb (s103 ?_); (· exact lends); rotate_left 1; (· assumption)) | (apply WO.ci s104; (· exact lends)))
    exact W.ret ⟨.inr rfl, _, _, _, _, _, Ans.sc rfl rfl Ans.nil, hh, root_own (q := q) hh hh R.hL rfl rfl hh hh (by simp) hh (by simp) rfl hq (.ow _) (own_row hh rfl (by simp)) (by simp), rfl, rfl⟩
  · subst h
    rw [show mstep m ⟨(q : Int), late⟩ = rest m q (⟨(atn : Int), regs, view, 0⟩ : Core) 2 from hstep]
    repeat (first | refine wk1 ?_ | (apply WO.cb (s103 ?_); (· exact lends); rotate_left 1; (· assumption)) | (apply WO.ci s104; (· exact lends)))
    exact W.ret ⟨.inr rfl, _, _, _, _, _, Ans.sc rfl rfl Ans.nil, hh, root_own (q := q) hh hh R.hL rfl rfl hh hh (by simp) hh (by simp) rfl hq (.ow _) (own_row hh rfl (by simp)) (by simp), rfl, rfl⟩
  · omega
end Go.Proofs.Ytgodaiiegcdpcaa.Abs.MC
end
