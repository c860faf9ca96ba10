/- The program's functions, told in that language, and what each of them answers; each theorem bears its own conditions. -/
import Derived.Test.YtgodaiiegcdpcaaB8
import Derived.Test.YtgodaiiegcdpcaaB7
section
set_option linter.unusedVariables false
set_option linter.unusedSimpArgs false
namespace Go.Proofs.Ytgodaiiegcdpcaa.Abs.MC
open Go.Proofs.Ytgodaiiegcdpcaa.Abs
set_option linter.unusedSimpArgs false
set_option linter.unusedVariables false
set_option maxRecDepth 10000
set_option maxHeartbeats 4000000 in
theorem s8 {bs : List B8} (hbs : bytesOk bs) : Runs (gam code) (.fn 8 [.c (.imm false 1 bs.length (cl false bs))] [] (.c (.bool true)) []) := by
  refine W.is (fn := a8) rfl rfl ?_
  rw [start_im (by repeat (first | exact Pls.nil | refine Pls.c rfl ?_ | refine Pls.agg ?_))]
  simp only [a8]
  refine wk ?_
  refine WO.cb s10 (LA.imm rfl LA.nil) ?_
  generalize hbig : decide ((1048576 : Int) < bs.length) = g
  cases g
  rotate_left 1
  · refine wk ?_
    exact W.ret (endQ.sc (.inr rfl) rfl rfl rfl)
  have hbl : bs.length < 2 ^ 40 := by have := of_decide_eq_false hbig; omega
  refine wk ?_
  obtain ⟨m, L, ⟨hm, hm4⟩, ⟨hp, hL⟩, r0⟩ := s38 hbl
  have hL40 : L.length < 2 ^ 40 := by omega
  have hl := picks_late hp
  refine WO.ct r0 (LA.imm rfl LA.nil) btt ?_
  have r1 := s14 (fl := true) (fl' := true) hm.sm hm.mem hm.cores hm.codes hL40 hl
  have r2 := s39 (fl := true) (fl' := true) hm.sm hm.mem hm.cores hL40 hl
  have q1 : (mrunD m L).2 = [] → (mrunD m L).1 = m := mrunD_nil
  have q2 : (mrunD m L).2 ≠ [] → machOk m = true ∧ L.length ≤ 4000 ∧ mrunD m L = mrun m L := by
    intro h
    unfold mrunD at h ⊢
    split at h
    · rename_i h1
      simp only [Bool.and_eq_true, decide_eq_true_eq] at h1
      exact ⟨h1.1, h1.2, by rw [if_pos (by simp [h1])]⟩
    · exact absurd rfl h
  have q3 := mrunD_len m L
  have q4 := mrunD_sm (L := L) hm.sm
  generalize hr : mrunD m L = r at *
  obtain ⟨m', ks⟩ := r
  dsimp only at q1 q2 q3 q4 r1 r2
  refine wk ?_
  refine WO.ct r1 (LA.abt (ds := m.d) rfl abt (LA.ev rfl rfl rfl hh LA.nil)) btt ?_
  refine wk ?_
  refine WO.ct r2 (LA.abt (ds := m.d) rfl abt (LA.ev rfl rfl rfl hh LA.nil)) btt ?_
  refine wk ?_
  refine WO.cb (s25 (fl := true) (fl' := true) (a := ks) (b := ks) (by omega)) (LA.ev rfl rfl rfl hh (LA.ev rfl rfl rfl hh LA.nil)) ?_
  rw [show decide (ks = ks) = true from decide_eq_true rfl]
  refine wk ?_
  obtain ⟨C, ⟨hC5, hC15⟩, r3⟩ := s40 hbl
  have hC40 : C.length < 2 ^ 40 := by omega
  have hC40' : ∀ S ∈ C, S.length < 2 ^ 40 := fun S hS => by have := hC15 S hS; omega
  have r4 := mnI (fl := true) hC40 hC40'
  have r5 := mnS (fl := true) hC40 hC40'
  refine WO.cr r3 (LA.imm rfl LA.nil) ?_
  rcases hk : machOk (machNew C) with _ | _
  · rw [machNewD, if_neg (by rw [hk]; simp), hk] at r4 r5
    refine wk ?_
    refine WO.ct r4 (LA.ev rfl rfl rfl hh LA.nil) btt ?_
    refine wk ?_
    refine WO.ct r5 (LA.ev rfl rfl rfl hh LA.nil) btt ?_
    refine wk ?_
    by_cases hks : ks = []
    · obtain rfl := q1 hks
      subst hks
      refine wk ?_
      refine WO.cb (s22 hm.sm hm.sm) (LA.abt (ds := m'.d) rfl abt (LA.abt (ds := m'.d) rfl abt LA.nil)) ?_
      rw [machEq_refl]
      refine wk ?_
      exact W.ret (endQ.sc (.inr rfl) rfl rfl rfl)
    obtain ⟨hmk, h4000, hrm⟩ := q2 hks
    have hks0 : ks.length ≠ 0 := fun h => hks (List.length_eq_zero_iff.1 h)
    rw [show (((ks.length : Nat) : Int) == 0) = false by simpa using hks0]
    refine wk ?_
    obtain ⟨x, hx, r6⟩ := s13 (fl := false) (j := 1) (by decide) hbl hbs
    refine WO.ci r6 (LA.imm rfl (LA.int rfl LA.nil)) ?_
    refine wk ?_
    rw [show IntKind.i64.wrap ((L.length : Int) + 1) = (L.length : Int) + 1 from wrap_in (by omega)]
    refine WO.rem rfl rfl (by omega) ?_
    have hx2 := tmod_below (n := (L.length : Int) + 1) hx.1 (by omega)
    generalize x.tmod ((L.length : Int) + 1) = y at *
    obtain ⟨k, rfl⟩ := Int.eq_ofNat_of_zero_le hx2.1
    have hkl : k ≤ L.length := by omega
    refine wk ?_
    refine WO.slch k rfl rfl rfl hkl ?_
    refine wk ?_
    have hK := machOk_iff.1 hmk
    have e1 : mrunD m (L.take k) = mrun m (L.take k) := by rw [mrunD, if_pos (by simp [hmk]; omega)]
    have hl1 : lateOk (L.take k) := fun p hp => hl p (List.mem_of_mem_take hp)
    have hl2 : lateOk (L.drop k) := fun p hp => hl p (List.mem_of_mem_drop hp)
    have ha := mrun_ok (L := L.take k) hK
    have hap : mrun m L = _ := (congrArg (mrun m) (List.take_append_drop k L).symm).trans (mrun_app m (L.take k) (L.drop k))
    have la := mrun_len m (L.take k)
    have r7 := s14 (fl := true) (fl' := true) (L := L.take k) hm.sm hm.mem hm.cores hm.codes (by rw [List.length_take]; omega) hl1
    rw [e1] at r7
    generalize hra : mrun m (L.take k) = ra at *
    obtain ⟨a, one⟩ := ra
    dsimp only at ha hap la r7
    refine WO.ct r7 (LA.abt (ds := m.d) rfl abt (LA.own rfl (own_pre (L := L) hh rfl hkl) (er.refl _) LA.nil)) btt ?_
    refine wk ?_
    refine WO.slcl k rfl rfl rfl hkl ?_
    refine wk ?_
    have hak := machOk_iff.2 ha.1
    have had := ha.1.dr
    have e2 : mrunD a (L.drop k) = mrun a (L.drop k) := by rw [mrunD, if_pos (by simp [hak]; omega)]
    have lb := mrun_len a (L.drop k)
    have hb2 := mrun_ok (L := L.drop k) ha.1
    have r8 := s14 (fl := true) (fl' := true) (L := L.drop k) had.sm had.mem had.cores had.codes (by rw [List.length_drop]; omega) hl2
    rw [e2] at r8
    generalize hrb : mrun a (L.drop k) = rb at *
    obtain ⟨b, two⟩ := rb
    dsimp only at hb2 lb r8 hap
    rw [hrm] at hr
    have hm' : m' = b := by have := hrm.trans hap; exact congrArg (·.1) this
    have hks' : ks = one ++ two := by have := hrm.trans hap; exact congrArg (·.2) this
    subst hm'
    refine WO.ct r8 (LA.abt (ds := a.d) rfl abt (LA.own rfl (own_part (L := L) hh rfl (Nat.zero_add _) hkl (by rw [List.length_drop])) (er.refl _) LA.nil)) btt ?_
    refine wk ?_
    rw [show IntKind.i64.wrap ((one.length : Int) + (two.length : Int)) = (one.length : Int) + (two.length : Int) from wrap_in (by rw [List.length_take] at la; rw [List.length_drop] at lb; omega), show ((one.length : Int) + (two.length : Int) == (ks.length : Int)) = true by simp [hks']]
    refine wk ?_
    refine WO.cb (s22 hb2.1.sm hb2.1.sm) (LA.abt (ds := m'.d) rfl abt (LA.abt (ds := m'.d) rfl abt LA.nil)) ?_
    rw [machEq_refl]
    refine wk ?_
    exact W.ret (endQ.sc (.inr rfl) rfl rfl rfl)
  · rw [machNewD, if_pos hk, hk] at r4 r5
    refine wk ?_
    refine WO.ct r4 (LA.ev rfl rfl rfl hh LA.nil) btt ?_
    refine wk ?_
    refine WO.ct r5 (LA.ev rfl rfl rfl hh LA.nil) btt ?_
    refine wk ?_
    refine WO.cb (s23 (m := machNew C) (machNew_sm hC40 hC40')) (LA.cons (show Lend _ (.agg _) _ from Lend.abtE abt erl_last) LA.nil) ?_
    rw [hk]
    refine wk ?_
    by_cases hks : ks = []
    · obtain rfl := q1 hks
      subst hks
      refine wk ?_
      refine WO.cb (s22 hm.sm hm.sm) (LA.abt (ds := m'.d) rfl abt (LA.abt (ds := m'.d) rfl abt LA.nil)) ?_
      rw [machEq_refl]
      refine wk ?_
      exact W.ret (endQ.sc (.inr rfl) rfl rfl rfl)
    obtain ⟨hmk, h4000, hrm⟩ := q2 hks
    have hks0 : ks.length ≠ 0 := fun h => hks (List.length_eq_zero_iff.1 h)
    rw [show (((ks.length : Nat) : Int) == 0) = false by simpa using hks0]
    refine wk ?_
    obtain ⟨x, hx, r6⟩ := s13 (fl := false) (j := 1) (by decide) hbl hbs
    refine WO.ci r6 (LA.imm rfl (LA.int rfl LA.nil)) ?_
    refine wk ?_
    rw [show IntKind.i64.wrap ((L.length : Int) + 1) = (L.length : Int) + 1 from wrap_in (by omega)]
    refine WO.rem rfl rfl (by omega) ?_
    have hx2 := tmod_below (n := (L.length : Int) + 1) hx.1 (by omega)
    generalize x.tmod ((L.length : Int) + 1) = y at *
    obtain ⟨k, rfl⟩ := Int.eq_ofNat_of_zero_le hx2.1
    have hkl : k ≤ L.length := by omega
    refine wk ?_
    refine WO.slch k rfl rfl rfl hkl ?_
    refine wk ?_
    have hK := machOk_iff.1 hmk
    have e1 : mrunD m (L.take k) = mrun m (L.take k) := by rw [mrunD, if_pos (by simp [hmk]; omega)]
    have hl1 : lateOk (L.take k) := fun p hp => hl p (List.mem_of_mem_take hp)
    have hl2 : lateOk (L.drop k) := fun p hp => hl p (List.mem_of_mem_drop hp)
    have ha := mrun_ok (L := L.take k) hK
    have hap : mrun m L = _ := (congrArg (mrun m) (List.take_append_drop k L).symm).trans (mrun_app m (L.take k) (L.drop k))
    have la := mrun_len m (L.take k)
    have r7 := s14 (fl := true) (fl' := true) (L := L.take k) hm.sm hm.mem hm.cores hm.codes (by rw [List.length_take]; omega) hl1
    rw [e1] at r7
    generalize hra : mrun m (L.take k) = ra at *
    obtain ⟨a, one⟩ := ra
    dsimp only at ha hap la r7
    refine WO.ct r7 (LA.abt (ds := m.d) rfl abt (LA.own rfl (own_pre (L := L) hh rfl hkl) (er.refl _) LA.nil)) btt ?_
    refine wk ?_
    refine WO.slcl k rfl rfl rfl hkl ?_
    refine wk ?_
    have hak := machOk_iff.2 ha.1
    have had := ha.1.dr
    have e2 : mrunD a (L.drop k) = mrun a (L.drop k) := by rw [mrunD, if_pos (by simp [hak]; omega)]
    have lb := mrun_len a (L.drop k)
    have hb2 := mrun_ok (L := L.drop k) ha.1
    have r8 := s14 (fl := true) (fl' := true) (L := L.drop k) had.sm had.mem had.cores had.codes (by rw [List.length_drop]; omega) hl2
    rw [e2] at r8
    generalize hrb : mrun a (L.drop k) = rb at *
    obtain ⟨b, two⟩ := rb
    dsimp only at hb2 lb r8 hap
    rw [hrm] at hr
    have hm' : m' = b := by have := hrm.trans hap; exact congrArg (·.1) this
    have hks' : ks = one ++ two := by have := hrm.trans hap; exact congrArg (·.2) this
    subst hm'
    refine WO.ct r8 (LA.abt (ds := a.d) rfl abt (LA.own rfl (own_part (L := L) hh rfl (Nat.zero_add _) hkl (by rw [List.length_drop])) (er.refl _) LA.nil)) btt ?_
    refine wk ?_
    rw [show IntKind.i64.wrap ((one.length : Int) + (two.length : Int)) = (one.length : Int) + (two.length : Int) from wrap_in (by rw [List.length_take] at la; rw [List.length_drop] at lb; omega), show ((one.length : Int) + (two.length : Int) == (ks.length : Int)) = true by simp [hks']]
    refine wk ?_
    refine WO.cb (s22 hb2.1.sm hb2.1.sm) (LA.abt (ds := m'.d) rfl abt (LA.abt (ds := m'.d) rfl abt LA.nil)) ?_
    rw [machEq_refl]
    refine wk ?_
    exact W.ret (endQ.sc (.inr rfl) rfl rfl rfl)
end Go.Proofs.Ytgodaiiegcdpcaa.Abs.MC
end
section
set_option linter.unusedVariables false
set_option linter.unusedSimpArgs false
namespace Go.Proofs.Ytgodaiiegcdpcaa.Abs.MC
open Go.Proofs.Ytgodaiiegcdpcaa.Abs
set_option linter.unusedSimpArgs false
set_option linter.unusedVariables false
set_option maxRecDepth 10000
theorem s35 {bs : List B8} (hb : bs.length < 2 ^ 40) : ∃ (m : Mach) (q st : Int), ((m.dr ∧ m.cores.length ≤ 4) ∧ m.low 700) ∧ (-2 ≤ st ∧ st ≤ 47) ∧ Runs (gam code) (.fn 35 [.c (.imm false 1 bs.length (cl false bs))] [] (.tup [.agg (owL m.d), .c (.int .i64 q), .c (.int .i64 st)]) []) := by
  suffices h : ∃ v, (∃ (m : Mach) (q st : Int), ((m.dr ∧ m.cores.length ≤ 4) ∧ m.low 700) ∧ (-2 ≤ st ∧ st ≤ 47) ∧ v = .tup [.agg (owL m.d), .c (.int .i64 q), .c (.int .i64 st)]) ∧ Runs (gam code) (.fn 35 [.c (.imm false 1 bs.length (cl false bs))] [] v []) by
    obtain ⟨_, ⟨m, q, st, hm, hx, rfl⟩, h2⟩ := h
    exact ⟨m, q, st, hm, hx, h2⟩
  refine W.ans (fn := a35) rfl rfl ?_
  rw [start_im (by repeat (first | exact Pls.nil | refine Pls.c rfl ?_ | refine Pls.agg ?_))]
  simp only [a35]
  refine wk ?_
  obtain ⟨c0, hc0, r0⟩ := s59 hb
  refine WO.cbx r0 (LA.imm rfl LA.nil) ?_
  refine wk ?_
  obtain ⟨m, c1, hm, hc1, r1⟩ := s60 hc0
  refine WO.cura rfl hh LA.nil r1 brr ?_
  refine wk ?_
  obtain ⟨x2, c2, hx2, hc2, r2⟩ := s61 (c := c1) (n := 4) hc1 ats ats
  refine WO.curi rfl hh (LA.int rfl LA.nil) r2 ?_
  refine wk ?_
  obtain ⟨x3, c3, hx3, hc3, r3⟩ := s61 (c := c2) (n := 12) hc2 ats ats
  refine WO.curi rfl hh (LA.int rfl LA.nil) r3 ?_
  refine wk ?_
  obtain ⟨x4, c4, hx4, hc4, r4⟩ := s61 (c := c3) (n := 50) hc3 ats ats
  refine WO.curi rfl hh (LA.int rfl LA.nil) r4 ?_
  refine wk ?_
  rw [show IntKind.i64.wrap (x4 - 2) = x4 - 2 from wrap_in (by omega)]
  exact W.ret (endQ.many (.inr rfl) ansr ⟨m, _, x4 - 2, hm, by omega, rfl⟩)
end Go.Proofs.Ytgodaiiegcdpcaa.Abs.MC
end
section
set_option linter.unusedVariables false
set_option linter.unusedSimpArgs false
namespace Go.Proofs.Ytgodaiiegcdpcaa.Abs.MC
open Go.Proofs.Ytgodaiiegcdpcaa.Abs
set_option linter.unusedSimpArgs false
set_option linter.unusedVariables false
set_option maxRecDepth 10000
def mach0 : Mach := ⟨[], [], [], []⟩
theorem erl_mach0 : erL [.nil, .nil, .nil, .nil] mach0.d := by
  simp only [mach0, Mach.d, erL]
  exact ⟨_, _, rfl, .inr ⟨_, rfl⟩, _, _, rfl, .inr ⟨_, rfl⟩, _, _, rfl, .inr ⟨_, rfl⟩, _, _, rfl, .inr ⟨_, rfl⟩, rfl⟩
theorem mach0_sm : mach0.sm := ⟨by simp [mach0], by simp [mach0], by simp [mach0], by simp [mach0], ⟨by simp [mach0], by simp [mach0]⟩, by simp [mach0]⟩
set_option maxHeartbeats 4000000 in
theorem s7 {bs : List B8} (hbs : bytesOk bs) : Runs (gam code) (.fn 7 [.c (.imm false 1 bs.length (cl false bs))] [] (.c (.bool true)) []) := by
  refine W.is (fn := a7) rfl rfl ?_
  rw [start_im (by repeat (first | exact Pls.nil | refine Pls.c rfl ?_ | refine Pls.agg ?_))]
  simp only [a7]
  refine wk ?_
  refine WO.cb s10 (LA.imm rfl LA.nil) ?_
  generalize hbig : decide ((1048576 : Int) < bs.length) = g
  cases g
  rotate_left 1
  · refine wk ?_
    exact W.ret (endQ.sc (.inr rfl) rfl rfl rfl)
  have hbl : bs.length < 2 ^ 40 := by have := of_decide_eq_false hbig; omega
  refine wk ?_
  obtain ⟨m, q, st, ⟨⟨hm, hm4⟩, hlow⟩, hst, r0⟩ := s35 hbl
  refine WO.ct r0 (LA.imm rfl LA.nil) btt ?_
  have c1 := s36 (fl := true) (q := q) (steps := st) hm.sm
  have c2 := s37 (fl := true) (q := q) (steps := st) hm.sm hlow (by omega)
  rcases hk : machOk m with _ | _
  · rw [show maloneD m q st = [.nil, .nil, .nil, .nil] by rw [maloneD, hk]; rfl] at c1 c2
    refine wk ?_
    refine WO.ca c1 (LA.abt (ds := m.d) rfl abt (LA.int rfl (LA.int rfl LA.nil))) brr ?_
    refine wk ?_
    refine WO.ca c2 (LA.abt (ds := m.d) rfl abt (LA.int rfl (LA.int rfl LA.nil))) brr ?_
    refine wk ?_
    refine WO.cb (s22 (a := mach0) (b := mach0) mach0_sm mach0_sm) (LA.cons (show Lend _ (.agg _) _ from Lend.abtE abt erl_mach0) (LA.cons (show Lend _ (.agg _) _ from Lend.abtE abt erl_mach0) LA.nil)) ?_
    rw [machEq_refl]
    refine wk ?_
    refine WO.cb (s24 hm.sm) (LA.abt (ds := m.d) rfl abt LA.nil) ?_
    rw [hk]
    refine wk ?_
    exact W.ret (endQ.sc (.inr rfl) rfl rfl rfl)
  have hK := machOk_iff.1 hk
  rw [show maloneD m q st = (malone q (min st 4000).toNat m).d by rw [maloneD, hk]; rfl] at c1 c2
  obtain ⟨hrK, hrl, hro⟩ := malone_ok (q := q) (min st 4000).toNat hK
  generalize hr : malone q (min st 4000).toNat m = r at *
  have k3 := hm.sm.cores
  refine wk ?_
  refine WO.ca c1 (LA.abt (ds := m.d) rfl abt (LA.int rfl (LA.int rfl LA.nil))) brr ?_
  refine wk ?_
  refine WO.ca c2 (LA.abt (ds := m.d) rfl abt (LA.int rfl (LA.int rfl LA.nil))) brr ?_
  refine wk ?_
  refine WO.cb (s22 hrK.sm hrK.sm) (LA.abt (ds := r.d) rfl abt (LA.abt (ds := r.d) rfl abt LA.nil)) ?_
  rw [machEq_refl]
  refine wk ?_
  refine WO.cb (s24 hm.sm) (LA.abt (ds := m.d) rfl abt LA.nil) ?_
  rw [hk]
  refine wk ?_
  refine W.if rfl (fun hb => ?_) (fun hb => ?_)
  · have hst0 := of_decide_eq_true hb
    refine wk ?_
    obtain ⟨x, hx, r6⟩ := s13 (fl := false) (j := 1) (by decide) hbl hbs
    refine WO.ci r6 (LA.imm rfl (LA.int rfl LA.nil)) ?_
    refine wk ?_
    rw [show IntKind.i64.wrap (st + 1) = st + 1 from wrap_in (by omega)]
    refine WO.rem rfl rfl (by omega) ?_
    have hx2 := tmod_below (n := st + 1) hx.1 (by omega)
    generalize x.tmod (st + 1) = y at *
    obtain ⟨k, rfl⟩ := Int.eq_ofNat_of_zero_le hx2.1
    refine wk ?_
    refine W.for (fun i T H n => Ag [(3, .c (.ptr (3, 6, 0, 0) [] 0)), (4, .c (.int .i64 q)), (5, .c (.int .i64 st)), (6, .c (.ptr (4, 4, 0, 0) [] 0)), (7, .c (.int .i64 (k : Int))), (8, .c (.int .i64 ((i : Nat) : Int)))] T ∧ MAt H (3, 6, 0, 0) 3 1 0 m ∧ MAt H (4, 4, 0, 0) 4 3 0 r ∧ 6 < n) m.cores.length ⟨⟨rfl, rfl, rfl, rfl, rfl, rfl, trivial⟩, ⟨hh, hh, hh, hh, hh⟩, ⟨hh, hh, hh, hh, hh⟩, ats⟩ ?_
    rintro i T H n hi ⟨hT, ⟨a0, a1, a2, a3, a4⟩, ⟨b0, b1, b2, b3, b4⟩, hn⟩
    obtain ⟨T, rfl⟩ := hT.fix
    simp only [ups]
    clear hT
    refine wk ?_
    refine W.if rfl (fun hb => ?_) (fun hb => ?_)
    · have hlt : i < m.cores.length := by simpa using hb
      refine wk ?_
      by_cases hiq : (i : Int) = q
      · rw [show ((i : Int) != q) = false by simpa using hiq]
        refine wk ?_
        exact ⟨hlt, ⟨rfl, rfl, rfl, rfl, rfl, wrap_c (by omega), trivial⟩, ⟨hh, hh, hh, hh, hh⟩, ⟨hh, hh, hh, hh, hh⟩, ats⟩
      · obtain ⟨u, hu⟩ : ∃ u, m.cores[i]? = some u := ⟨_, List.getElem?_eq_getElem hlt⟩
        have hu' : r.cores[i]? = some u := (hro i hiq).trans hu
        have hlt' : i < r.cores.length := (List.getElem?_eq_some_iff.1 hu').1
        obtain ⟨cat, regs, view, sta⟩ := u
        have hus := hm.sm.core _ (List.mem_of_getElem? hu)
        dsimp only at hus
        rw [show ((i : Int) != q) = true by simpa using hiq]
        refine wk ?_
        refine WO.ldCl (L := m.cores) (u := ⟨cat, regs, view, sta⟩) rfl hh rfl hu rfl rfl ?_
        refine wk ?_
        refine WO.ldCl (L := r.cores) (u := ⟨cat, regs, view, sta⟩) rfl hh rfl hu' rfl rfl ?_
        refine wk ?_
        refine WO.cb (s25 (fl := true) (fl' := true) (a := regs) (b := regs) hus.1) (LA.evp 4 1 rfl hh rfl hu rfl rfl rfl (LA.evp 4 1 rfl hh rfl hu' rfl rfl rfl LA.nil)) ?_
        rw [show decide (regs = regs) = true from decide_eq_true rfl]
        refine wk ?_
        exact ⟨hlt, ⟨rfl, rfl, rfl, rfl, rfl, wrap_c (by omega), trivial⟩, ⟨hh, hh, hh, hh, hh⟩, ⟨hh, hh, hh, hh, hh⟩, ats⟩
    · have hge : i = m.cores.length := by simp at hb; omega
      subst hge
      refine W.exit ?_
      show W _ _ _ _
      refine wk ?_
      have hsum : (min st 4000).toNat = (min (k : Int) 4000).toNat + (min (st - (k : Int)) 4000).toNat := by omega
      have d1 := s36 (fl := true) (q := q) (steps := (k : Int)) hm.sm
      rw [show maloneD m q (k : Int) = (malone q (min (k : Int) 4000).toNat m).d by rw [maloneD, hk]; rfl] at d1
      have hka := (malone_ok (q := q) (min (k : Int) 4000).toNat hK).1
      have hap : malone q (min (st - (k : Int)) 4000).toNat (malone q (min (k : Int) 4000).toNat m) = r := by rw [← malone_app, ← hsum]; exact hr
      generalize malone q (min (k : Int) 4000).toNat m = ra at *
      have d2 := s36 (fl := true) (q := q) (steps := st - (k : Int)) hka.sm
      rw [show maloneD ra q (st - (k : Int)) = r.d by rw [maloneD, machOk_iff.2 hka, if_pos rfl, hap]] at d2
      rw [show IntKind.i64.wrap (st - (k : Int)) = st - (k : Int) from wrap_in (by omega)]
      refine WO.ca d1 (LA.abt (ds := m.d) rfl abt (LA.int rfl (LA.int rfl LA.nil))) brr ?_
      refine wk ?_
      refine WO.ca d2 (LA.abt (ds := ra.d) rfl abt (LA.int rfl (LA.int rfl LA.nil))) brr ?_
      refine wk ?_
      refine WO.cb (s22 hrK.sm hrK.sm) (LA.abt (ds := r.d) rfl abt (LA.abt (ds := r.d) rfl abt LA.nil)) ?_
      rw [machEq_refl]
      refine wk ?_
      refine WO.cb (s23 hrK.sm) (LA.abt (ds := r.d) rfl abt LA.nil) ?_
      rw [machOk_iff.2 hrK]
      refine wk ?_
      exact W.ret (endQ.sc (.inr rfl) rfl rfl rfl)
  · have hst0 := of_decide_eq_false hb
    refine wk ?_
    refine W.for (fun i T H n => Ag [(3, .c (.ptr (3, 6, 0, 0) [] 0)), (4, .c (.int .i64 q)), (5, .c (.int .i64 st)), (6, .c (.ptr (4, 4, 0, 0) [] 0)), (7, .c (.int .i64 (0 : Int))), (8, .c (.int .i64 ((i : Nat) : Int)))] T ∧ MAt H (3, 6, 0, 0) 3 1 0 m ∧ MAt H (4, 4, 0, 0) 4 3 0 r ∧ 6 < n) m.cores.length ⟨⟨rfl, rfl, rfl, rfl, rfl, rfl, trivial⟩, ⟨hh, hh, hh, hh, hh⟩, ⟨hh, hh, hh, hh, hh⟩, ats⟩ ?_
    rintro i T H n hi ⟨hT, ⟨a0, a1, a2, a3, a4⟩, ⟨b0, b1, b2, b3, b4⟩, hn⟩
    obtain ⟨T, rfl⟩ := hT.fix
    simp only [ups]
    clear hT
    refine wk ?_
    refine W.if rfl (fun hb => ?_) (fun hb => ?_)
    · have hlt : i < m.cores.length := by simpa using hb
      refine wk ?_
      by_cases hiq : (i : Int) = q
      · rw [show ((i : Int) != q) = false by simpa using hiq]
        refine wk ?_
        exact ⟨hlt, ⟨rfl, rfl, rfl, rfl, rfl, wrap_c (by omega), trivial⟩, ⟨hh, hh, hh, hh, hh⟩, ⟨hh, hh, hh, hh, hh⟩, ats⟩
      · obtain ⟨u, hu⟩ : ∃ u, m.cores[i]? = some u := ⟨_, List.getElem?_eq_getElem hlt⟩
        have hu' : r.cores[i]? = some u := (hro i hiq).trans hu
        have hlt' : i < r.cores.length := (List.getElem?_eq_some_iff.1 hu').1
        obtain ⟨cat, regs, view, sta⟩ := u
        have hus := hm.sm.core _ (List.mem_of_getElem? hu)
        dsimp only at hus
        rw [show ((i : Int) != q) = true by simpa using hiq]
        refine wk ?_
        refine WO.ldCl (L := m.cores) (u := ⟨cat, regs, view, sta⟩) rfl hh rfl hu rfl rfl ?_
        refine wk ?_
        refine WO.ldCl (L := r.cores) (u := ⟨cat, regs, view, sta⟩) rfl hh rfl hu' rfl rfl ?_
        refine wk ?_
        refine WO.cb (s25 (fl := true) (fl' := true) (a := regs) (b := regs) hus.1) (LA.evp 4 1 rfl hh rfl hu rfl rfl rfl (LA.evp 4 1 rfl hh rfl hu' rfl rfl rfl LA.nil)) ?_
        rw [show decide (regs = regs) = true from decide_eq_true rfl]
        refine wk ?_
        exact ⟨hlt, ⟨rfl, rfl, rfl, rfl, rfl, wrap_c (by omega), trivial⟩, ⟨hh, hh, hh, hh, hh⟩, ⟨hh, hh, hh, hh, hh⟩, ats⟩
    · have hge : i = m.cores.length := by simp at hb; omega
      subst hge
      refine W.exit ?_
      show W _ _ _ _
      refine wk ?_
      have hsum : (min st 4000).toNat = (min (0 : Int) 4000).toNat + (min (st - (0 : Int)) 4000).toNat := by omega
      have d1 := s36 (fl := true) (q := q) (steps := (0 : Int)) hm.sm
      rw [show maloneD m q (0 : Int) = (malone q (min (0 : Int) 4000).toNat m).d by rw [maloneD, hk]; rfl] at d1
      have hka := (malone_ok (q := q) (min (0 : Int) 4000).toNat hK).1
      have hap : malone q (min (st - (0 : Int)) 4000).toNat (malone q (min (0 : Int) 4000).toNat m) = r := by rw [← malone_app, ← hsum]; exact hr
      generalize malone q (min (0 : Int) 4000).toNat m = ra at *
      have d2 := s36 (fl := true) (q := q) (steps := st - (0 : Int)) hka.sm
      rw [show maloneD ra q (st - (0 : Int)) = r.d by rw [maloneD, machOk_iff.2 hka, if_pos rfl, hap]] at d2
      rw [show IntKind.i64.wrap (st - (0 : Int)) = st - (0 : Int) from wrap_in (by omega)]
      refine WO.ca d1 (LA.abt (ds := m.d) rfl abt (LA.int rfl (LA.int rfl LA.nil))) brr ?_
      refine wk ?_
      refine WO.ca d2 (LA.abt (ds := ra.d) rfl abt (LA.int rfl (LA.int rfl LA.nil))) brr ?_
      refine wk ?_
      refine WO.cb (s22 hrK.sm hrK.sm) (LA.abt (ds := r.d) rfl abt (LA.abt (ds := r.d) rfl abt LA.nil)) ?_
      rw [machEq_refl]
      refine wk ?_
      refine WO.cb (s23 hrK.sm) (LA.abt (ds := r.d) rfl abt LA.nil) ?_
      rw [machOk_iff.2 hrK]
      refine wk ?_
      exact W.ret (endQ.sc (.inr rfl) rfl rfl rfl)
end Go.Proofs.Ytgodaiiegcdpcaa.Abs.MC
end
