/- The program's functions, told in that language, and what each of them answers; each theorem bears its own conditions. -/
import Derived.Test.YtgodaiiegcdpcaaB8
section
set_option linter.unusedVariables false
set_option linter.unusedSimpArgs false
namespace Go.Proofs.Ytgodaiiegcdpcaa.Abs.MC
open Go.Proofs.Ytgodaiiegcdpcaa.Abs
set_option linter.unusedSimpArgs false
set_option linter.unusedVariables false
set_option maxRecDepth 10000
set_option maxHeartbeats 4000000 in
theorem s8 {bs : List B8} (hbs : bytesOk bs) : Runs (gam code) (.fn 8 [.c (.imm false 1 bs.length (cl false bs))] [] (.c (.bool true)) []) := by
  refine W.is (fn := a8) rfl rfl ?_
  rw [start_im (by repeat (first | exact Pls.nil | refine Pls.c rfl ?_ | refine Pls.agg ?_))]
  simp only [a8]
  refine wk ?_
  refine WO.cb s10 (LA.imm rfl LA.nil) ?_
  generalize hbig : decide ((1048576 : Int) < bs.length) = g
  cases g
  rotate_left 1
  · refine wk ?_
    exact W.ret (endQ.sc (.inr rfl) rfl rfl rfl)
  have hbl : bs.length < 2 ^ 40 := by have := of_decide_eq_false hbig; omega
  refine wk ?_
  obtain ⟨m, L, ⟨hm, hm4⟩, ⟨hp, hL⟩, r0⟩ := s38 hbl
  have hL40 : L.length < 2 ^ 40 := by omega
  have hl := picks_late hp
  refine WO.ct r0 (LA.imm rfl LA.nil) btt ?_
  have r1 := s14 (fl := true) (fl' := true) hm.sm hm.mem hm.cores hm.codes hL40 hl
  have r2 := s39 (fl := true) (fl' := true) hm.sm hm.mem hm.cores hL40 hl
  have q1 : (mrunD m L).2 = [] → (mrunD m L).1 = m := mrunD_nil
  have q2 : (mrunD m L).2 ≠ [] → machOk m = true ∧ L.length ≤ 4000 ∧ mrunD m L = mrun m L := by
    intro h
    unfold mrunD at h ⊢
    split at h
    · rename_i h1
      simp only [Bool.and_eq_true, decide_eq_true_eq] at h1
      exact ⟨h1.1, h1.2, by rw [if_pos (by simp [h1])]⟩
    · exact absurd rfl h
  have q3 := mrunD_len m L
  have q4 := mrunD_sm (L := L) hm.sm
  generalize hr : mrunD m L = r at *
  obtain ⟨m', ks⟩ := r
  dsimp only at q1 q2 q3 q4 r1 r2
  refine wk ?_
  refine WO.ct r1 (LA.abt (ds := m.d) rfl abt (LA.ev rfl rfl rfl hh LA.nil)) btt ?_
  refine wk ?_
  refine WO.ct r2 (LA.abt (ds := m.d) rfl abt (LA.ev rfl rfl rfl hh LA.nil)) btt ?_
  refine wk ?_
  refine WO.cb (s25 (fl := true) (fl' := true) (a := ks) (b := ks) (by omega)) (LA.ev rfl rfl rfl hh (LA.ev rfl rfl rfl hh LA.nil)) ?_
  rw [show decide (ks = ks) = true from decide_eq_true rfl]
  refine wk ?_
  obtain ⟨C, ⟨hC5, hC15⟩, r3⟩ := s40 hbl
  have hC40 : C.length < 2 ^ 40 := by omega
  have hC40' : ∀ S ∈ C, S.length < 2 ^ 40 := fun S hS => by have := hC15 S hS; omega
  have r4 := mnI (fl := true) hC40 hC40'
  have r5 := mnS (fl := true) hC40 hC40'
  refine WO.cr r3 (LA.imm rfl LA.nil) ?_
  rcases hk : machOk (machNew C) with _ | _
  · rw [machNewD, if_neg (by rw [hk]; simp), hk] at r4 r5
    refine wk ?_
    refine WO.ct r4 (LA.ev rfl rfl rfl hh LA.nil) btt ?_
    refine wk ?_
    refine WO.ct r5 (LA.ev rfl rfl rfl hh LA.nil) btt ?_
    refine wk ?_
    by_cases hks : ks = []
    · obtain rfl := q1 hks
      subst hks
      refine wk ?_
      refine WO.cb (s22 hm.sm hm.sm) (LA.abt (ds := m'.d) rfl abt (LA.abt (ds := m'.d) rfl abt LA.nil)) ?_
      rw [machEq_refl]
      refine wk ?_
      exact W.ret (endQ.sc (.inr rfl) rfl rfl rfl)
    obtain ⟨hmk, h4000, hrm⟩ := q2 hks
    have hks0 : ks.length ≠ 0 := fun h => hks (List.length_eq_zero_iff.1 h)
    rw [show (((ks.length : Nat) : Int) == 0) = false by simpa using hks0]
    refine wk ?_
    obtain ⟨x, hx, r6⟩ := s13 (fl := false) (j := 1) (by decide) hbl hbs
    refine WO.ci r6 (LA.imm rfl (LA.int rfl LA.nil)) ?_
    refine wk ?_
    rw [show IntKind.i64.wrap ((L.length : Int) + 1) = (L.length : Int) + 1 from wrap_in (by omega)]
    refine WO.rem rfl rfl (by omega) ?_
    have hx2 := tmod_below (n := (L.length : Int) + 1) hx.1 (by omega)
    generalize x.tmod ((L.length : Int) + 1) = y at *
    obtain ⟨k, rfl⟩ := Int.eq_ofNat_of_zero_le hx2.1
    have hkl : k ≤ L.length := by omega
    refine wk ?_
    refine WO.slch k rfl rfl rfl hkl ?_
    refine wk ?_
    have hK := machOk_iff.1 hmk
    have e1 : mrunD m (L.take k) = mrun m (L.take k) := by rw [mrunD, if_pos (by simp [hmk]; omega)]
    have hl1 : lateOk (L.take k) := fun p hp => hl p (List.mem_of_mem_take hp)
    have hl2 : lateOk (L.drop k) := fun p hp => hl p (List.mem_of_mem_drop hp)
    have ha := mrun_ok (L := L.take k) hK
    have hap : mrun m L = _ := (congrArg (mrun m) (List.take_append_drop k L).symm).trans (mrun_app m (L.take k) (L.drop k))
    have la := mrun_len m (L.take k)
    have r7 := s14 (fl := true) (fl' := true) (L := L.take k) hm.sm hm.mem hm.cores hm.codes (by rw [List.length_take]; omega) hl1
    rw [e1] at r7
    generalize hra : mrun m (L.take k) = ra at *
    obtain ⟨a, one⟩ := ra
    dsimp only at ha hap la r7
    refine WO.ct r7 (LA.abt (ds := m.d) rfl abt (LA.own rfl (own_pre (L := L) hh rfl hkl) (er.refl _) LA.nil)) btt ?_
    refine wk ?_
    refine WO.slcl k rfl rfl rfl hkl ?_
    refine wk ?_
    have hak := machOk_iff.2 ha.1
    have had := ha.1.dr
    have e2 : mrunD a (L.drop k) = mrun a (L.drop k) := by rw [mrunD, if_pos (by simp [hak]; omega)]
    have lb := mrun_len a (L.drop k)
    have hb2 := mrun_ok (L := L.drop k) ha.1
    have r8 := s14 (fl := true) (fl' := true) (L := L.drop k) had.sm had.mem had.cores had.codes (by rw [List.length_drop]; omega) hl2
    rw [e2] at r8
    generalize hrb : mrun a (L.drop k) = rb at *
    obtain ⟨b, two⟩ := rb
    dsimp only at hb2 lb r8 hap
    rw [hrm] at hr
    have hm' : m' = b := by have := hrm.trans hap; exact congrArg (·.1) this
    have hks' : ks = one ++ two := by have := hrm.trans hap; exact congrArg (·.2) this
    subst hm'
    refine WO.ct r8 (LA.abt (ds := a.d) rfl abt (LA.own rfl (own_part (L := L) hh rfl (Nat.zero_add _) hkl (by rw [List.length_drop])) (er.refl _) LA.nil)) btt ?_
    refine wk ?_
    rw [show IntKind.i64.wrap ((one.length : Int) + (two.length : Int)) = (one.length : Int) + (two.length : Int) from wrap_in (by rw [List.length_take] at la; rw [List.length_drop] at lb; omega), show ((one.length : Int) + (two.length : Int) == (ks.length : Int)) = true by simp [hks']]
    refine wk ?_
    refine WO.cb (s22 hb2.1.sm hb2.1.sm) (LA.abt (ds := m'.d) rfl abt (LA.abt (ds := m'.d) rfl abt LA.nil)) ?_
    rw [machEq_refl]
    refine wk ?_
    exact W.ret (endQ.sc (.inr rfl) rfl rfl rfl)
  · rw [machNewD, if_pos hk, hk] at r4 r5
    refine wk ?_
    refine WO.ct r4 (LA.ev rfl rfl rfl hh LA.nil) btt ?_
    refine wk ?_
    refine WO.ct r5 (LA.ev rfl rfl rfl hh LA.nil) btt ?_
    refine wk ?_
    refine WO.cb (s23 (m := machNew C) (machNew_sm hC40 hC40')) (LA.cons (show Lend _ (.agg _) _ from Lend.abtE abt erl_last) LA.nil) ?_
    rw [hk]
    refine wk ?_
    by_cases hks : ks = []
    · obtain rfl := q1 hks
      subst hks
      refine wk ?_
      refine WO.cb (s22 hm.sm hm.sm) (LA.abt (ds := m'.d) rfl abt (LA.abt (ds := m'.d) rfl abt LA.nil)) ?_
      rw [machEq_refl]
      refine wk ?_
      exact W.ret (endQ.sc (.inr rfl) rfl rfl rfl)
    obtain ⟨hmk, h4000, hrm⟩ := q2 hks
    have hks0 : ks.length ≠ 0 := fun h => hks (List.length_eq_zero_iff.1 h)
    rw [show (((ks.length : Nat) : Int) == 0) = false by simpa using hks0]
    refine wk ?_
    obtain ⟨x, hx, r6⟩ := s13 (fl := false) (j := 1) (by decide) hbl hbs
    refine WO.ci r6 (LA.imm rfl (LA.int rfl LA.nil)) ?_
    refine wk ?_
    rw [show IntKind.i64.wrap ((L.length : Int) + 1) = (L.length : Int) + 1 from wrap_in (by omega)]
    refine WO.rem rfl rfl (by omega) ?_
    have hx2 := tmod_below (n := (L.length : Int) + 1) hx.1 (by omega)
    generalize x.tmod ((L.length : Int) + 1) = y at *
    obtain ⟨k, rfl⟩ := Int.eq_ofNat_of_zero_le hx2.1
    have hkl : k ≤ L.length := by omega
    refine wk ?_
    refine WO.slch k rfl rfl rfl hkl ?_
    refine wk ?_
    have hK := machOk_iff.1 hmk
    have e1 : mrunD m (L.take k) = mrun m (L.take k) := by rw [mrunD, if_pos (by simp [hmk]; omega)]
    have hl1 : lateOk (L.take k) := fun p hp => hl p (List.mem_of_mem_take hp)
    have hl2 : lateOk (L.drop k) := fun p hp => hl p (List.mem_of_mem_drop hp)
    have ha := mrun_ok (L := L.take k) hK
    have hap : mrun m L = _ := (congrArg (mrun m) (List.take_append_drop k L).symm).trans (mrun_app m (L.take k) (L.drop k))
    have la := mrun_len m (L.take k)
    have r7 := s14 (fl := true) (fl' := true) (L := L.take k) hm.sm hm.mem hm.cores hm.codes (by rw [List.length_take]; omega) hl1
    rw [e1] at r7
    generalize hra : mrun m (L.take k) = ra at *
    obtain ⟨a, one⟩ := ra
    dsimp only at ha hap la r7
    refine WO.ct r7 (LA.abt (ds := m.d) rfl abt (LA.own rfl (own_pre (L := L) hh rfl hkl) (er.refl _) LA.nil)) btt ?_
    refine wk ?_
    refine WO.slcl k rfl rfl rfl hkl ?_
    refine wk ?_
    have hak := machOk_iff.2 ha.1
    have had := ha.1.dr
    have e2 : mrunD a (L.drop k) = mrun a (L.drop k) := by rw [mrunD, if_pos (by simp [hak]; omega)]
    have lb := mrun_len a (L.drop k)
    have hb2 := mrun_ok (L := L.drop k) ha.1
    have r8 := s14 (fl := true) (fl' := true) (L := L.drop k) had.sm had.mem had.cores had.codes (by rw [List.length_drop]; omega) hl2
    rw [e2] at r8
    generalize hrb : mrun a (L.drop k) = rb at *
    obtain ⟨b, two⟩ := rb
    dsimp only at hb2 lb r8 hap
    rw [hrm] at hr
    have hm' : m' = b := by have := hrm.trans hap; exact congrArg (·.1) this
    have hks' : ks = one ++ two := by have := hrm.trans hap; exact congrArg (·.2) this
    subst hm'
    refine WO.ct r8 (LA.abt (ds := a.d) rfl abt (LA.own rfl (own_part (L := L) hh rfl (Nat.zero_add _) hkl (by rw [List.length_drop])) (er.refl _) LA.nil)) btt ?_
    refine wk ?_
    rw [show IntKind.i64.wrap ((one.length : Int) + (two.length : Int)) = (one.length : Int) + (two.length : Int) from wrap_in (by rw [List.length_take] at la; rw [List.length_drop] at lb; omega), show ((one.length : Int) + (two.length : Int) == (ks.length : Int)) = true by simp [hks']]
    refine wk ?_
    refine WO.cb (s22 hb2.1.sm hb2.1.sm) (LA.abt (ds := m'.d) rfl abt (LA.abt (ds := m'.d) rfl abt LA.nil)) ?_
    rw [machEq_refl]
    refine wk ?_
    exact W.ret (endQ.sc (.inr rfl) rfl rfl rfl)
end Go.Proofs.Ytgodaiiegcdpcaa.Abs.MC
end
