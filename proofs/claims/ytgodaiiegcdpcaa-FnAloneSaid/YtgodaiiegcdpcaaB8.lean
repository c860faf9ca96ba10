/- The program's functions, told in that language, and what each of them answers; each theorem bears its own conditions. -/
import Derived.Test.YtgodaiiegcdpcaaB7
section
set_option linter.unusedVariables false
set_option linter.unusedSimpArgs false
namespace Go.Proofs.Ytgodaiiegcdpcaa.Abs.MC
open Go.Proofs.Ytgodaiiegcdpcaa.Abs
set_option linter.unusedSimpArgs false
set_option linter.unusedVariables false
set_option maxRecDepth 10000
theorem machEq_refl (m : Mach) : machEq m m = true := by
  have h1 : ((m.cores.zip m.cores).all fun p => coreEq p.1 p.2) = true := by
    rw [List.all_eq_true]
    intro p hp
    have : p.1 = p.2 := by
      obtain ⟨i, hi⟩ := List.getElem?_of_mem hp
      obtain ⟨a, b⟩ := p
      rw [List.getElem?_zip_eq_some] at hi
      have := hi.1.symm.trans hi.2
      simpa using this
    rw [this]
    simp [coreEq]
  have h2 : ((m.mem.zip m.mem).all fun p => cellEq p.1 p.2) = true := by
    rw [List.all_eq_true]
    intro p hp
    have : p.1 = p.2 := by
      obtain ⟨i, hi⟩ := List.getElem?_of_mem hp
      obtain ⟨a, b⟩ := p
      rw [List.getElem?_zip_eq_some] at hi
      have := hi.1.symm.trans hi.2
      simpa using this
    rw [this]
    simp only [cellEq, decide_true, Bool.true_and]
    cases p.2.getLast? <;> simp
  simp [machEq, h1, h2]
set_option maxHeartbeats 4000000 in
theorem s5 {bs : List B8} : Runs (gam code) (.fn 5 [.c (.imm false 1 bs.length (cl false bs))] [] (.c (.bool true)) []) := by
  refine W.is (fn := a5) rfl rfl ?_
  rw [start_im (by repeat (first | exact Pls.nil | refine Pls.c rfl ?_ | refine Pls.agg ?_))]
  simp only [a5]
  repeat (first | refine wk1 ?_ | (apply WO.cb (s23 ?_); (· exact lends); rotate_left 1; (· assumption)) | (apply WO.cb (s24 ?_); (· exact lends); rotate_left 1; (· assumption)) | (apply WO.cb (s25 ?_); (· exact lends); rotate_left 1; (· assumption)) | (apply WO.cb (s26 ?_); (· exact lends); rotate_left 1; (· assumption)))
  refine WO.cb s10 (LA.imm rfl LA.nil) ?_
  generalize hbig : decide ((1048576 : Int) < bs.length) = g
  cases g
  rotate_left 1
  · repeat (first | refine wk1 ?_ | (apply WO.cb (s23 ?_); (· exact lends); rotate_left 1; (· assumption)) | (apply WO.cb (s24 ?_); (· exact lends); rotate_left 1; (· assumption)) | (apply WO.cb (s25 ?_); (· exact lends); rotate_left 1; (· assumption)) | (apply WO.cb (s26 ?_); (· exact lends); rotate_left 1; (· assumption)))
    exact W.ret (endQ.sc (.inr rfl) rfl rfl rfl)
  have hbl : bs.length < 2 ^ 40 := by have := of_decide_eq_false hbig; omega
  repeat (first | refine wk1 ?_ | (apply WO.cb (s23 ?_); (· exact lends); rotate_left 1; (· assumption)) | (apply WO.cb (s24 ?_); (· exact lends); rotate_left 1; (· assumption)) | (apply WO.cb (s25 ?_); (· exact lends); rotate_left 1; (· assumption)) | (apply WO.cb (s26 ?_); (· exact lends); rotate_left 1; (· assumption)))
  obtain ⟨m, x, ⟨hm, hm4⟩, hl, r0⟩ := s19 hbl
  refine WO.ct r0 (LA.imm rfl LA.nil) btt ?_
  have hsm := hm.sm
  have c1 := s20 (fl := true) (fl' := true) (x := x) hm.sm hl.1 hl.2
  have c2 := s21 (fl := true) (fl' := true) (x := x) hm.sm hl.1 hl.2
  rcases hk : machOk m with _ | _
  · rw [show cstep m x = ([.nil, .nil, .nil, .nil], 1) by rw [cstep, hk]; rfl] at c1 c2
    repeat (first | refine wk1 ?_ | (apply WO.cb (s23 ?_); (· exact lends); rotate_left 1; (· assumption)) | (apply WO.cb (s24 ?_); (· exact lends); rotate_left 1; (· assumption)) | (apply WO.cb (s25 ?_); (· exact lends); rotate_left 1; (· assumption)) | (apply WO.cb (s26 ?_); (· exact lends); rotate_left 1; (· assumption)))
    refine WO.ct c1 (LA.abt (ds := m.d) rfl abt (LA.agg (ds := Enc.d x) rfl LA.nil)) btt ?_
    repeat (first | refine wk1 ?_ | (apply WO.cb (s23 ?_); (· exact lends); rotate_left 1; (· assumption)) | (apply WO.cb (s24 ?_); (· exact lends); rotate_left 1; (· assumption)) | (apply WO.cb (s25 ?_); (· exact lends); rotate_left 1; (· assumption)) | (apply WO.cb (s26 ?_); (· exact lends); rotate_left 1; (· assumption)))
    refine WO.ct c2 (LA.abt (ds := m.d) rfl abt (LA.agg (ds := Enc.d x) rfl LA.nil)) btt ?_
    repeat (first | refine wk1 ?_ | (apply WO.cb (s23 ?_); (· exact lends); rotate_left 1; (· assumption)) | (apply WO.cb (s24 ?_); (· exact lends); rotate_left 1; (· assumption)) | (apply WO.cb (s25 ?_); (· exact lends); rotate_left 1; (· assumption)) | (apply WO.cb (s26 ?_); (· exact lends); rotate_left 1; (· assumption)))
    refine WO.cb (s23 hm.sm) (LA.abt (ds := m.d) rfl abt LA.nil) ?_
    rw [hk]
    repeat (first | refine wk1 ?_ | (apply WO.cb (s23 ?_); (· exact lends); rotate_left 1; (· assumption)) | (apply WO.cb (s24 ?_); (· exact lends); rotate_left 1; (· assumption)) | (apply WO.cb (s25 ?_); (· exact lends); rotate_left 1; (· assumption)) | (apply WO.cb (s26 ?_); (· exact lends); rotate_left 1; (· assumption)))
    refine WO.cb (s24 hm.sm) (LA.abt (ds := m.d) rfl abt LA.nil) ?_
    rw [hk]
    repeat (first | refine wk1 ?_ | (apply WO.cb (s23 ?_); (· exact lends); rotate_left 1; (· assumption)) | (apply WO.cb (s24 ?_); (· exact lends); rotate_left 1; (· assumption)) | (apply WO.cb (s25 ?_); (· exact lends); rotate_left 1; (· assumption)) | (apply WO.cb (s26 ?_); (· exact lends); rotate_left 1; (· assumption)))
    exact W.ret (endQ.sc (.inr rfl) rfl rfl rfl)
  have hK := machOk_iff.1 hk
  rw [show cstep m x = ((mstep m x).1.d, (mstep m x).2) by rw [cstep, hk]; rfl] at c1 c2
  obtain ⟨who, late⟩ := x
  have hko := (mstep_ok (x := ⟨who, late⟩) hK).1
  have hkeep := mstep_keep (m := m) (x := ⟨who, late⟩)
  have hrange : (mstep m ⟨who, late⟩).2 = 0 → ∃ q : Nat, who = (q : Int) ∧ q < m.cores.length := by
    intro h
    rcases hi : inn 0 ((m.cores.length : Int) - 1) who with _ | _
    · rw [mstep, if_pos hi] at h; cases h
    · have hin : 0 ≤ who ∧ who ≤ (m.cores.length : Int) - 1 := by simpa [inn] using hi
      obtain ⟨q, rfl⟩ := Int.eq_ofNat_of_zero_le hin.1
      exact ⟨q, rfl, by omega⟩
  have hkept : ∀ q : Nat, who = (q : Int) → ∀ hq : q < m.cores.length, Kept m q m.cores[q] (mstep m ⟨who, late⟩) := by
    intro q h hq
    subst h
    exact mstep_kept hK (List.getElem?_eq_getElem hq)
  have hcode : (mstep m ⟨who, late⟩).2 = 0 ∨ (mstep m ⟨who, late⟩).2 = 3 ∨ (mstep m ⟨who, late⟩).2 = 2 := by
    rcases hi : inn 0 ((m.cores.length : Int) - 1) who with _ | _
    · rw [mstep, if_pos hi]; omega
    · have hin : 0 ≤ who ∧ who ≤ (m.cores.length : Int) - 1 := by simpa [inn] using hi
      obtain ⟨q, hq⟩ := Int.eq_ofNat_of_zero_le hin.1
      exact (hkept q hq (by omega)).code
  generalize mstep m ⟨who, late⟩ = r at *
  obtain ⟨m', k⟩ := r
  dsimp only at hko hkeep hrange hkept hcode c1 c2
  have hsm' := hko.sm
  repeat (first | refine wk1 ?_ | (apply WO.cb (s23 ?_); (· exact lends); rotate_left 1; (· assumption)) | (apply WO.cb (s24 ?_); (· exact lends); rotate_left 1; (· assumption)) | (apply WO.cb (s25 ?_); (· exact lends); rotate_left 1; (· assumption)) | (apply WO.cb (s26 ?_); (· exact lends); rotate_left 1; (· assumption)))
  refine WO.ct c1 (LA.abt (ds := m.d) rfl abt (LA.agg (ds := Enc.d (⟨who, late⟩ : Pick)) rfl LA.nil)) btt ?_
  repeat (first | refine wk1 ?_ | (apply WO.cb (s23 ?_); (· exact lends); rotate_left 1; (· assumption)) | (apply WO.cb (s24 ?_); (· exact lends); rotate_left 1; (· assumption)) | (apply WO.cb (s25 ?_); (· exact lends); rotate_left 1; (· assumption)) | (apply WO.cb (s26 ?_); (· exact lends); rotate_left 1; (· assumption)))
  refine WO.ct c2 (LA.abt (ds := m.d) rfl abt (LA.agg (ds := Enc.d (⟨who, late⟩ : Pick)) rfl LA.nil)) btt ?_
  repeat (first | refine wk1 ?_ | (apply WO.cb (s23 ?_); (· exact lends); rotate_left 1; (· assumption)) | (apply WO.cb (s24 ?_); (· exact lends); rotate_left 1; (· assumption)) | (apply WO.cb (s25 ?_); (· exact lends); rotate_left 1; (· assumption)) | (apply WO.cb (s26 ?_); (· exact lends); rotate_left 1; (· assumption)))
  rw [show (k != k) = false by simp]
  repeat (first | refine wk1 ?_ | (apply WO.cb (s23 ?_); (· exact lends); rotate_left 1; (· assumption)) | (apply WO.cb (s24 ?_); (· exact lends); rotate_left 1; (· assumption)) | (apply WO.cb (s25 ?_); (· exact lends); rotate_left 1; (· assumption)) | (apply WO.cb (s26 ?_); (· exact lends); rotate_left 1; (· assumption)))
  by_cases h0 : k = 0
  rotate_left 1
  · have hmm := hkeep h0
    subst hmm
    rw [show (k == 0) = false by simpa using h0]
    repeat (first | refine wk1 ?_ | (apply WO.cb (s23 ?_); (· exact lends); rotate_left 1; (· assumption)) | (apply WO.cb (s24 ?_); (· exact lends); rotate_left 1; (· assumption)) | (apply WO.cb (s25 ?_); (· exact lends); rotate_left 1; (· assumption)) | (apply WO.cb (s26 ?_); (· exact lends); rotate_left 1; (· assumption)))
    refine WO.cb (s23 hm.sm) (LA.abt (ds := m'.d) rfl abt LA.nil) ?_
    rw [hk]
    repeat (first | refine wk1 ?_ | (apply WO.cb (s23 ?_); (· exact lends); rotate_left 1; (· assumption)) | (apply WO.cb (s24 ?_); (· exact lends); rotate_left 1; (· assumption)) | (apply WO.cb (s25 ?_); (· exact lends); rotate_left 1; (· assumption)) | (apply WO.cb (s26 ?_); (· exact lends); rotate_left 1; (· assumption)))
    refine WO.cb (s24 hm.sm) (LA.abt (ds := m'.d) rfl abt LA.nil) ?_
    rw [hk]
    repeat (first | refine wk1 ?_ | (apply WO.cb (s23 ?_); (· exact lends); rotate_left 1; (· assumption)) | (apply WO.cb (s24 ?_); (· exact lends); rotate_left 1; (· assumption)) | (apply WO.cb (s25 ?_); (· exact lends); rotate_left 1; (· assumption)) | (apply WO.cb (s26 ?_); (· exact lends); rotate_left 1; (· assumption)))
    rw [show (k == 1) = false by simp; omega]
    repeat (first | refine wk1 ?_ | (apply WO.cb (s23 ?_); (· exact lends); rotate_left 1; (· assumption)) | (apply WO.cb (s24 ?_); (· exact lends); rotate_left 1; (· assumption)) | (apply WO.cb (s25 ?_); (· exact lends); rotate_left 1; (· assumption)) | (apply WO.cb (s26 ?_); (· exact lends); rotate_left 1; (· assumption)))
    rw [show (k != 0) = true by simpa using h0]
    repeat (first | refine wk1 ?_ | (apply WO.cb (s23 ?_); (· exact lends); rotate_left 1; (· assumption)) | (apply WO.cb (s24 ?_); (· exact lends); rotate_left 1; (· assumption)) | (apply WO.cb (s25 ?_); (· exact lends); rotate_left 1; (· assumption)) | (apply WO.cb (s26 ?_); (· exact lends); rotate_left 1; (· assumption)))
    refine WO.cb (s22 hm.sm hm.sm) (LA.abt (ds := m'.d) rfl abt (LA.abt (ds := m'.d) rfl abt LA.nil)) ?_
    rw [machEq_refl]
    repeat (first | refine wk1 ?_ | (apply WO.cb (s23 ?_); (· exact lends); rotate_left 1; (· assumption)) | (apply WO.cb (s24 ?_); (· exact lends); rotate_left 1; (· assumption)) | (apply WO.cb (s25 ?_); (· exact lends); rotate_left 1; (· assumption)) | (apply WO.cb (s26 ?_); (· exact lends); rotate_left 1; (· assumption)))
    exact W.ret (endQ.sc (.inr rfl) rfl rfl rfl)
  subst h0
  repeat (first | refine wk1 ?_ | (apply WO.cb (s23 ?_); (· exact lends); rotate_left 1; (· assumption)) | (apply WO.cb (s24 ?_); (· exact lends); rotate_left 1; (· assumption)) | (apply WO.cb (s25 ?_); (· exact lends); rotate_left 1; (· assumption)) | (apply WO.cb (s26 ?_); (· exact lends); rotate_left 1; (· assumption)))
  refine WO.cb (s22 hsm' hsm') (LA.abt (ds := m'.d) rfl abt (LA.abt (ds := m'.d) rfl abt LA.nil)) ?_
  rw [machEq_refl]
  repeat (first | refine wk1 ?_ | (apply WO.cb (s23 ?_); (· exact lends); rotate_left 1; (· assumption)) | (apply WO.cb (s24 ?_); (· exact lends); rotate_left 1; (· assumption)) | (apply WO.cb (s25 ?_); (· exact lends); rotate_left 1; (· assumption)) | (apply WO.cb (s26 ?_); (· exact lends); rotate_left 1; (· assumption)))
  refine WO.cb (s23 hm.sm) (LA.abt (ds := m.d) rfl abt LA.nil) ?_
  rw [hk]
  repeat (first | refine wk1 ?_ | (apply WO.cb (s23 ?_); (· exact lends); rotate_left 1; (· assumption)) | (apply WO.cb (s24 ?_); (· exact lends); rotate_left 1; (· assumption)) | (apply WO.cb (s25 ?_); (· exact lends); rotate_left 1; (· assumption)) | (apply WO.cb (s26 ?_); (· exact lends); rotate_left 1; (· assumption)))
  refine WO.cb (s24 hm.sm) (LA.abt (ds := m.d) rfl abt LA.nil) ?_
  rw [hk]
  repeat (first | refine wk1 ?_ | (apply WO.cb (s23 ?_); (· exact lends); rotate_left 1; (· assumption)) | (apply WO.cb (s24 ?_); (· exact lends); rotate_left 1; (· assumption)) | (apply WO.cb (s25 ?_); (· exact lends); rotate_left 1; (· assumption)) | (apply WO.cb (s26 ?_); (· exact lends); rotate_left 1; (· assumption)))
  obtain ⟨q, rfl, hq⟩ := hrange rfl
  have hkp := hkept q rfl hq
  obtain ⟨c1, hcs, hgr⟩ := hkp.core
  dsimp only at hcs
  have hcl : m'.cores.length = m.cores.length := by rw [hcs, List.length_set]
  refine W.for (fun i T H n => Ag [(3, .c (.ptr (3, 5, 0, 0) [] 0)), (4, .c (.ptr (3, 6, 0, 0) [] 0)), (5, .c (.ptr (4, 6, 0, 0) [] 0)), (9, .c (.int .i64 ((i : Nat) : Int)))] T ∧ MAt H (3, 5, 0, 0) 3 1 0 m ∧ MAt H (4, 6, 0, 0) 4 2 0 m' ∧ H (3, 6, 0, 0) = some [.int .i64 (q : Int), .int .i64 late] ∧ 6 < n) m.cores.length ⟨⟨rfl, rfl, rfl, rfl, trivial⟩, ⟨hh, hh, hh, hh, hh⟩, ⟨hh, hh, hh, hh, hh⟩, hh, ats⟩ ?_
  rintro i T H n hi ⟨hT, ⟨a0, a1, a2, a3, a4⟩, ⟨b0, b1, b2, b3, b4⟩, hx, hn⟩
  have k3 := hsm.cores
  obtain ⟨T, rfl⟩ := hT.fix
  simp only [ups]
  clear hT
  repeat (first | refine wk1 ?_ | (apply WO.cb (s23 ?_); (· exact lends); rotate_left 1; (· assumption)) | (apply WO.cb (s24 ?_); (· exact lends); rotate_left 1; (· assumption)) | (apply WO.cb (s25 ?_); (· exact lends); rotate_left 1; (· assumption)) | (apply WO.cb (s26 ?_); (· exact lends); rotate_left 1; (· assumption)))
  refine W.if rfl (fun hb => ?_) (fun hb => ?_)
  · have hlt : i < m.cores.length := by simpa using hb
    have hlt' : i < m'.cores.length := by omega
    by_cases hiq : i = q
    · subst hiq
      have hu : m.cores[i]? = some m.cores[i] := List.getElem?_eq_getElem hlt
      have hu' : m'.cores[i]? = some m'.cores[i] := List.getElem?_eq_getElem hlt'
      repeat (first | refine wk1 ?_ | (apply WO.cb (s23 ?_); (· exact lends); rotate_left 1; (· assumption)) | (apply WO.cb (s24 ?_); (· exact lends); rotate_left 1; (· assumption)) | (apply WO.cb (s25 ?_); (· exact lends); rotate_left 1; (· assumption)) | (apply WO.cb (s26 ?_); (· exact lends); rotate_left 1; (· assumption)))
      refine WO.ldRl (L := m.cores) (u := m.cores[i]) rfl hh rfl hu rfl ?_
      repeat (first | refine wk1 ?_ | (apply WO.cb (s23 ?_); (· exact lends); rotate_left 1; (· assumption)) | (apply WO.cb (s24 ?_); (· exact lends); rotate_left 1; (· assumption)) | (apply WO.cb (s25 ?_); (· exact lends); rotate_left 1; (· assumption)) | (apply WO.cb (s26 ?_); (· exact lends); rotate_left 1; (· assumption)))
      refine WO.ldRl (L := m'.cores) (u := m'.cores[i]) rfl hh rfl hu' rfl ?_
      repeat (first | refine wk1 ?_ | (apply WO.cb (s23 ?_); (· exact lends); rotate_left 1; (· assumption)) | (apply WO.cb (s24 ?_); (· exact lends); rotate_left 1; (· assumption)) | (apply WO.cb (s25 ?_); (· exact lends); rotate_left 1; (· assumption)) | (apply WO.cb (s26 ?_); (· exact lends); rotate_left 1; (· assumption)))
      refine WO.nil (dregQ.mk (by repeat (first | exact recheck.nil | (apply recheck.cons; (· first | (refine recheck1.ld rfl rfl ?_; first | rfl | (apply ld_Rl4; (· exact hh); (· rfl); (· assumption); (· rfl)) | (apply ld_cell; (· exact hh); (· rfl); (· rfl)) | (apply ld_all; (· exact hh); (· rfl); (· rfl)) | (apply ld_c; (· rfl); (· assumption)) | (apply ld_f; (· rfl); (· decide); (· assumption); (· rfl)) | (apply ld_f0; (· rfl); (· decide); (· assumption); (· rfl)) | (apply ld_i; (· first | assumption | rfl)) | (apply ld_R; (· exact hh); (· rfl); (· assumption); (· rfl)) | (apply ld_n; (· exact hh); (· assumption)) | (apply ld_S; (· exact hh); (· rfl); (· first | assumption | omega); (· rfl); (· rfl); (· rfl); (· rfl)) | (apply ld_S1; (· exact hh); (· rfl); (· first | assumption | omega); (· rfl)) | (apply ld_Sa; (· exact hh); (· rfl); (· first | assumption | omega); (· rfl); (· rfl))) | exact recheck1.off rfl rfl rfl (by decide) | exact recheck1.offD rfl rfl rfl | exact recheck1.al rfl (by simp) rfl rfl rfl)))) ?_)
      repeat (first | refine wk1 ?_ | (apply WO.cb (s23 ?_); (· exact lends); rotate_left 1; (· assumption)) | (apply WO.cb (s24 ?_); (· exact lends); rotate_left 1; (· assumption)) | (apply WO.cb (s25 ?_); (· exact lends); rotate_left 1; (· assumption)) | (apply WO.cb (s26 ?_); (· exact lends); rotate_left 1; (· assumption)))

      rw [show ((i : Int) != (i : Int)) = false by simp]
      repeat (first | refine wk1 ?_ | (apply WO.cb (s23 ?_); (· exact lends); rotate_left 1; (· assumption)) | (apply WO.cb (s24 ?_); (· exact lends); rotate_left 1; (· assumption)) | (apply WO.cb (s25 ?_); (· exact lends); rotate_left 1; (· assumption)) | (apply WO.cb (s26 ?_); (· exact lends); rotate_left 1; (· assumption)))
      exact ⟨hlt, ⟨rfl, rfl, rfl, wrap_c (by omega), trivial⟩, ⟨hh, hh, hh, hh, hh⟩, ⟨hh, hh, hh, hh, hh⟩, hh, ats⟩
    obtain ⟨u, hu⟩ : ∃ u, m.cores[i]? = some u := ⟨_, List.getElem?_eq_getElem hlt⟩
    have hu' : m'.cores[i]? = some u := by rw [hcs, List.getElem?_set_ne (fun h => hiq h.symm)]; exact hu
    obtain ⟨cat, regs, view, st⟩ := u
    have hus := hsm.core _ (List.mem_of_getElem? hu)
    dsimp only at hus
    repeat (first | refine wk1 ?_ | (apply WO.cb (s23 ?_); (· exact lends); rotate_left 1; (· assumption)) | (apply WO.cb (s24 ?_); (· exact lends); rotate_left 1; (· assumption)) | (apply WO.cb (s25 ?_); (· exact lends); rotate_left 1; (· assumption)) | (apply WO.cb (s26 ?_); (· exact lends); rotate_left 1; (· assumption)))
    refine WO.ldRl (L := m.cores) (u := ⟨cat, regs, view, st⟩) rfl hh rfl hu rfl ?_
    repeat (first | refine wk1 ?_ | (apply WO.cb (s23 ?_); (· exact lends); rotate_left 1; (· assumption)) | (apply WO.cb (s24 ?_); (· exact lends); rotate_left 1; (· assumption)) | (apply WO.cb (s25 ?_); (· exact lends); rotate_left 1; (· assumption)) | (apply WO.cb (s26 ?_); (· exact lends); rotate_left 1; (· assumption)))
    refine WO.ldRl (L := m'.cores) (u := ⟨cat, regs, view, st⟩) rfl hh rfl hu' rfl ?_
    repeat (first | refine wk1 ?_ | (apply WO.cb (s23 ?_); (· exact lends); rotate_left 1; (· assumption)) | (apply WO.cb (s24 ?_); (· exact lends); rotate_left 1; (· assumption)) | (apply WO.cb (s25 ?_); (· exact lends); rotate_left 1; (· assumption)) | (apply WO.cb (s26 ?_); (· exact lends); rotate_left 1; (· assumption)))
    refine WO.nil (dregQ.mk (by repeat (first | exact recheck.nil | (apply recheck.cons; (· first | (refine recheck1.ld rfl rfl ?_; first | rfl | (apply ld_Rl4; (· exact hh); (· rfl); (· assumption); (· rfl)) | (apply ld_cell; (· exact hh); (· rfl); (· rfl)) | (apply ld_all; (· exact hh); (· rfl); (· rfl)) | (apply ld_c; (· rfl); (· assumption)) | (apply ld_f; (· rfl); (· decide); (· assumption); (· rfl)) | (apply ld_f0; (· rfl); (· decide); (· assumption); (· rfl)) | (apply ld_i; (· first | assumption | rfl)) | (apply ld_R; (· exact hh); (· rfl); (· assumption); (· rfl)) | (apply ld_n; (· exact hh); (· assumption)) | (apply ld_S; (· exact hh); (· rfl); (· first | assumption | omega); (· rfl); (· rfl); (· rfl); (· rfl)) | (apply ld_S1; (· exact hh); (· rfl); (· first | assumption | omega); (· rfl)) | (apply ld_Sa; (· exact hh); (· rfl); (· first | assumption | omega); (· rfl); (· rfl))) | exact recheck1.off rfl rfl rfl (by decide) | exact recheck1.offD rfl rfl rfl | exact recheck1.al rfl (by simp) rfl rfl rfl)))) ?_)
    repeat (first | refine wk1 ?_ | (apply WO.cb (s23 ?_); (· exact lends); rotate_left 1; (· assumption)) | (apply WO.cb (s24 ?_); (· exact lends); rotate_left 1; (· assumption)) | (apply WO.cb (s25 ?_); (· exact lends); rotate_left 1; (· assumption)) | (apply WO.cb (s26 ?_); (· exact lends); rotate_left 1; (· assumption)))
    rw [show ((i : Int) != (q : Int)) = true by simp; omega]
    repeat (first | refine wk1 ?_ | (apply WO.cb (s23 ?_); (· exact lends); rotate_left 1; (· assumption)) | (apply WO.cb (s24 ?_); (· exact lends); rotate_left 1; (· assumption)) | (apply WO.cb (s25 ?_); (· exact lends); rotate_left 1; (· assumption)) | (apply WO.cb (s26 ?_); (· exact lends); rotate_left 1; (· assumption)))
    rw [show (cat != cat) = false by simp]
    repeat (first | refine wk1 ?_ | (apply WO.cb (s23 ?_); (· exact lends); rotate_left 1; (· assumption)) | (apply WO.cb (s24 ?_); (· exact lends); rotate_left 1; (· assumption)) | (apply WO.cb (s25 ?_); (· exact lends); rotate_left 1; (· assumption)) | (apply WO.cb (s26 ?_); (· exact lends); rotate_left 1; (· assumption)))
    rw [show (st != st) = false by simp]
    repeat (first | refine wk1 ?_ | (apply WO.cb (s23 ?_); (· exact lends); rotate_left 1; (· assumption)) | (apply WO.cb (s24 ?_); (· exact lends); rotate_left 1; (· assumption)) | (apply WO.cb (s25 ?_); (· exact lends); rotate_left 1; (· assumption)) | (apply WO.cb (s26 ?_); (· exact lends); rotate_left 1; (· assumption)))
    refine WO.cb (s25 (fl := true) (fl' := true) (a := regs) (b := regs) hus.1) (LA.evp 4 1 rfl hh rfl hu rfl rfl rfl (LA.evp 4 1 rfl hh rfl hu' rfl rfl rfl LA.nil)) ?_
    rw [show decide (regs = regs) = true from decide_eq_true rfl]
    repeat (first | refine wk1 ?_ | (apply WO.cb (s23 ?_); (· exact lends); rotate_left 1; (· assumption)) | (apply WO.cb (s24 ?_); (· exact lends); rotate_left 1; (· assumption)) | (apply WO.cb (s25 ?_); (· exact lends); rotate_left 1; (· assumption)) | (apply WO.cb (s26 ?_); (· exact lends); rotate_left 1; (· assumption)))
    refine WO.cb (s25 (fl := true) (fl' := true) (a := view) (b := view) hus.2) (LA.evp 4 2 rfl hh rfl hu rfl rfl rfl (LA.evp 4 2 rfl hh rfl hu' rfl rfl rfl LA.nil)) ?_
    rw [show decide (view = view) = true from decide_eq_true rfl]
    repeat (first | refine wk1 ?_ | (apply WO.cb (s23 ?_); (· exact lends); rotate_left 1; (· assumption)) | (apply WO.cb (s24 ?_); (· exact lends); rotate_left 1; (· assumption)) | (apply WO.cb (s25 ?_); (· exact lends); rotate_left 1; (· assumption)) | (apply WO.cb (s26 ?_); (· exact lends); rotate_left 1; (· assumption)))
    exact ⟨hlt, ⟨rfl, rfl, rfl, wrap_c (by omega), trivial⟩, ⟨hh, hh, hh, hh, hh⟩, ⟨hh, hh, hh, hh, hh⟩, hh, ats⟩
  · have hge : i = m.cores.length := by simp at hb; omega
    subst hge
    refine W.exit ?_
    show W _ _ _ _
    repeat (first | refine wk1 ?_ | (apply WO.cb (s23 ?_); (· exact lends); rotate_left 1; (· assumption)) | (apply WO.cb (s24 ?_); (· exact lends); rotate_left 1; (· assumption)) | (apply WO.cb (s25 ?_); (· exact lends); rotate_left 1; (· assumption)) | (apply WO.cb (s26 ?_); (· exact lends); rotate_left 1; (· assumption)))
    obtain ⟨u, hu⟩ : ∃ u, m.cores[q]? = some u := ⟨_, List.getElem?_eq_getElem hq⟩
    have hu' : m'.cores[q]? = some c1 := by rw [hcs, List.getElem?_set_self hq]
    have hus := hsm.core _ (List.mem_of_getElem? hu)
    have hus' := hsm'.core _ (List.mem_of_getElem? hu')
    have huq : m.cores[q] = u := (List.getElem?_eq_some_iff.1 hu).2
    rw [huq] at hgr
    obtain ⟨cat, regs, view, st⟩ := u
    obtain ⟨cat', regs', view', st'⟩ := c1
    dsimp only at hus hus' hgr
    have hlq : q < m'.cores.length := by omega
    refine WO.cb (s23 hsm') (LA.abt (ds := m'.d) rfl abt LA.nil) ?_
    rw [machOk_iff.2 hko]
    repeat (first | refine wk1 ?_ | (apply WO.cb (s23 ?_); (· exact lends); rotate_left 1; (· assumption)) | (apply WO.cb (s24 ?_); (· exact lends); rotate_left 1; (· assumption)) | (apply WO.cb (s25 ?_); (· exact lends); rotate_left 1; (· assumption)) | (apply WO.cb (s26 ?_); (· exact lends); rotate_left 1; (· assumption)))
    refine WO.ldCl (L := m'.cores) (u := ⟨cat', regs', view', st'⟩) rfl hh rfl hu' rfl rfl ?_
    repeat (first | refine wk1 ?_ | (apply WO.cb (s23 ?_); (· exact lends); rotate_left 1; (· assumption)) | (apply WO.cb (s24 ?_); (· exact lends); rotate_left 1; (· assumption)) | (apply WO.cb (s25 ?_); (· exact lends); rotate_left 1; (· assumption)) | (apply WO.cb (s26 ?_); (· exact lends); rotate_left 1; (· assumption)))
    refine WO.ldCl (L := m.cores) (u := ⟨cat, regs, view, st⟩) rfl hh rfl hu rfl rfl ?_
    repeat (first | refine wk1 ?_ | (apply WO.cb (s23 ?_); (· exact lends); rotate_left 1; (· assumption)) | (apply WO.cb (s24 ?_); (· exact lends); rotate_left 1; (· assumption)) | (apply WO.cb (s25 ?_); (· exact lends); rotate_left 1; (· assumption)) | (apply WO.cb (s26 ?_); (· exact lends); rotate_left 1; (· assumption)))
    refine WO.cb (s26 (fl := true) (fl' := true) (a := view') (b := view) hus'.2) (LA.evp 4 2 rfl hh rfl hu' rfl rfl rfl (LA.evp 4 2 rfl hh rfl hu rfl rfl rfl LA.nil)) ?_
    rw [knows_of hgr]
    repeat (first | refine wk1 ?_ | (apply WO.cb (s23 ?_); (· exact lends); rotate_left 1; (· assumption)) | (apply WO.cb (s24 ?_); (· exact lends); rotate_left 1; (· assumption)) | (apply WO.cb (s25 ?_); (· exact lends); rotate_left 1; (· assumption)) | (apply WO.cb (s26 ?_); (· exact lends); rotate_left 1; (· assumption)))
    exact W.ret (endQ.sc (.inr rfl) rfl rfl rfl)
end Go.Proofs.Ytgodaiiegcdpcaa.Abs.MC
end
section
set_option linter.unusedVariables false
set_option linter.unusedSimpArgs false
namespace Go.Proofs.Ytgodaiiegcdpcaa.Abs.MC
open Go.Proofs.Ytgodaiiegcdpcaa.Abs
set_option linter.unusedSimpArgs false
set_option linter.unusedVariables false
set_option maxRecDepth 10000
set_option maxHeartbeats 4000000 in
theorem s97 {c0 : Cur} {s : Step} (hc0 : c0.ok) : ∃ (s' : Step) (c' : Cur), c'.ok ∧ Runs (gam code) (.fn 97 [.c (.ptr (0, 0, 0, 0) [] 0), .agg (imL true (Enc.d s))] [c0.C] (.agg (owL (Enc.d s'))) [c'.C]) := by
  suffices h : ∃ v c', (∃ s' : Step, v = .agg (owL (Enc.d s')) ∧ Cur.ok c') ∧ Runs (gam code) (.fn 97 [.c (.ptr (0, 0, 0, 0) [] 0), .agg (imL true (Enc.d s))] [c0.C] v [Cur.C c']) by
    obtain ⟨_, c', ⟨x, rfl, h3⟩, h2⟩ := h
    exact ⟨x, c', h3, h2⟩
  obtain ⟨op, r, a, b, m⟩ := s
  change ∃ v c', (∃ s' : Step, v = .agg (owL (Enc.d s')) ∧ Cur.ok c') ∧ Runs (gam code) (.fn 97 [.c (.ptr (0, 0, 0, 0) [] 0), .agg [.int .i64 op, .int .i64 r, .int .i64 a, .int .i64 b, .int .i64 m]] [c0.C] v [Cur.C c'])
  refine W.cur (fn := a97) rfl rfl ?_
  rw [start_im (by repeat (first | exact Pls.nil | refine Pls.c rfl ?_ | exact Pls.agg (fl := true) (ds := Enc.d (⟨op, r, a, b, m⟩ : Step)) Pls.nil))]
  simp only [a97]
  refine wk ?_
  obtain ⟨x1, c1, hx1, hc1, r1⟩ := s61 (c := c0) (n := 6) hc0 ats ats
  refine WO.curi rfl hh (LA.int rfl LA.nil) r1 ?_
  refine wk ?_
  by_cases e0 : x1 = 0
  · subst e0
    refine wk ?_
    obtain ⟨x2, c2, hx2, hc2, r2⟩ := s61 (c := c1) (n := 16) hc1 ats ats
    refine WO.curi rfl hh (LA.int rfl LA.nil) r2 ?_
    refine wk ?_
    exact W.ret ⟨.inr rfl, _, _, c2, Ans.cell rfl hh rfl rfl abt Ans.nil, hh, (⟨_, r, a, b, m⟩ : Step), rfl, hc2⟩
  rw [show (x1 == 0) = false by simpa using e0]
  refine wk ?_
  by_cases e1 : x1 = 1
  · subst e1
    refine wk ?_
    refine WO.bsI [-1, 7, 8] ats rfl rfl ?_
    refine wk ?_
    obtain ⟨x2, c2, hx2, hc2, r2⟩ := s62 (c := c1) (fl := true) (L := [-1, 7, 8]) hc1 (by simp) (by simp)
    refine WO.curi rfl hh (LA.ev (L := [-1, 7, 8]) rfl rfl rfl hh LA.nil) r2 ?_
    refine wk ?_
    exact W.ret ⟨.inr rfl, _, _, c2, Ans.cell rfl hh rfl rfl abt Ans.nil, hh, (⟨op, _, a, b, m⟩ : Step), rfl, hc2⟩
  rw [show (x1 == 1) = false by simpa using e1]
  refine wk ?_
  by_cases e2 : x1 = 2
  · subst e2
    refine wk ?_
    refine WO.bsI [-2, -1, 7, 8] ats rfl rfl ?_
    refine wk ?_
    obtain ⟨x2, c2, hx2, hc2, r2⟩ := s62 (c := c1) (fl := true) (L := [-2, -1, 7, 8]) hc1 (by simp) (by simp)
    refine WO.curi rfl hh (LA.ev (L := [-2, -1, 7, 8]) rfl rfl rfl hh LA.nil) r2 ?_
    refine wk ?_
    exact W.ret ⟨.inr rfl, _, _, c2, Ans.cell rfl hh rfl rfl abt Ans.nil, hh, (⟨op, r, _, b, m⟩ : Step), rfl, hc2⟩
  rw [show (x1 == 2) = false by simpa using e2]
  refine wk ?_
  by_cases e3 : x1 = 3
  · subst e3
    refine wk ?_
    refine WO.bsI [-1, 24, 1000000000, 1000000001, 699, 700] ats rfl rfl ?_
    refine wk ?_
    obtain ⟨x2, c2, hx2, hc2, r2⟩ := s62 (c := c1) (fl := true) (L := [-1, 24, 1000000000, 1000000001, 699, 700]) hc1 (by simp) (by simp)
    refine WO.curi rfl hh (LA.ev (L := [-1, 24, 1000000000, 1000000001, 699, 700]) rfl rfl rfl hh LA.nil) r2 ?_
    refine wk ?_
    exact W.ret ⟨.inr rfl, _, _, c2, Ans.cell rfl hh rfl rfl abt Ans.nil, hh, (⟨op, r, a, b, _⟩ : Step), rfl, hc2⟩
  rw [show (x1 == 3) = false by simpa using e3]
  refine wk ?_
  exact W.ret ⟨.inr rfl, _, _, c1, Ans.cell rfl hh rfl rfl abt Ans.nil, hh, (⟨op, r, a, b, m⟩ : Step), rfl, hc1⟩
end Go.Proofs.Ytgodaiiegcdpcaa.Abs.MC
end
section
set_option linter.unusedVariables false
set_option linter.unusedSimpArgs false
namespace Go.Proofs.Ytgodaiiegcdpcaa.Abs.MC
open Go.Proofs.Ytgodaiiegcdpcaa.Abs
set_option linter.unusedSimpArgs false
set_option linter.unusedVariables false
set_option maxRecDepth 10000
theorem seg_back {α : Type} [Enc α] {L : List α} {q : Nat} {x : α} (hq : q < L.length) : seg L q (owL (Enc.d x)) = co (L.set q x) := by
  rw [seg_co (L := L.set q x) (q := q) (x := x) (by simp [hq])]
  simp [seg, List.take_set_of_le, List.drop_set_of_lt]
set_option maxHeartbeats 4000000 in
theorem s40 {bs : List B8} (hb : bs.length < 2 ^ 40) : ∃ L : List (List Step), (L.length ≤ 5 ∧ ∀ S ∈ L, S.length ≤ 15) ∧ Runs (gam code) (.fn 40 [.c (.imm false 1 bs.length (cl false bs))] [] (.c (rS L).ow) []) := by
  suffices h : ∃ v, (∃ L : List (List Step), (L.length ≤ 5 ∧ ∀ S ∈ L, S.length ≤ 15) ∧ v = .c (rS L).ow) ∧ Runs (gam code) (.fn 40 [.c (.imm false 1 bs.length (cl false bs))] [] v []) by
    obtain ⟨_, ⟨L, h1, rfl⟩, h2⟩ := h
    exact ⟨L, h1, h2⟩
  refine W.ans (fn := a40) rfl rfl ?_
  rw [start_im (by repeat (first | exact Pls.nil | refine Pls.c rfl ?_ | refine Pls.agg ?_))]
  simp only [a40]
  refine wk ?_
  obtain ⟨c0, hc0, r0⟩ := s59 hb
  refine WO.cbx r0 (LA.imm rfl LA.nil) ?_
  refine wk ?_
  obtain ⟨x1, c1, hx1, hc1, r1⟩ := s61 (c := c0) (n := 4) hc0 ats ats
  refine WO.curi rfl hh (LA.int rfl LA.nil) r1 ?_
  refine wk ?_
  rw [show IntKind.i64.wrap (1 + x1) = 1 + x1 from wrap_in (by omega)]
  obtain ⟨x2, c2, hc2, r2⟩ := s95 (c := c1) (n := 9) hc1 ats ats
  refine WO.curb rfl hh (LA.int rfl LA.nil) r2 ?_
  refine wk ?_
  refine W.if rfl (fun hb => ?_) (fun hb => ?_)
  · refine wk ?_
    refine WO.bsI [0, 5] ats rfl rfl ?_
    refine wk ?_
    obtain ⟨x3, c3, hx3, hc3, r3⟩ := s62 (c := c2) (fl := true) (L := [0, 5]) hc2 (by simp) (by simp)
    refine WO.curi rfl hh (LA.ev (L := [0, 5]) rfl rfl rfl hh LA.nil) r3 ?_
    have hx3' : 0 ≤ x3 ∧ x3 ≤ 5 := by simp at hx3; omega
    have hcc := hc3
    clear hc0 hc1 hc2 r0 r1 r2 r3
    refine wk ?_
    refine W.for (fun i T H n => ∃ (e : Id) (c : Cur) (L : List (List Step)), Ag [(3, .c (.ptr (2, 1, 0, 0) [] 0)), (4, .c (.ref e [] 1 0 i)), (5, .c (.int .i64 x3)), (6, .c (.int .i64 ((i : Nat) : Int)))] T ∧ H e = some (co L) ∧ L.length = i ∧ (∀ S ∈ L, S.length ≤ 15) ∧ H (2, 1, 0, 0) = some c.C ∧ c.ok ∧ e.1 < n ∧ 2 < e.1) 5
      ⟨_, _, [], ⟨rfl, rfl, rfl, rfl, trivial⟩, hh, rfl, by simp, hh, hcc, ats, ats⟩ ?_
    rintro i T H n hi ⟨e, c0, L, hT, hH, hLl, hok, hr, hc0, hn1, hn2⟩
    obtain ⟨T, rfl⟩ := hT.fix
    simp only [ups]
    clear hT
    refine wk ?_
    refine W.if rfl (fun hb => ?_) (fun hb => ?_)
    · have hlt : i < 5 := by (have := of_decide_eq_true hb; omega)
      refine wk ?_
      obtain ⟨S, c1, hS, hc1, r1⟩ := s96 hc0
      refine WO.curr rfl hh LA.nil r1 ?_
      refine wk ?_
      obtain ⟨x2, c2, hc2, r2⟩ := s95 (c := c1) (n := 9) hc1 ats ats
      refine WO.curb rfl hh (LA.int rfl LA.nil) r2 ?_
      refine wk ?_
      refine W.if rfl (fun hb => ?_) (fun hb => ?_)
      · have hq : 0 < S.length := by omega
        obtain ⟨s0, hs0⟩ : ∃ s0, S[0]? = some s0 := ⟨_, List.getElem?_eq_getElem hq⟩
        refine wk ?_
        obtain ⟨s1, c3, hc3, r3⟩ := s97 (s := s0) hc2
        refine WO.curs rfl hh (LA.agg (ds := Enc.d s0) rfl LA.nil) r3 rfl ?_
        rw [show co S = seg S 0 (owL (Enc.d s0)) from seg_co hs0]
        refine wk ?_
        rw [seg_back (x := s1) hq]
        refine WO.ap1r (S.set 0 s1) rfl hh rfl hLl (by omega) rfl hh (AbT.row (L := S.set 0 s1) hh rfl (by simp) AbT.nil) ?_
        refine wk ?_
        exact ⟨hlt, _, c3, L ++ [(S.set 0 s1)], ⟨rfl, rfl, rfl, wrap_c (by omega), trivial⟩, hh, by simp [hLl], snoc_all hok (by simp; omega), hh, hc3, ats, ats⟩
      · refine wk ?_
        refine WO.ap1r S rfl hh rfl hLl (by omega) rfl hh abt ?_
        refine wk ?_
        exact ⟨hlt, _, c2, L ++ [S], ⟨rfl, rfl, rfl, wrap_c (by omega), trivial⟩, hh, by simp [hLl], snoc_all hok (by omega), hh, hc2, ats, ats⟩
    · refine W.exit ?_
      show W _ _ _ _
      refine wk ?_
      exact W.ret (endQ.many (.inr rfl) (Ans.row (L := L) rfl rfl hLl hh Ans.nil) ⟨L, ⟨by omega, hok⟩, rfl⟩)
  · have hcc := hc2
    clear hc0 hc1 r0 r1 r2
    refine wk ?_
    refine W.for (fun i T H n => ∃ (e : Id) (c : Cur) (L : List (List Step)), Ag [(3, .c (.ptr (2, 1, 0, 0) [] 0)), (4, .c (.ref e [] 1 0 i)), (5, .c (.int .i64 (1 + x1))), (6, .c (.int .i64 ((i : Nat) : Int)))] T ∧ H e = some (co L) ∧ L.length = i ∧ (∀ S ∈ L, S.length ≤ 15) ∧ H (2, 1, 0, 0) = some c.C ∧ c.ok ∧ e.1 < n ∧ 2 < e.1) 5
      ⟨_, _, [], ⟨rfl, rfl, rfl, rfl, trivial⟩, hh, rfl, by simp, hh, hcc, ats, ats⟩ ?_
    rintro i T H n hi ⟨e, c0, L, hT, hH, hLl, hok, hr, hc0, hn1, hn2⟩
    obtain ⟨T, rfl⟩ := hT.fix
    simp only [ups]
    clear hT
    refine wk ?_
    refine W.if rfl (fun hb => ?_) (fun hb => ?_)
    · have hlt : i < 5 := by (have := of_decide_eq_true hb; omega)
      refine wk ?_
      obtain ⟨S, c1, hS, hc1, r1⟩ := s96 hc0
      refine WO.curr rfl hh LA.nil r1 ?_
      refine wk ?_
      obtain ⟨x2, c2, hc2, r2⟩ := s95 (c := c1) (n := 9) hc1 ats ats
      refine WO.curb rfl hh (LA.int rfl LA.nil) r2 ?_
      refine wk ?_
      refine W.if rfl (fun hb => ?_) (fun hb => ?_)
      · have hq : 0 < S.length := by omega
        obtain ⟨s0, hs0⟩ : ∃ s0, S[0]? = some s0 := ⟨_, List.getElem?_eq_getElem hq⟩
        refine wk ?_
        obtain ⟨s1, c3, hc3, r3⟩ := s97 (s := s0) hc2
        refine WO.curs rfl hh (LA.agg (ds := Enc.d s0) rfl LA.nil) r3 rfl ?_
        rw [show co S = seg S 0 (owL (Enc.d s0)) from seg_co hs0]
        refine wk ?_
        rw [seg_back (x := s1) hq]
        refine WO.ap1r (S.set 0 s1) rfl hh rfl hLl (by omega) rfl hh (AbT.row (L := S.set 0 s1) hh rfl (by simp) AbT.nil) ?_
        refine wk ?_
        exact ⟨hlt, _, c3, L ++ [(S.set 0 s1)], ⟨rfl, rfl, rfl, wrap_c (by omega), trivial⟩, hh, by simp [hLl], snoc_all hok (by simp; omega), hh, hc3, ats, ats⟩
      · refine wk ?_
        refine WO.ap1r S rfl hh rfl hLl (by omega) rfl hh abt ?_
        refine wk ?_
        exact ⟨hlt, _, c2, L ++ [S], ⟨rfl, rfl, rfl, wrap_c (by omega), trivial⟩, hh, by simp [hLl], snoc_all hok (by omega), hh, hc2, ats, ats⟩
    · refine W.exit ?_
      show W _ _ _ _
      refine wk ?_
      exact W.ret (endQ.many (.inr rfl) (Ans.row (L := L) rfl rfl hLl hh Ans.nil) ⟨L, ⟨by omega, hok⟩, rfl⟩)
end Go.Proofs.Ytgodaiiegcdpcaa.Abs.MC
end
section
set_option linter.unusedVariables false
set_option linter.unusedSimpArgs false
namespace Go.Proofs.Ytgodaiiegcdpcaa.Abs.MC
open Go.Proofs.Ytgodaiiegcdpcaa.Abs
set_option linter.unusedSimpArgs false
set_option linter.unusedVariables false
set_option maxRecDepth 10000
def bytesOk (bs : List B8) : Prop := ∀ b ∈ bs, 0 ≤ b.v ∧ b.v < 256
theorem s13 {fl : Bool} {bs : List B8} {j : Nat} (h1 : j < 2 ^ 32) (hb : bs.length < 2 ^ 40) (hr : bytesOk bs) : ∃ x : Int, (0 ≤ x ∧ x < 256) ∧ Runs (gam code) (.fn 13 [.c (.imm fl 1 bs.length (cl fl bs)), .c (.int .i64 (j : Int))] [] (.c (.int .i64 x)) []) := by
  suffices h : ∃ v, (∃ x : Int, (0 ≤ x ∧ x < 256) ∧ v = .c (.int .i64 x)) ∧ Runs (gam code) (.fn 13 [.c (.imm fl 1 bs.length (cl fl bs)), .c (.int .i64 (j : Int))] [] v []) by
    obtain ⟨_, ⟨x, hx, rfl⟩, h2⟩ := h
    exact ⟨x, hx, h2⟩
  refine W.ans (fn := a13) rfl rfl ?_
  rw [start_im (by repeat (first | exact Pls.nil | refine Pls.c rfl ?_ | refine Pls.agg ?_))]
  simp only [a13]
  refine wk ?_
  refine W.if rfl (fun hb => ?_) (fun hb => ?_)
  · have hlt : j < bs.length := by simpa using hb
    have hx : bs[j]? = some bs[j] := List.getElem?_eq_getElem hlt
    have hq := hr bs[j] (List.getElem_mem _)
    refine wk ?_
    exact W.ret (endQ.sc (.inr rfl) rfl rfl ⟨_, by rw [wrap_in (by omega)]; exact hq, rfl⟩)
  · refine wk ?_
    rw [show IntKind.i64.wrap ((j : Int) * 7) = (j : Int) * 7 from wrap_in (by omega), show IntKind.i64.wrap ((j : Int) * 7 + bs.length) = (j : Int) * 7 + bs.length from wrap_in (by omega)]
    exact W.ret (endQ.sc (.inr rfl) rfl rfl ⟨_, tmod_below (by omega) (by decide), rfl⟩)
set_option maxHeartbeats 4000000 in
theorem s38 {bs : List B8} (hb : bs.length < 2 ^ 40) : ∃ (m : Mach) (L : List Pick), (m.dr ∧ m.cores.length ≤ 4) ∧ (picksOk L ∧ L.length ≤ 600) ∧ Runs (gam code) (.fn 38 [.c (.imm false 1 bs.length (cl false bs))] [] (.tup [.agg (owL m.d), .c (rS L).ow]) []) := by
  suffices h : ∃ v, (∃ (m : Mach) (L : List Pick), (m.dr ∧ m.cores.length ≤ 4) ∧ (picksOk L ∧ L.length ≤ 600) ∧ v = .tup [.agg (owL m.d), .c (rS L).ow]) ∧ Runs (gam code) (.fn 38 [.c (.imm false 1 bs.length (cl false bs))] [] v []) by
    obtain ⟨_, ⟨m, x, hm, hx, rfl⟩, h2⟩ := h
    exact ⟨m, x, hm, hx, h2⟩
  refine W.ans (fn := a38) rfl rfl ?_
  rw [start_im (by repeat (first | exact Pls.nil | refine Pls.c rfl ?_ | refine Pls.agg ?_))]
  simp only [a38]
  refine wk ?_
  obtain ⟨c0, hc0, r0⟩ := s59 hb
  refine WO.cbx r0 (LA.imm rfl LA.nil) ?_
  refine wk ?_
  obtain ⟨m, c1, ⟨hm, _⟩, hc1, r1⟩ := s60 hc0
  refine WO.cura rfl hh LA.nil r1 brr ?_
  refine wk ?_
  have hm4 := hm.2
  rw [show IntKind.i64.wrap ((m.cores.length : Int) + 1) = (m.cores.length : Int) + 1 from wrap_in (by omega)]
  obtain ⟨P, c2, hP, hc2, r2⟩ := s94 (cores := (m.cores.length : Int) + 1) (most := 15) hc1 (by omega) (by omega) (by omega)
  refine WO.curr rfl hh lends r2 ?_
  refine wk ?_
  exact W.ret (endQ.many (.inr rfl) ansr ⟨m, P, hm, hP, rfl⟩)
end Go.Proofs.Ytgodaiiegcdpcaa.Abs.MC
end
section
set_option linter.unusedVariables false
set_option linter.unusedSimpArgs false
namespace Go.Proofs.Ytgodaiiegcdpcaa.Abs.MC
open Go.Proofs.Ytgodaiiegcdpcaa.Abs
set_option linter.unusedSimpArgs false
set_option linter.unusedVariables false
set_option maxRecDepth 10000
theorem s42 : Runs (gam code) (.fn 42 [] [] (.agg (owL (memD memNew))) []) := by
  refine W.is (fn := a42) rfl rfl ?_
  rw [start_im (by repeat (first | exact Pls.nil | refine Pls.c rfl ?_ | refine Pls.agg ?_))]
  simp only [a42]
  refine wk ?_
  refine W.for (fun i T H n => ∃ c, Ag [(0, .c (.ptr (1, 0, 0, 0) [] 0)), (1, .c (.ptr (2, 1, 0, 0) [] 0)), (3, .c (.int .i64 ((i : Nat) : Int)))] T ∧ H (1, 0, 0, 0) = some [.nils] ∧ H (2, 1, 0, 0) = some [c] ∧ RowN H n c i ∧ 2 < n) memNew.length ⟨.nils, ⟨rfl, rfl, rfl, trivial⟩, hh, hh, .inl ⟨rfl, rfl⟩, ats⟩ ?_
  rintro i T H n hi ⟨c, hT, hH0, hH2, hc, hn⟩
  have hl : memNew.length = 24 := by simp [memNew]
  obtain ⟨T, rfl⟩ := hT.fix
  simp only [ups]
  clear hT
  refine wk ?_
  refine W.if rfl (fun hb => ?_) (fun hb => ?_)
  · have hlt : i < memNew.length := by simp at hb; omega
    have hx : memNew[i]? = some [⟨0, List.replicate 24 0⟩] := by rw [memNew, List.getElem?_replicate, if_pos (by omega)]
    rcases hc with ⟨rfl, hcn⟩ | ⟨e, es, xs, rfl, hce, hxl, ho, hc2, hc3, hc4, hc5⟩
    · refine wk ?_
      refine WO.apgn rfl (by omega) rfl hh rfl rfl rfl (absorb_ref hh rfl) ?_
      refine wk ?_
      refine ⟨hlt, _, ⟨rfl, rfl, wrap_c (by omega), trivial⟩, hh, hh, .inr ⟨_, [(n + 1, 2, 0, 0)], _, by subst hcn; rfl, hh, by subst hcn; rfl, ?_, ats, ats, by simp, by intro e' he'; simp only [List.mem_singleton] at he'; subst he'; exact ⟨ats, ats⟩⟩, ats⟩
      subst hcn
      exact own_cell hh
    · refine wk ?_
      refine WO.apg rfl hh hxl (by omega) rfl hh rfl rfl rfl (absorb_ref hh rfl) ?_
      refine wk ?_
      refine ⟨hlt, _, ⟨rfl, rfl, wrap_c (by omega), trivial⟩, hh, hh, .inr ⟨_, es ++ [(n + 1, 2, 0, 0)], _, rfl, hh, by simp [hxl], ?_, ats, ats, ?_, ?_⟩, ats⟩
      · rw [flat_snoc hx]
        refine Owns.append (ho.mono fun e' he' => ?_) (own_cell hh) ?_
        · have h5 := hc5 e' he'
          have h6 : e' ≠ e := fun h => hc4 (h ▸ he')
          rw [up_ne (ne_id (by dsimp only; omega)) rfl, up_ne (ne_id (by dsimp only; omega)) rfl, up_ne (ne_id (by dsimp only; omega)) rfl, upd_ne _ _ h6, up_ne (ne_id (by dsimp only; omega)) rfl, up_ne (ne_id (by dsimp only; omega)) rfl, up_ne (ne_id (by dsimp only; omega)) rfl]
        · intro e' he' hm
          have h5 := hc5 e' he'
          simp only [List.mem_singleton] at hm
          subst hm
          dsimp only at h5
          omega
      · intro hm
        rcases List.mem_append.1 hm with hm | hm
        · have h5 := hc5 _ hm
          dsimp only at h5
          omega
        · simp at hm
      · intro e' hm
        rcases List.mem_append.1 hm with hm | hm
        · have h5 := hc5 _ hm
          exact ⟨ats, h5.2⟩
        · simp only [List.mem_singleton] at hm
          subst hm
          exact ⟨ats, ats⟩
  · have hge : i = memNew.length := by simp at hb; omega
    subst hge
    rcases hc with ⟨rfl, hcn⟩ | ⟨e, es, xs, rfl, hce, hxl, ho, hc2, hc3, hc4, hc5⟩
    · omega
    refine W.exit ?_
    show W _ _ _ _
    refine wk ?_
    rw [List.take_length] at ho
    have hown : Own (upd H (1, 0, 0, 0) (some [C.ref e [] 1 0 memNew.length])) (e :: es) (.ref e [] 1 0 memNew.length) (rS memNew) := by
      refine Own.ref hh (dlen _) hc4 (ho.mono fun e' he' => ?_)
      have h5 := hc5 e' he'
      exact up_ne (ne_id (by dsimp only; omega)) rfl
    exact W.ret (endQ.owns (.inr rfl) rfl hh rfl rfl hown.one rfl)
end Go.Proofs.Ytgodaiiegcdpcaa.Abs.MC
end
section
set_option linter.unusedVariables false
set_option linter.unusedSimpArgs false
namespace Go.Proofs.Ytgodaiiegcdpcaa.Abs.MC
open Go.Proofs.Ytgodaiiegcdpcaa.Abs
set_option linter.unusedSimpArgs false
set_option linter.unusedVariables false
set_option maxRecDepth 10000
def Two (codes : List (List Step)) (H : Heap) (n : Nat) (c0 c1 : C) (i : Nat) : Prop := (c0 = .nils ∧ c1 = .nils ∧ i = 0) ∨ ∃ e0 e1 : Id, c0 = .ref e0 [] 1 0 i ∧ c1 = .ref e1 [] 4 0 i ∧ H e0 = some (co (codes.take i)) ∧ H e1 = some (co ((machNew codes).cores.take i)) ∧ e0.1 < n ∧ 2 < e0.1 ∧ e1.1 < n ∧ 2 < e1.1 ∧ e0.1 ≠ e1.1
set_option maxHeartbeats 4000000 in
theorem s11 {fl : Bool} {codes : List (List Step)} (h1 : codes.length < 2 ^ 40) (h2 : ∀ L ∈ codes, L.length < 2 ^ 40) (h0 : codes ≠ []) :
    Runs (gam code) (.fn 11 [.c (.imm fl 1 codes.length (cl fl codes))] [] (.tup [.agg (owL (machNewD codes)), .c (.bool (machOk (machNew codes)))]) []) := by
  refine W.is (fn := a11) rfl rfl ?_
  rw [start_im (by repeat (first | exact Pls.nil | refine Pls.c rfl ?_ | refine Pls.agg ?_))]
  simp only [a11]
  repeat (first | refine wk1 ?_ | (apply WO.ca s42; (· exact lends); (· exact brr)))
  refine W.for (fun i T H n => ∃ c0 c1, Ag [(2, .c (.ptr (1, 0, 0, 0) [] 0)), (3, .c (.bool false)), (4, .c (.ptr (2, 2, 0, 0) [] 0)), (9, .c (.imm fl 1 codes.length (cl fl codes))), (10, .c (.int .i64 codes.length)), (11, .c (.int .i64 ((i : Nat) : Int)))] T ∧ H (1, 0, 0, 0) = some [.nils, .nils, .nils, .nils] ∧
    H (2, 2, 0, 0) = some [c0, c1, .ref (2, 0, 0, 0) [] 1 0 memNew.length, .nils] ∧ H (2, 0, 0, 0) = some (co memNew) ∧ Two codes H n c0 c1 i ∧ 2 < n) codes.length
    ⟨.nils, .nils, ⟨rfl, rfl, rfl, rfl, rfl, rfl, trivial⟩, hh, hh, hh, .inl ⟨rfl, rfl, rfl⟩, ats⟩ ?_
  rintro i T H n hi ⟨c0, c1, hT, hH0, hH1, hH2, hc, hn⟩
  have hcl : (machNew codes).cores.length = codes.length := by simp [machNew]
  obtain ⟨T, rfl⟩ := hT.fix
  simp only [ups]
  clear hT
  repeat (first | refine wk1 ?_ | (apply WO.ca s42; (· exact lends); (· exact brr)))
  refine W.if rfl (fun hb => ?_) (fun hb => ?_)
  · have hlt : i < codes.length := by simpa using hb
    have hx : (machNew codes).cores[i]? = some core0 := by rw [machNew, List.getElem?_replicate, if_pos hlt]
    have hy : codes[i]? = some codes[i] := List.getElem?_eq_getElem hlt
    have r2 := h2 codes[i] (List.getElem_mem _)
    rcases hc with ⟨rfl, rfl, rfl⟩ | ⟨e0, e1, rfl, rfl, k0, k1, g1, g2, g3, g4, g5⟩
    · repeat (first | refine wk1 ?_ | (apply WO.ca s42; (· exact lends); (· exact brr)))
      refine WO.ap1n codes[0] rfl rfl (by omega) rfl hh abt ?_
      rw [show [codes[0]] = codes.take (0 + 1) by rw [← snoc_take hy]; rfl]
      repeat (first | refine wk1 ?_ | (apply WO.ca s42; (· exact lends); (· exact brr)))
      refine WO.ap1n core0 rfl rfl (by omega) rfl hh abt ?_
      rw [show [core0] = (machNew codes).cores.take (0 + 1) by rw [← snoc_take hx]; rfl]
      repeat (first | refine wk1 ?_ | (apply WO.ca s42; (· exact lends); (· exact brr)))
      exact ⟨hlt, _, _, ⟨rfl, rfl, rfl, rfl, rfl, wrap_c (by omega), trivial⟩, hh, hh, hh, .inr ⟨_, _, rfl, rfl, hh, hh, ats, ats, ats, ats, ats⟩, ats⟩
    · repeat (first | refine wk1 ?_ | (apply WO.ca s42; (· exact lends); (· exact brr)))
      refine WO.ap1r codes[i] rfl hh rfl (by rw [len_take hi]) (by omega) rfl hh abt ?_
      rw [snoc_take hy]
      repeat (first | refine wk1 ?_ | (apply WO.ca s42; (· exact lends); (· exact brr)))
      refine WO.ap1r core0 rfl hh rfl (by rw [len_take (by omega)]) (by omega) rfl hh abt ?_
      rw [snoc_take hx]
      repeat (first | refine wk1 ?_ | (apply WO.ca s42; (· exact lends); (· exact brr)))
      exact ⟨hlt, _, _, ⟨rfl, rfl, rfl, rfl, rfl, wrap_c (by omega), trivial⟩, hh, hh, hh, .inr ⟨_, _, rfl, rfl, hh, hh, ats, ats, ats, ats, ats⟩, ats⟩
  have hge : i = codes.length := by simp at hb; omega
  subst hge
  rcases hc with ⟨rfl, rfl, hcn⟩ | ⟨e0, e1, rfl, rfl, k0, k1, g1, g2, g3, g4, g5⟩
  · exact absurd (List.length_eq_zero_iff.1 hcn) h0
  rw [List.take_length] at k0
  rw [← hcl, List.take_length] at k1
  have hH1' : H (2, 2, 0, 0) = some [.ref e0 [] 1 0 codes.length, .ref e1 [] 4 0 (machNew codes).cores.length, .ref (2, 0, 0, 0) [] 1 0 memNew.length, .nils] := by rw [hcl]; exact hH1
  clear hH1
  refine W.exit ?_
  show W _ _ _ _
  repeat (first | refine wk1 ?_ | (apply WO.ca s42; (· exact lends); (· exact brr)))
  refine WO.cb (s23 (fl := true) (m := machNew codes) (machNew_sm h1 h2)) (LA.cons (show Lend _ (.agg _) _ from Lend.abtE abt erl_last) LA.nil) ?_
  repeat (first | refine wk1 ?_ | (apply WO.ca s42; (· exact lends); (· exact brr)))
  refine W.if rfl (fun hb => ?_) (fun hb => ?_)
  · have hk := not_t hb
    rw [machNewD, if_neg (by simp [hk]), hk]
    repeat (first | refine wk1 ?_ | (apply WO.ca s42; (· exact lends); (· exact brr)))
    exact W.ret (endQ.many (.inr rfl) ansr rfl)
  · have hk := not_f hb
    rw [machNewD, if_pos hk, hk]
    repeat (first | refine wk1 ?_ | (apply WO.ca s42; (· exact lends); (· exact brr)))
    exact W.ret (endQ.many (.inr rfl) ansr rfl)
theorem erl_new {c : D} : erL [.nil, .nil, c, .nil] [rS ([] : List (List Step)), rS ([] : List Core), c, rS ([] : List Note)] := by
  simp only [erL]
  exact ⟨_, _, rfl, .inr ⟨_, rfl⟩, _, _, rfl, .inr ⟨_, rfl⟩, _, _, rfl, er.refl _, _, _, rfl, .inr ⟨_, rfl⟩, rfl⟩
theorem erl_new2 {c d : D} : erL [d, .nil, c, .nil] [d, rS ([] : List Core), c, rS ([] : List Note)] := by
  simp only [erL]
  exact ⟨_, _, rfl, er.refl _, _, _, rfl, .inr ⟨_, rfl⟩, _, _, rfl, er.refl _, _, _, rfl, .inr ⟨_, rfl⟩, rfl⟩
theorem machNew_no : machOk (machNew []) = false := by simp [machOk, machNew, inn]
theorem machNew_sm0 : (machNew []).sm := machNew_sm (by simp) (by simp)
theorem mn0i {fl : Bool} : Runs (gam code) (.fn 11 [.c (.imm fl 1 ([] : List (List Step)).length (cl fl ([] : List (List Step))))] [] (.tup [.agg (owL (machNewD [])), .c (.bool (machOk (machNew [])))]) []) := by
  refine W.is (fn := a11) rfl rfl ?_
  rw [start_im (by repeat (first | exact Pls.nil | refine Pls.c rfl ?_ | refine Pls.agg ?_))]
  simp only [a11]
  rw [machNewD, if_neg (by rw [machNew_no]; simp), machNew_no]
  repeat (first | refine wk1 ?_ | (apply WO.ca s42; (· exact lends); (· exact brr)))
  refine W.for (fun i T H n => Ag [(2, .c (.ptr (1, 0, 0, 0) [] 0)), (3, .c (.bool false)), (4, .c (.ptr (2, 2, 0, 0) [] 0)), (9, .c (.imm fl 1 ([] : List (List Step)).length (cl fl ([] : List (List Step))))), (10, .c (.int .i64 (([] : List (List Step)).length : Nat))), (11, .c (.int .i64 ((i : Nat) : Int)))] T ∧ H (1, 0, 0, 0) = some [.nils, .nils, .nils, .nils] ∧
    H (2, 2, 0, 0) = some [.nils, .nils, .ref (2, 0, 0, 0) [] 1 0 memNew.length, .nils] ∧ H (2, 0, 0, 0) = some (co memNew) ∧ 2 < n) 0
    ⟨⟨rfl, rfl, rfl, rfl, rfl, rfl, trivial⟩, hh, hh, hh, ats⟩ ?_
  rintro i T H n hi ⟨hT, hH0, hH1, hH2, hn⟩
  obtain rfl : i = 0 := by omega
  obtain ⟨T, rfl⟩ := hT.fix
  simp only [ups]
  clear hT
  repeat (first | refine wk1 ?_ | (apply WO.ca s42; (· exact lends); (· exact brr)))
  refine W.exit ?_
  show W _ _ _ _
  repeat (first | refine wk1 ?_ | (apply WO.ca s42; (· exact lends); (· exact brr)))
  refine WO.cb (s23 (fl := true) (m := machNew []) machNew_sm0) (LA.cons (show Lend _ (.agg _) _ from Lend.abtE abt erl_new) LA.nil) ?_
  rw [machNew_no]
  repeat (first | refine wk1 ?_ | (apply WO.ca s42; (· exact lends); (· exact brr)))
  exact W.ret (endQ.many (.inr rfl) ansr rfl)
theorem mn0s {fl : Bool} : Runs (gam code) (.fn 12 [.c (.imm fl 1 ([] : List (List Step)).length (cl fl ([] : List (List Step))))] [] (.tup [.agg (owL (machNewD [])), .c (.bool (machOk (machNew [])))]) []) := by
  have h1 : ([] : List (List Step)).length < 2 ^ 40 := by simp
  have h2 : ∀ L ∈ ([] : List (List Step)), L.length < 2 ^ 40 := by simp
  rw [machNewD, if_neg (by rw [machNew_no]; simp), machNew_no]
  refine W.is (fn := a12) rfl rfl ?_
  rw [start_im (by repeat (first | exact Pls.nil | refine Pls.c rfl ?_ | refine Pls.agg ?_))]
  simp only [a12]
  repeat (first | refine wk1 ?_ | (apply WO.cr (s45 ?_ ?_); (· exact lends); rotate_left 1; (· assumption); (· assumption)) | (apply WO.ca s46; (· exact lends); (· exact brr)))
  refine W.for (fun i T H n => Ag [(0, .c (.imm fl 1 ([] : List (List Step)).length (cl fl ([] : List (List Step))))), (2, .c (.ptr (1, 0, 0, 0) [] 0)), (3, .c (.bool false)), (4, .c (.ptr (2, 4, 0, 0) [] 0)), (5, .c (.int .i64 ((i : Nat) : Int)))] T ∧ H (1, 0, 0, 0) = some [.nils, .nils, .nils, .nils] ∧
    H (2, 4, 0, 0) = some [.ref (2, 1, 0, 0) [] 1 0 ([] : List (List Step)).length, .nils, .ref (2, 2, 0, 0) [] 1 0 memNew.length, .nils] ∧ H (2, 1, 0, 0) = some (co ([] : List (List Step))) ∧ H (2, 2, 0, 0) = some (co memNew) ∧ 2 < n) 0
    ⟨⟨rfl, rfl, rfl, rfl, rfl, trivial⟩, hh, hh, hh, hh, ats⟩ ?_
  rintro i T H n hi ⟨hT, hH0, hH1, hH2, hH3, hn⟩
  obtain rfl : i = 0 := by omega
  obtain ⟨T, rfl⟩ := hT.fix
  simp only [ups]
  clear hT
  repeat (first | refine wk1 ?_ | (apply WO.cr (s45 ?_ ?_); (· exact lends); rotate_left 1; (· assumption); (· assumption)) | (apply WO.ca s46; (· exact lends); (· exact brr)))
  refine W.exit ?_
  show W _ _ _ _
  repeat (first | refine wk1 ?_ | (apply WO.cr (s45 ?_ ?_); (· exact lends); rotate_left 1; (· assumption); (· assumption)) | (apply WO.ca s46; (· exact lends); (· exact brr)))
  refine WO.cb (s24 (fl := true) (m := machNew []) machNew_sm0) (LA.cons (show Lend _ (.agg _) _ from Lend.abtE abt erl_new2) LA.nil) ?_
  rw [machNew_no]
  repeat (first | refine wk1 ?_ | (apply WO.cr (s45 ?_ ?_); (· exact lends); rotate_left 1; (· assumption); (· assumption)) | (apply WO.ca s46; (· exact lends); (· exact brr)))
  exact W.ret (endQ.many (.inr rfl) ansr rfl)
end Go.Proofs.Ytgodaiiegcdpcaa.Abs.MC
end
section
set_option linter.unusedVariables false
set_option linter.unusedSimpArgs false
namespace Go.Proofs.Ytgodaiiegcdpcaa.Abs.MC
open Go.Proofs.Ytgodaiiegcdpcaa.Abs
set_option linter.unusedSimpArgs false
set_option linter.unusedVariables false
set_option maxRecDepth 10000
/-- The first ones alone. -/
theorem WO.slch {Γ : FuncId → Option AFn} {T : Nat → V} {H : Heap} {n ix d : Nat} {os : List AOper} {R : List Heap → St → Prop} {x y : Opd} {e : Id} {p : List Nat} {k : IntKind} {z : Int} {sz m : Nat} (l : Nat) (hx : ev T x = .c (.ref e p sz 0 m)) (hy : ev T y = .c (.int k z)) (hz : z = (l : Int)) (hm : l ≤ m) (h : Nx Γ os (upd T d (.c (.ref e p sz 0 l))) H H n R) :
    WO Γ (⟨ix, some d, none, .slc x none (some y) sz⟩ :: os) ⟨T, H, n⟩ R := by
  subst hz
  refine WO.q (v := .c (.ref e p sz 0 l)) ?_ h
  have h1 : (0 : Int) ≤ (l : Int) ∧ (l : Int) ≤ (m : Int) := by omega
  simp [quiet, hx, hy, boundO, boundC, h1]
theorem own_pre {H : Heap} {α : Type} [Enc α] {e : Id} {L : List α} {sz k : Nat} (hH : H e = some (co L)) (hk : Enc.k α = sz) (hk1 : k ≤ L.length) : Own H [e] (.ref e [] sz 0 k) (rS (L.take k)) := by
  subst hk
  have hl1 : (co (L.take k)).length = k * Enc.k α := by rw [co_len, List.length_take, Nat.min_eq_left hk1]
  have hc : cut 0 (k * Enc.k α) (co L) = some (co (L.take k)) := by
    have h1 : co L = co (L.take k) ++ co (L.drop k) := by
      conv => lhs; rw [← List.take_append_drop k L]
      simp only [co, List.flatMap_append, owL_app]
    rw [h1, cut_get (by rw [List.length_append, hl1]; omega), List.drop_zero, List.take_left' hl1]
  have h2 : (L.take k).length = k := by rw [List.length_take, Nat.min_eq_left hk1]
  have := Own.part (es := []) (sz := Enc.k α) (n := k) (lo := 0) hH hc (live_ow _) (by simp) (Owns.ow H _)
  rw [show rS (L.take k) = .row (Enc.k α) k ((L.take k).flatMap Enc.d) by rw [rS, h2]]
  exact this
theorem mrunD_nil {m : Mach} {L : List Pick} (h : (mrunD m L).2 = []) : (mrunD m L).1 = m := by
  unfold mrunD at h ⊢
  split
  · rename_i h1
    rw [if_pos h1] at h
    have h2 := mrun_len m L
    rw [h] at h2
    have h3 : L = [] := List.length_eq_zero_iff.1 h2.symm
    subst h3
    rfl
  · rfl
theorem mrunD_len (m : Mach) (L : List Pick) : (mrunD m L).2.length ≤ L.length := by
  unfold mrunD
  split
  · rw [mrun_len]; exact Nat.le_refl _
  · exact Nat.zero_le _
theorem mrunD_sm {m : Mach} {L : List Pick} (h : m.sm) : (mrunD m L).1.sm := by
  unfold mrunD
  split
  · rename_i h1
    simp only [Bool.and_eq_true] at h1
    exact (mrun_ok (machOk_iff.1 h1.1)).1.sm
  · exact h
theorem mnI {fl : Bool} {codes : List (List Step)} (h1 : codes.length < 2 ^ 40) (h2 : ∀ L ∈ codes, L.length < 2 ^ 40) :
    Runs (gam code) (.fn 11 [.c (.imm fl 1 codes.length (cl fl codes))] [] (.tup [.agg (owL (machNewD codes)), .c (.bool (machOk (machNew codes)))]) []) := by
  by_cases h : codes = []
  · subst h; exact mn0i
  · exact s11 h1 h2 h
theorem mnS {fl : Bool} {codes : List (List Step)} (h1 : codes.length < 2 ^ 40) (h2 : ∀ L ∈ codes, L.length < 2 ^ 40) :
    Runs (gam code) (.fn 12 [.c (.imm fl 1 codes.length (cl fl codes))] [] (.tup [.agg (owL (machNewD codes)), .c (.bool (machOk (machNew codes)))]) []) := by
  by_cases h : codes = []
  · subst h; exact mn0s
  · exact s12 h1 h2 h
end Go.Proofs.Ytgodaiiegcdpcaa.Abs.MC
end
