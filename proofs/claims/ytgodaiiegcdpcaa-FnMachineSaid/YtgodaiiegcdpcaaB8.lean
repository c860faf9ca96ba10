/- The program's functions, told in that language, and what each of them answers; each theorem bears its own conditions. -/
import Derived.Test.YtgodaiiegcdpcaaB7
section
set_option linter.unusedVariables false
set_option linter.unusedSimpArgs false
namespace Go.Proofs.Ytgodaiiegcdpcaa.Abs.MC
open Go.Proofs.Ytgodaiiegcdpcaa.Abs
set_option linter.unusedSimpArgs false
set_option linter.unusedVariables false
set_option maxRecDepth 10000
theorem machEq_refl (m : Mach) : machEq m m = true := by
  have h1 : ((m.cores.zip m.cores).all fun p => coreEq p.1 p.2) = true := by
    rw [List.all_eq_true]
    intro p hp
    have : p.1 = p.2 := by
      obtain ⟨i, hi⟩ := List.getElem?_of_mem hp
      obtain ⟨a, b⟩ := p
      rw [List.getElem?_zip_eq_some] at hi
      have := hi.1.symm.trans hi.2
      simpa using this
    rw [this]
    simp [coreEq]
  have h2 : ((m.mem.zip m.mem).all fun p => cellEq p.1 p.2) = true := by
    rw [List.all_eq_true]
    intro p hp
    have : p.1 = p.2 := by
      obtain ⟨i, hi⟩ := List.getElem?_of_mem hp
      obtain ⟨a, b⟩ := p
      rw [List.getElem?_zip_eq_some] at hi
      have := hi.1.symm.trans hi.2
      simpa using this
    rw [this]
    simp only [cellEq, decide_true, Bool.true_and]
    cases p.2.getLast? <;> simp
  simp [machEq, h1, h2]
set_option maxHeartbeats 4000000 in
theorem s5 {bs : List B8} : Runs (gam code) (.fn 5 [.c (.imm false 1 bs.length (cl false bs))] [] (.c (.bool true)) []) := by
  refine W.is (fn := a5) rfl rfl ?_
  rw [start_im (by repeat (first | exact Pls.nil | refine Pls.c rfl ?_ | refine Pls.agg ?_))]
  simp only [a5]
  repeat (first | refine wk1 ?_ | (apply WO.cb (s23 ?_); (· exact lends); rotate_left 1; (· assumption)) | (apply WO.cb (s24 ?_); (· exact lends); rotate_left 1; (· assumption)) | (apply WO.cb (s25 ?_); (· exact lends); rotate_left 1; (· assumption)) | (apply WO.cb (s26 ?_); (· exact lends); rotate_left 1; (· assumption)))
  refine WO.cb s10 (LA.imm rfl LA.nil) ?_
  generalize hbig : decide ((1048576 : Int) < bs.length) = g
  cases g
  rotate_left 1
  · repeat (first | refine wk1 ?_ | (apply WO.cb (s23 ?_); (· exact lends); rotate_left 1; (· assumption)) | (apply WO.cb (s24 ?_); (· exact lends); rotate_left 1; (· assumption)) | (apply WO.cb (s25 ?_); (· exact lends); rotate_left 1; (· assumption)) | (apply WO.cb (s26 ?_); (· exact lends); rotate_left 1; (· assumption)))
    exact W.ret (endQ.sc (.inr rfl) rfl rfl rfl)
  have hbl : bs.length < 2 ^ 40 := by have := of_decide_eq_false hbig; omega
  repeat (first | refine wk1 ?_ | (apply WO.cb (s23 ?_); (· exact lends); rotate_left 1; (· assumption)) | (apply WO.cb (s24 ?_); (· exact lends); rotate_left 1; (· assumption)) | (apply WO.cb (s25 ?_); (· exact lends); rotate_left 1; (· assumption)) | (apply WO.cb (s26 ?_); (· exact lends); rotate_left 1; (· assumption)))
  obtain ⟨m, x, ⟨hm, hm4⟩, hl, r0⟩ := s19 hbl
  refine WO.ct r0 (LA.imm rfl LA.nil) btt ?_
  have hsm := hm.sm
  have c1 := s20 (fl := true) (fl' := true) (x := x) hm.sm hl.1 hl.2
  have c2 := s21 (fl := true) (fl' := true) (x := x) hm.sm hl.1 hl.2
  rcases hk : machOk m with _ | _
  · rw [show cstep m x = ([.nil, .nil, .nil, .nil], 1) by rw [cstep, hk]; rfl] at c1 c2
    repeat (first | refine wk1 ?_ | (apply WO.cb (s23 ?_); (· exact lends); rotate_left 1; (· assumption)) | (apply WO.cb (s24 ?_); (· exact lends); rotate_left 1; (· assumption)) | (apply WO.cb (s25 ?_); (· exact lends); rotate_left 1; (· assumption)) | (apply WO.cb (s26 ?_); (· exact lends); rotate_left 1; (· assumption)))
    refine WO.ct c1 (LA.abt (ds := m.d) rfl abt (LA.agg (ds := Enc.d x) rfl LA.nil)) btt ?_
    repeat (first | refine wk1 ?_ | (apply WO.cb (s23 ?_); (· exact lends); rotate_left 1; (· assumption)) | (apply WO.cb (s24 ?_); (· exact lends); rotate_left 1; (· assumption)) | (apply WO.cb (s25 ?_); (· exact lends); rotate_left 1; (· assumption)) | (apply WO.cb (s26 ?_); (· exact lends); rotate_left 1; (· assumption)))
    refine WO.ct c2 (LA.abt (ds := m.d) rfl abt (LA.agg (ds := Enc.d x) rfl LA.nil)) btt ?_
    repeat (first | refine wk1 ?_ | (apply WO.cb (s23 ?_); (· exact lends); rotate_left 1; (· assumption)) | (apply WO.cb (s24 ?_); (· exact lends); rotate_left 1; (· assumption)) | (apply WO.cb (s25 ?_); (· exact lends); rotate_left 1; (· assumption)) | (apply WO.cb (s26 ?_); (· exact lends); rotate_left 1; (· assumption)))
    refine WO.cb (s23 hm.sm) (LA.abt (ds := m.d) rfl abt LA.nil) ?_
    rw [hk]
    repeat (first | refine wk1 ?_ | (apply WO.cb (s23 ?_); (· exact lends); rotate_left 1; (· assumption)) | (apply WO.cb (s24 ?_); (· exact lends); rotate_left 1; (· assumption)) | (apply WO.cb (s25 ?_); (· exact lends); rotate_left 1; (· assumption)) | (apply WO.cb (s26 ?_); (· exact lends); rotate_left 1; (· assumption)))
    refine WO.cb (s24 hm.sm) (LA.abt (ds := m.d) rfl abt LA.nil) ?_
    rw [hk]
    repeat (first | refine wk1 ?_ | (apply WO.cb (s23 ?_); (· exact lends); rotate_left 1; (· assumption)) | (apply WO.cb (s24 ?_); (· exact lends); rotate_left 1; (· assumption)) | (apply WO.cb (s25 ?_); (· exact lends); rotate_left 1; (· assumption)) | (apply WO.cb (s26 ?_); (· exact lends); rotate_left 1; (· assumption)))
    exact W.ret (endQ.sc (.inr rfl) rfl rfl rfl)
  have hK := machOk_iff.1 hk
  rw [show cstep m x = ((mstep m x).1.d, (mstep m x).2) by rw [cstep, hk]; rfl] at c1 c2
  obtain ⟨who, late⟩ := x
  have hko := (mstep_ok (x := ⟨who, late⟩) hK).1
  have hkeep := mstep_keep (m := m) (x := ⟨who, late⟩)
  have hrange : (mstep m ⟨who, late⟩).2 = 0 → ∃ q : Nat, who = (q : Int) ∧ q < m.cores.length := by
    intro h
    rcases hi : inn 0 ((m.cores.length : Int) - 1) who with _ | _
    · rw [mstep, if_pos hi] at h; cases h
    · have hin : 0 ≤ who ∧ who ≤ (m.cores.length : Int) - 1 := by simpa [inn] using hi
      obtain ⟨q, rfl⟩ := Int.eq_ofNat_of_zero_le hin.1
      exact ⟨q, rfl, by omega⟩
  have hkept : ∀ q : Nat, who = (q : Int) → ∀ hq : q < m.cores.length, Kept m q m.cores[q] (mstep m ⟨who, late⟩) := by
    intro q h hq
    subst h
    exact mstep_kept hK (List.getElem?_eq_getElem hq)
  have hcode : (mstep m ⟨who, late⟩).2 = 0 ∨ (mstep m ⟨who, late⟩).2 = 3 ∨ (mstep m ⟨who, late⟩).2 = 2 := by
    rcases hi : inn 0 ((m.cores.length : Int) - 1) who with _ | _
    · rw [mstep, if_pos hi]; omega
    · have hin : 0 ≤ who ∧ who ≤ (m.cores.length : Int) - 1 := by simpa [inn] using hi
      obtain ⟨q, hq⟩ := Int.eq_ofNat_of_zero_le hin.1
      exact (hkept q hq (by omega)).code
  generalize mstep m ⟨who, late⟩ = r at *
  obtain ⟨m', k⟩ := r
  dsimp only at hko hkeep hrange hkept hcode c1 c2
  have hsm' := hko.sm
  repeat (first | refine wk1 ?_ | (apply WO.cb (s23 ?_); (· exact lends); rotate_left 1; (· assumption)) | (apply WO.cb (s24 ?_); (· exact lends); rotate_left 1; (· assumption)) | (apply WO.cb (s25 ?_); (· exact lends); rotate_left 1; (· assumption)) | (apply WO.cb (s26 ?_); (· exact lends); rotate_left 1; (· assumption)))
  refine WO.ct c1 (LA.abt (ds := m.d) rfl abt (LA.agg (ds := Enc.d (⟨who, late⟩ : Pick)) rfl LA.nil)) btt ?_
  repeat (first | refine wk1 ?_ | (apply WO.cb (s23 ?_); (· exact lends); rotate_left 1; (· assumption)) | (apply WO.cb (s24 ?_); (· exact lends); rotate_left 1; (· assumption)) | (apply WO.cb (s25 ?_); (· exact lends); rotate_left 1; (· assumption)) | (apply WO.cb (s26 ?_); (· exact lends); rotate_left 1; (· assumption)))
  refine WO.ct c2 (LA.abt (ds := m.d) rfl abt (LA.agg (ds := Enc.d (⟨who, late⟩ : Pick)) rfl LA.nil)) btt ?_
  repeat (first | refine wk1 ?_ | (apply WO.cb (s23 ?_); (· exact lends); rotate_left 1; (· assumption)) | (apply WO.cb (s24 ?_); (· exact lends); rotate_left 1; (· assumption)) | (apply WO.cb (s25 ?_); (· exact lends); rotate_left 1; (· assumption)) | (apply WO.cb (s26 ?_); (· exact lends); rotate_left 1; (· assumption)))
  rw [show (k != k) = false by simp]
  repeat (first | refine wk1 ?_ | (apply WO.cb (s23 ?_); (· exact lends); rotate_left 1; (· assumption)) | (apply WO.cb (s24 ?_); (· exact lends); rotate_left 1; (· assumption)) | (apply WO.cb (s25 ?_); (· exact lends); rotate_left 1; (· assumption)) | (apply WO.cb (s26 ?_); (· exact lends); rotate_left 1; (· assumption)))
  by_cases h0 : k = 0
  rotate_left 1
  · have hmm := hkeep h0
    subst hmm
    rw [show (k == 0) = false by simpa using h0]
    repeat (first | refine wk1 ?_ | (apply WO.cb (s23 ?_); (· exact lends); rotate_left 1; (· assumption)) | (apply WO.cb (s24 ?_); (· exact lends); rotate_left 1; (· assumption)) | (apply WO.cb (s25 ?_); (· exact lends); rotate_left 1; (· assumption)) | (apply WO.cb (s26 ?_); (· exact lends); rotate_left 1; (· assumption)))
    refine WO.cb (s23 hm.sm) (LA.abt (ds := m'.d) rfl abt LA.nil) ?_
    rw [hk]
    repeat (first | refine wk1 ?_ | (apply WO.cb (s23 ?_); (· exact lends); rotate_left 1; (· assumption)) | (apply WO.cb (s24 ?_); (· exact lends); rotate_left 1; (· assumption)) | (apply WO.cb (s25 ?_); (· exact lends); rotate_left 1; (· assumption)) | (apply WO.cb (s26 ?_); (· exact lends); rotate_left 1; (· assumption)))
    refine WO.cb (s24 hm.sm) (LA.abt (ds := m'.d) rfl abt LA.nil) ?_
    rw [hk]
    repeat (first | refine wk1 ?_ | (apply WO.cb (s23 ?_); (· exact lends); rotate_left 1; (· assumption)) | (apply WO.cb (s24 ?_); (· exact lends); rotate_left 1; (· assumption)) | (apply WO.cb (s25 ?_); (· exact lends); rotate_left 1; (· assumption)) | (apply WO.cb (s26 ?_); (· exact lends); rotate_left 1; (· assumption)))
    rw [show (k == 1) = false by simp; omega]
    repeat (first | refine wk1 ?_ | (apply WO.cb (s23 ?_); (· exact lends); rotate_left 1; (· assumption)) | (apply WO.cb (s24 ?_); (· exact lends); rotate_left 1; (· assumption)) | (apply WO.cb (s25 ?_); (· exact lends); rotate_left 1; (· assumption)) | (apply WO.cb (s26 ?_); (· exact lends); rotate_left 1; (· assumption)))
    rw [show (k != 0) = true by simpa using h0]
    repeat (first | refine wk1 ?_ | (apply WO.cb (s23 ?_); (· exact lends); rotate_left 1; (· assumption)) | (apply WO.cb (s24 ?_); (· exact lends); rotate_left 1; (· assumption)) | (apply WO.cb (s25 ?_); (· exact lends); rotate_left 1; (· assumption)) | (apply WO.cb (s26 ?_); (· exact lends); rotate_left 1; (· assumption)))
    refine WO.cb (s22 hm.sm hm.sm) (LA.abt (ds := m'.d) rfl abt (LA.abt (ds := m'.d) rfl abt LA.nil)) ?_
    rw [machEq_refl]
    repeat (first | refine wk1 ?_ | (apply WO.cb (s23 ?_); (· exact lends); rotate_left 1; (· assumption)) | (apply WO.cb (s24 ?_); (· exact lends); rotate_left 1; (· assumption)) | (apply WO.cb (s25 ?_); (· exact lends); rotate_left 1; (· assumption)) | (apply WO.cb (s26 ?_); (· exact lends); rotate_left 1; (· assumption)))
    exact W.ret (endQ.sc (.inr rfl) rfl rfl rfl)
  subst h0
  repeat (first | refine wk1 ?_ | (apply WO.cb (s23 ?_); (· exact lends); rotate_left 1; (· assumption)) | (apply WO.cb (s24 ?_); (· exact lends); rotate_left 1; (· assumption)) | (apply WO.cb (s25 ?_); (· exact lends); rotate_left 1; (· assumption)) | (apply WO.cb (s26 ?_); (· exact lends); rotate_left 1; (· assumption)))
  refine WO.cb (s22 hsm' hsm') (LA.abt (ds := m'.d) rfl abt (LA.abt (ds := m'.d) rfl abt LA.nil)) ?_
  rw [machEq_refl]
  repeat (first | refine wk1 ?_ | (apply WO.cb (s23 ?_); (· exact lends); rotate_left 1; (· assumption)) | (apply WO.cb (s24 ?_); (· exact lends); rotate_left 1; (· assumption)) | (apply WO.cb (s25 ?_); (· exact lends); rotate_left 1; (· assumption)) | (apply WO.cb (s26 ?_); (· exact lends); rotate_left 1; (· assumption)))
  refine WO.cb (s23 hm.sm) (LA.abt (ds := m.d) rfl abt LA.nil) ?_
  rw [hk]
  repeat (first | refine wk1 ?_ | (apply WO.cb (s23 ?_); (· exact lends); rotate_left 1; (· assumption)) | (apply WO.cb (s24 ?_); (· exact lends); rotate_left 1; (· assumption)) | (apply WO.cb (s25 ?_); (· exact lends); rotate_left 1; (· assumption)) | (apply WO.cb (s26 ?_); (· exact lends); rotate_left 1; (· assumption)))
  refine WO.cb (s24 hm.sm) (LA.abt (ds := m.d) rfl abt LA.nil) ?_
  rw [hk]
  repeat (first | refine wk1 ?_ | (apply WO.cb (s23 ?_); (· exact lends); rotate_left 1; (· assumption)) | (apply WO.cb (s24 ?_); (· exact lends); rotate_left 1; (· assumption)) | (apply WO.cb (s25 ?_); (· exact lends); rotate_left 1; (· assumption)) | (apply WO.cb (s26 ?_); (· exact lends); rotate_left 1; (· assumption)))
  obtain ⟨q, rfl, hq⟩ := hrange rfl
  have hkp := hkept q rfl hq
  obtain ⟨c1, hcs, hgr⟩ := hkp.core
  dsimp only at hcs
  have hcl : m'.cores.length = m.cores.length := by rw [hcs, List.length_set]
  refine W.for (fun i T H n => Ag [(3, .c (.ptr (3, 5, 0, 0) [] 0)), (4, .c (.ptr (3, 6, 0, 0) [] 0)), (5, .c (.ptr (4, 6, 0, 0) [] 0)), (9, .c (.int .i64 ((i : Nat) : Int)))] T ∧ MAt H (3, 5, 0, 0) 3 1 0 m ∧ MAt H (4, 6, 0, 0) 4 2 0 m' ∧ H (3, 6, 0, 0) = some [.int .i64 (q : Int), .int .i64 late] ∧ 6 < n) m.cores.length ⟨⟨rfl, rfl, rfl, rfl, trivial⟩, ⟨hh, hh, hh, hh, hh⟩, ⟨hh, hh, hh, hh, hh⟩, hh, ats⟩ ?_
  rintro i T H n hi ⟨hT, ⟨a0, a1, a2, a3, a4⟩, ⟨b0, b1, b2, b3, b4⟩, hx, hn⟩
  have k3 := hsm.cores
  obtain ⟨T, rfl⟩ := hT.fix
  simp only [ups]
  clear hT
  repeat (first | refine wk1 ?_ | (apply WO.cb (s23 ?_); (· exact lends); rotate_left 1; (· assumption)) | (apply WO.cb (s24 ?_); (· exact lends); rotate_left 1; (· assumption)) | (apply WO.cb (s25 ?_); (· exact lends); rotate_left 1; (· assumption)) | (apply WO.cb (s26 ?_); (· exact lends); rotate_left 1; (· assumption)))
  refine W.if rfl (fun hb => ?_) (fun hb => ?_)
  · have hlt : i < m.cores.length := by simpa using hb
    have hlt' : i < m'.cores.length := by omega
    by_cases hiq : i = q
    · subst hiq
      have hu : m.cores[i]? = some m.cores[i] := List.getElem?_eq_getElem hlt
      have hu' : m'.cores[i]? = some m'.cores[i] := List.getElem?_eq_getElem hlt'
      repeat (first | refine wk1 ?_ | (apply WO.cb (s23 ?_); (· exact lends); rotate_left 1; (· assumption)) | (apply WO.cb (s24 ?_); (· exact lends); rotate_left 1; (· assumption)) | (apply WO.cb (s25 ?_); (· exact lends); rotate_left 1; (· assumption)) | (apply WO.cb (s26 ?_); (· exact lends); rotate_left 1; (· assumption)))
      refine WO.ldRl (L := m.cores) (u := m.cores[i]) rfl hh rfl hu rfl ?_
      repeat (first | refine wk1 ?_ | (apply WO.cb (s23 ?_); (· exact lends); rotate_left 1; (· assumption)) | (apply WO.cb (s24 ?_); (· exact lends); rotate_left 1; (· assumption)) | (apply WO.cb (s25 ?_); (· exact lends); rotate_left 1; (· assumption)) | (apply WO.cb (s26 ?_); (· exact lends); rotate_left 1; (· assumption)))
      refine WO.ldRl (L := m'.cores) (u := m'.cores[i]) rfl hh rfl hu' rfl ?_
      repeat (first | refine wk1 ?_ | (apply WO.cb (s23 ?_); (· exact lends); rotate_left 1; (· assumption)) | (apply WO.cb (s24 ?_); (· exact lends); rotate_left 1; (· assumption)) | (apply WO.cb (s25 ?_); (· exact lends); rotate_left 1; (· assumption)) | (apply WO.cb (s26 ?_); (· exact lends); rotate_left 1; (· assumption)))
      refine WO.nil (dregQ.mk (by repeat (first | exact recheck.nil | (apply recheck.cons; (· first | (refine recheck1.ld rfl rfl ?_; first | rfl | (apply ld_Rl4; (· exact hh); (· rfl); (· assumption); (· rfl)) | (apply ld_cell; (· exact hh); (· rfl); (· rfl)) | (apply ld_all; (· exact hh); (· rfl); (· rfl)) | (apply ld_c; (· rfl); (· assumption)) | (apply ld_f; (· rfl); (· decide); (· assumption); (· rfl)) | (apply ld_f0; (· rfl); (· decide); (· assumption); (· rfl)) | (apply ld_i; (· first | assumption | rfl)) | (apply ld_R; (· exact hh); (· rfl); (· assumption); (· rfl)) | (apply ld_n; (· exact hh); (· assumption)) | (apply ld_S; (· exact hh); (· rfl); (· first | assumption | omega); (· rfl); (· rfl); (· rfl); (· rfl)) | (apply ld_S1; (· exact hh); (· rfl); (· first | assumption | omega); (· rfl)) | (apply ld_Sa; (· exact hh); (· rfl); (· first | assumption | omega); (· rfl); (· rfl))) | exact recheck1.off rfl rfl rfl (by decide) | exact recheck1.offD rfl rfl rfl | exact recheck1.al rfl (by simp) rfl rfl rfl)))) ?_)
      repeat (first | refine wk1 ?_ | (apply WO.cb (s23 ?_); (· exact lends); rotate_left 1; (· assumption)) | (apply WO.cb (s24 ?_); (· exact lends); rotate_left 1; (· assumption)) | (apply WO.cb (s25 ?_); (· exact lends); rotate_left 1; (· assumption)) | (apply WO.cb (s26 ?_); (· exact lends); rotate_left 1; (· assumption)))

      rw [show ((i : Int) != (i : Int)) = false by simp]
      repeat (first | refine wk1 ?_ | (apply WO.cb (s23 ?_); (· exact lends); rotate_left 1; (· assumption)) | (apply WO.cb (s24 ?_); (· exact lends); rotate_left 1; (· assumption)) | (apply WO.cb (s25 ?_); (· exact lends); rotate_left 1; (· assumption)) | (apply WO.cb (s26 ?_); (· exact lends); rotate_left 1; (· assumption)))
      exact ⟨hlt, ⟨rfl, rfl, rfl, wrap_c (by omega), trivial⟩, ⟨hh, hh, hh, hh, hh⟩, ⟨hh, hh, hh, hh, hh⟩, hh, ats⟩
    obtain ⟨u, hu⟩ : ∃ u, m.cores[i]? = some u := ⟨_, List.getElem?_eq_getElem hlt⟩
    have hu' : m'.cores[i]? = some u := by rw [hcs, List.getElem?_set_ne (fun h => hiq h.symm)]; exact hu
    obtain ⟨cat, regs, view, st⟩ := u
    have hus := hsm.core _ (List.mem_of_getElem? hu)
    dsimp only at hus
    repeat (first | refine wk1 ?_ | (apply WO.cb (s23 ?_); (· exact lends); rotate_left 1; (· assumption)) | (apply WO.cb (s24 ?_); (· exact lends); rotate_left 1; (· assumption)) | (apply WO.cb (s25 ?_); (· exact lends); rotate_left 1; (· assumption)) | (apply WO.cb (s26 ?_); (· exact lends); rotate_left 1; (· assumption)))
    refine WO.ldRl (L := m.cores) (u := ⟨cat, regs, view, st⟩) rfl hh rfl hu rfl ?_
    repeat (first | refine wk1 ?_ | (apply WO.cb (s23 ?_); (· exact lends); rotate_left 1; (· assumption)) | (apply WO.cb (s24 ?_); (· exact lends); rotate_left 1; (· assumption)) | (apply WO.cb (s25 ?_); (· exact lends); rotate_left 1; (· assumption)) | (apply WO.cb (s26 ?_); (· exact lends); rotate_left 1; (· assumption)))
    refine WO.ldRl (L := m'.cores) (u := ⟨cat, regs, view, st⟩) rfl hh rfl hu' rfl ?_
    repeat (first | refine wk1 ?_ | (apply WO.cb (s23 ?_); (· exact lends); rotate_left 1; (· assumption)) | (apply WO.cb (s24 ?_); (· exact lends); rotate_left 1; (· assumption)) | (apply WO.cb (s25 ?_); (· exact lends); rotate_left 1; (· assumption)) | (apply WO.cb (s26 ?_); (· exact lends); rotate_left 1; (· assumption)))
    refine WO.nil (dregQ.mk (by repeat (first | exact recheck.nil | (apply recheck.cons; (· first | (refine recheck1.ld rfl rfl ?_; first | rfl | (apply ld_Rl4; (· exact hh); (· rfl); (· assumption); (· rfl)) | (apply ld_cell; (· exact hh); (· rfl); (· rfl)) | (apply ld_all; (· exact hh); (· rfl); (· rfl)) | (apply ld_c; (· rfl); (· assumption)) | (apply ld_f; (· rfl); (· decide); (· assumption); (· rfl)) | (apply ld_f0; (· rfl); (· decide); (· assumption); (· rfl)) | (apply ld_i; (· first | assumption | rfl)) | (apply ld_R; (· exact hh); (· rfl); (· assumption); (· rfl)) | (apply ld_n; (· exact hh); (· assumption)) | (apply ld_S; (· exact hh); (· rfl); (· first | assumption | omega); (· rfl); (· rfl); (· rfl); (· rfl)) | (apply ld_S1; (· exact hh); (· rfl); (· first | assumption | omega); (· rfl)) | (apply ld_Sa; (· exact hh); (· rfl); (· first | assumption | omega); (· rfl); (· rfl))) | exact recheck1.off rfl rfl rfl (by decide) | exact recheck1.offD rfl rfl rfl | exact recheck1.al rfl (by simp) rfl rfl rfl)))) ?_)
    repeat (first | refine wk1 ?_ | (apply WO.cb (s23 ?_); (· exact lends); rotate_left 1; (· assumption)) | (apply WO.cb (s24 ?_); (· exact lends); rotate_left 1; (· assumption)) | (apply WO.cb (s25 ?_); (· exact lends); rotate_left 1; (· assumption)) | (apply WO.cb (s26 ?_); (· exact lends); rotate_left 1; (· assumption)))
    rw [show ((i : Int) != (q : Int)) = true by simp; omega]
    repeat (first | refine wk1 ?_ | (apply WO.cb (s23 ?_); (· exact lends); rotate_left 1; (· assumption)) | (apply WO.cb (s24 ?_); (· exact lends); rotate_left 1; (· assumption)) | (apply WO.cb (s25 ?_); (· exact lends); rotate_left 1; (· assumption)) | (apply WO.cb (s26 ?_); (· exact lends); rotate_left 1; (· assumption)))
    rw [show (cat != cat) = false by simp]
    repeat (first | refine wk1 ?_ | (apply WO.cb (s23 ?_); (· exact lends); rotate_left 1; (· assumption)) | (apply WO.cb (s24 ?_); (· exact lends); rotate_left 1; (· assumption)) | (apply WO.cb (s25 ?_); (· exact lends); rotate_left 1; (· assumption)) | (apply WO.cb (s26 ?_); (· exact lends); rotate_left 1; (· assumption)))
    rw [show (st != st) = false by simp]
    repeat (first | refine wk1 ?_ | (apply WO.cb (s23 ?_); (· exact lends); rotate_left 1; (· assumption)) | (apply WO.cb (s24 ?_); (· exact lends); rotate_left 1; (· assumption)) | (apply WO.cb (s25 ?_); (· exact lends); rotate_left 1; (· assumption)) | (apply WO.cb (s26 ?_); (· exact lends); rotate_left 1; (· assumption)))
    refine WO.cb (s25 (fl := true) (fl' := true) (a := regs) (b := regs) hus.1) (LA.evp 4 1 rfl hh rfl hu rfl rfl rfl (LA.evp 4 1 rfl hh rfl hu' rfl rfl rfl LA.nil)) ?_
    rw [show decide (regs = regs) = true from decide_eq_true rfl]
    repeat (first | refine wk1 ?_ | (apply WO.cb (s23 ?_); (· exact lends); rotate_left 1; (· assumption)) | (apply WO.cb (s24 ?_); (· exact lends); rotate_left 1; (· assumption)) | (apply WO.cb (s25 ?_); (· exact lends); rotate_left 1; (· assumption)) | (apply WO.cb (s26 ?_); (· exact lends); rotate_left 1; (· assumption)))
    refine WO.cb (s25 (fl := true) (fl' := true) (a := view) (b := view) hus.2) (LA.evp 4 2 rfl hh rfl hu rfl rfl rfl (LA.evp 4 2 rfl hh rfl hu' rfl rfl rfl LA.nil)) ?_
    rw [show decide (view = view) = true from decide_eq_true rfl]
    repeat (first | refine wk1 ?_ | (apply WO.cb (s23 ?_); (· exact lends); rotate_left 1; (· assumption)) | (apply WO.cb (s24 ?_); (· exact lends); rotate_left 1; (· assumption)) | (apply WO.cb (s25 ?_); (· exact lends); rotate_left 1; (· assumption)) | (apply WO.cb (s26 ?_); (· exact lends); rotate_left 1; (· assumption)))
    exact ⟨hlt, ⟨rfl, rfl, rfl, wrap_c (by omega), trivial⟩, ⟨hh, hh, hh, hh, hh⟩, ⟨hh, hh, hh, hh, hh⟩, hh, ats⟩
  · have hge : i = m.cores.length := by simp at hb; omega
    subst hge
    refine W.exit ?_
    show W _ _ _ _
    repeat (first | refine wk1 ?_ | (apply WO.cb (s23 ?_); (· exact lends); rotate_left 1; (· assumption)) | (apply WO.cb (s24 ?_); (· exact lends); rotate_left 1; (· assumption)) | (apply WO.cb (s25 ?_); (· exact lends); rotate_left 1; (· assumption)) | (apply WO.cb (s26 ?_); (· exact lends); rotate_left 1; (· assumption)))
    obtain ⟨u, hu⟩ : ∃ u, m.cores[q]? = some u := ⟨_, List.getElem?_eq_getElem hq⟩
    have hu' : m'.cores[q]? = some c1 := by rw [hcs, List.getElem?_set_self hq]
    have hus := hsm.core _ (List.mem_of_getElem? hu)
    have hus' := hsm'.core _ (List.mem_of_getElem? hu')
    have huq : m.cores[q] = u := (List.getElem?_eq_some_iff.1 hu).2
    rw [huq] at hgr
    obtain ⟨cat, regs, view, st⟩ := u
    obtain ⟨cat', regs', view', st'⟩ := c1
    dsimp only at hus hus' hgr
    have hlq : q < m'.cores.length := by omega
    refine WO.cb (s23 hsm') (LA.abt (ds := m'.d) rfl abt LA.nil) ?_
    rw [machOk_iff.2 hko]
    repeat (first | refine wk1 ?_ | (apply WO.cb (s23 ?_); (· exact lends); rotate_left 1; (· assumption)) | (apply WO.cb (s24 ?_); (· exact lends); rotate_left 1; (· assumption)) | (apply WO.cb (s25 ?_); (· exact lends); rotate_left 1; (· assumption)) | (apply WO.cb (s26 ?_); (· exact lends); rotate_left 1; (· assumption)))
    refine WO.ldCl (L := m'.cores) (u := ⟨cat', regs', view', st'⟩) rfl hh rfl hu' rfl rfl ?_
    repeat (first | refine wk1 ?_ | (apply WO.cb (s23 ?_); (· exact lends); rotate_left 1; (· assumption)) | (apply WO.cb (s24 ?_); (· exact lends); rotate_left 1; (· assumption)) | (apply WO.cb (s25 ?_); (· exact lends); rotate_left 1; (· assumption)) | (apply WO.cb (s26 ?_); (· exact lends); rotate_left 1; (· assumption)))
    refine WO.ldCl (L := m.cores) (u := ⟨cat, regs, view, st⟩) rfl hh rfl hu rfl rfl ?_
    repeat (first | refine wk1 ?_ | (apply WO.cb (s23 ?_); (· exact lends); rotate_left 1; (· assumption)) | (apply WO.cb (s24 ?_); (· exact lends); rotate_left 1; (· assumption)) | (apply WO.cb (s25 ?_); (· exact lends); rotate_left 1; (· assumption)) | (apply WO.cb (s26 ?_); (· exact lends); rotate_left 1; (· assumption)))
    refine WO.cb (s26 (fl := true) (fl' := true) (a := view') (b := view) hus'.2) (LA.evp 4 2 rfl hh rfl hu' rfl rfl rfl (LA.evp 4 2 rfl hh rfl hu rfl rfl rfl LA.nil)) ?_
    rw [knows_of hgr]
    repeat (first | refine wk1 ?_ | (apply WO.cb (s23 ?_); (· exact lends); rotate_left 1; (· assumption)) | (apply WO.cb (s24 ?_); (· exact lends); rotate_left 1; (· assumption)) | (apply WO.cb (s25 ?_); (· exact lends); rotate_left 1; (· assumption)) | (apply WO.cb (s26 ?_); (· exact lends); rotate_left 1; (· assumption)))
    exact W.ret (endQ.sc (.inr rfl) rfl rfl rfl)
end Go.Proofs.Ytgodaiiegcdpcaa.Abs.MC
end
