/- The program's functions, told in that language, and what each of them answers; each theorem bears its own conditions. -/
import Derived.Test.YtgodaiiegcdpcaaB6
import Derived.Test.YtgodaiiegcdpcaaA2
section
set_option linter.unusedVariables false
set_option linter.unusedSimpArgs false
namespace Go.Proofs.Ytgodaiiegcdpcaa.Abs.MC
open Go.Proofs.Ytgodaiiegcdpcaa.Abs
set_option linter.unusedSimpArgs false
set_option linter.unusedVariables false
set_option maxRecDepth 10000
/-- A run of picks. -/
def mrun : Mach → List Pick → Mach × List Int
  | m, [] => (m, [])
  | m, x :: xs => ((mrun (mstep m x).1 xs).1, (mstep m x).2 :: (mrun (mstep m x).1 xs).2)
theorem mrun_app (m : Mach) (a b : List Pick) : mrun m (a ++ b) = ((mrun (mrun m a).1 b).1, (mrun m a).2 ++ (mrun (mrun m a).1 b).2) := by
  induction a generalizing m with
  | nil => rfl
  | cons x a ih => simp only [List.cons_append, mrun, ih]
theorem mrun_len (m : Mach) (L : List Pick) : (mrun m L).2.length = L.length := by
  induction L generalizing m with
  | nil => rfl
  | cons x a ih => simp only [mrun, List.length_cons, ih]
theorem mrun_snoc {m : Mach} {L : List Pick} {i : Nat} {x : Pick} (hx : L[i]? = some x) : mrun m (L.take (i + 1)) = ((mstep (mrun m (L.take i)).1 x).1, (mrun m (L.take i)).2 ++ [(mstep (mrun m (L.take i)).1 x).2]) := by
  rw [← snoc_take hx, mrun_app]
  rfl
theorem mstep_ok {m : Mach} {x : Pick} (h : KOk m) : KOk (mstep m x).1 ∧ (mstep m x).1.cores.length = m.cores.length := by
  obtain ⟨who, late⟩ := x
  rcases hi : inn 0 ((m.cores.length : Int) - 1) who with _ | _
  · rw [show mstep m ⟨who, late⟩ = (m, 2) by rw [mstep, if_pos hi]]
    exact ⟨h, rfl⟩
  · have hin : 0 ≤ who ∧ who ≤ (m.cores.length : Int) - 1 := by simpa [inn] using hi
    obtain ⟨q, rfl⟩ := Int.eq_ofNat_of_zero_le hin.1
    have hq : q < m.cores.length := by omega
    have h1 := mstep_kept (late := late) h (List.getElem?_eq_getElem hq)
    obtain ⟨c', h2, _⟩ := h1.core
    exact ⟨h1.ok, by rw [h2, List.length_set]⟩
theorem mrun_ok {m : Mach} {L : List Pick} (h : KOk m) : KOk (mrun m L).1 ∧ (mrun m L).1.cores.length = m.cores.length := by
  induction L generalizing m with
  | nil => exact ⟨h, rfl⟩
  | cons x a ih =>
    have h1 := mstep_ok (x := x) h
    have h2 := ih h1.1
    exact ⟨h2.1, h2.2.trans h1.2⟩
/-- What MachineRun answers. -/
def mrunD (m : Mach) (L : List Pick) : Mach × List Int := if machOk m && decide (L.length ≤ 4000) then mrun m L else (m, [])
def lateOk (L : List Pick) : Prop := ∀ p ∈ L, -(2 ^ 63) ≤ p.late ∧ p.late < 2 ^ 63
/-- A machine whose rows are events of their own. -/
structure MAt (H : Heap) (eo : Id) (p q r : Nat) (m : Mach) : Prop where
  o : H eo = some [.ref (p, q, r, 0) [] 1 0 m.codes.length, .ref (p, q, r, 1) [] 4 0 m.cores.length, .ref (p, q, r, 2) [] 1 0 m.mem.length, .ref (p, q, r, 3) [] 2 0 m.trace.length]
  a : H (p, q, r, 0) = some (co m.codes)
  b : H (p, q, r, 1) = some (co m.cores)
  c : H (p, q, r, 2) = some (co m.mem)
  d : H (p, q, r, 3) = some (co m.trace)
theorem take_sm {m : Mach} {L : List Pick} (hk : machOk m = true) (i : Nat) : KOk (mrun m (L.take i)).1 ∧ (mrun m (L.take i)).1.cores.length = m.cores.length := mrun_ok (machOk_iff.1 hk)
set_option maxRecDepth 1000000 in
theorem s39 {fl fl' : Bool} {m : Mach} {L : List Pick} (hm : m.sm) (n1 : m.mem ≠ []) (n2 : m.cores ≠ []) (hL : L.length < 2 ^ 40) (hl : lateOk L) :
    Runs (gam code) (.fn 39 [.agg (imL fl m.d), .c (.imm fl' 2 L.length (cl fl' L))] [] (.tup [.agg (owL (mrunD m L).1.d), .c (rS (mrunD m L).2).ow]) []) := by
  refine W.is (fn := a39) rfl rfl ?_
  rw [start_im (by repeat (first | exact Pls.nil | refine Pls.c rfl ?_ | refine Pls.agg ?_))]
  simp only [a39]
  repeat (first | refine wk1 ?_ | (apply WO.cb (s24 ?_); (· exact lends); rotate_left 1; (· assumption)) | (apply WO.ca (s64 ?_ ?_ ?_); (· exact lends); (· exact brr); rotate_left 1; (· assumption); (· assumption); (· assumption)) | (apply WO.cb s63; (· exact lends)))
  have k3 := hm.cores
  rcases hk : machOk m with _ | _
  · rw [show mrunD m L = (m, []) by rw [mrunD, hk]; rfl]
    repeat (first | refine wk1 ?_ | (apply WO.cb (s24 ?_); (· exact lends); rotate_left 1; (· assumption)) | (apply WO.ca (s64 ?_ ?_ ?_); (· exact lends); (· exact brr); rotate_left 1; (· assumption); (· assumption); (· assumption)) | (apply WO.cb s63; (· exact lends)))
    exact W.ret (endQ.many (.inr rfl) (Ans.cell rfl hh rfl rfl abt (Ans.row (L := ([] : List Int)) rfl rfl rfl hh Ans.nil)) rfl)
  repeat (first | refine wk1 ?_ | (apply WO.cb (s24 ?_); (· exact lends); rotate_left 1; (· assumption)) | (apply WO.ca (s64 ?_ ?_ ?_); (· exact lends); (· exact brr); rotate_left 1; (· assumption); (· assumption); (· assumption)) | (apply WO.cb s63; (· exact lends)))
  refine W.if rfl (fun hb => ?_) (fun hb => ?_)
  · have h1 : ¬ L.length ≤ 4000 := by have := of_decide_eq_true hb; omega
    rw [show mrunD m L = (m, []) by rw [mrunD, hk]; simp [h1]]
    repeat (first | refine wk1 ?_ | (apply WO.cb (s24 ?_); (· exact lends); rotate_left 1; (· assumption)) | (apply WO.ca (s64 ?_ ?_ ?_); (· exact lends); (· exact brr); rotate_left 1; (· assumption); (· assumption); (· assumption)) | (apply WO.cb s63; (· exact lends)))
    exact W.ret (endQ.many (.inr rfl) (Ans.cell rfl hh rfl rfl abt (Ans.row (L := ([] : List Int)) rfl rfl rfl hh Ans.nil)) rfl)
  have h1 : L.length ≤ 4000 := by have := of_decide_eq_false hb; omega
  rw [show mrunD m L = mrun m L by rw [mrunD, hk]; simp [h1]]
  repeat (first | refine wk1 ?_ | (apply WO.cb (s24 ?_); (· exact lends); rotate_left 1; (· assumption)) | (apply WO.ca (s64 ?_ ?_ ?_); (· exact lends); (· exact brr); rotate_left 1; (· assumption); (· assumption); (· assumption)) | (apply WO.cb s63; (· exact lends)))
  refine W.for (fun i T H n => ∃ (e : Id) (p q : Nat), Ag [(1, .c (.imm fl' 2 L.length (cl fl' L))), (2, .c (.ptr (1, 0, 0, 0) [] 0)), (4, .c (.ptr (1, 1, 0, 0) [] 0)), (6, .c (.ref e [] 1 0 i)), (7, .c (.ptr (3, 2, 0, 0) [] 0)), (8, .c (.int .i64 ((i : Nat) : Int)))] T ∧ H (1, 0, 0, 0) = some (imL fl m.d) ∧ H (1, 1, 0, 0) = some [.nils, .nils, .nils, .nils] ∧
    MAt H (3, 2, 0, 0) p q 0 (mrun m (L.take i)).1 ∧ H e = some (co (mrun m (L.take i)).2) ∧ e.1 < n ∧ 1 < e.1 ∧ (e.1 ≠ 3 ∨ e.2.1 ≠ 2) ∧ (e.1 ≠ p ∨ e.2.1 ≠ q) ∧ p < n ∧ 1 < p ∧ (p ≠ 3 ∨ q ≠ 2) ∧ 3 < n) L.length ⟨_, _, _, ⟨rfl, rfl, rfl, rfl, rfl, rfl, trivial⟩, hh, hh, ⟨hh, hh, hh, hh, hh⟩, hh, ats, ats, ats, ats, ats, ats, ats, ats⟩ ?_
  rintro i T H n hi ⟨e, p, q, hT, hH0, hH1, hM, hE, g1, g2, g3, g4, g5, g6, g7, g8⟩
  obtain ⟨T, rfl⟩ := hT.fix
  simp only [ups]
  clear hT
  obtain ⟨hko, hkl⟩ := take_sm (L := L) hk i
  have hlen : (mrun m (L.take i)).2.length = i := by rw [mrun_len, len_take hi]
  repeat (first | refine wk1 ?_ | (apply WO.cb (s24 ?_); (· exact lends); rotate_left 1; (· assumption)) | (apply WO.ca (s64 ?_ ?_ ?_); (· exact lends); (· exact brr); rotate_left 1; (· assumption); (· assumption); (· assumption)) | (apply WO.cb s63; (· exact lends)))
  refine W.if rfl (fun hb => ?_) (fun hb => ?_)
  · have hlt : i < L.length := by simpa using hb
    have hx : L[i]? = some L[i] := List.getElem?_eq_getElem hlt
    have hlx := hl L[i] (List.getElem_mem _)
    have hsn := mrun_snoc (m := m) hx
    generalize hmi : mrun m (L.take i) = mi at *
    obtain ⟨mi, ki⟩ := mi
    dsimp only at hM hE hko hkl hlen hsn
    repeat (first | refine wk1 ?_ | (apply WO.cb (s24 ?_); (· exact lends); rotate_left 1; (· assumption)) | (apply WO.ca (s64 ?_ ?_ ?_); (· exact lends); (· exact brr); rotate_left 1; (· assumption); (· assumption); (· assumption)) | (apply WO.cb s63; (· exact lends)))
    rw [len1 k3]
    obtain ⟨m0, m1, m2, m3, m4⟩ := hM
    rcases hi3 : inn 0 ((m.cores.length : Int) - 1) L[i].who with _ | _
    · have hst : mstep mi L[i] = (mi, 2) := by rw [mstep, if_pos (by rw [hkl]; exact hi3)]
      rw [show (decide (0 ≤ L[i].who) && decide (L[i].who ≤ (m.cores.length : Int) - 1)) = false from hi3]
      repeat (first | refine wk1 ?_ | (apply WO.cb (s24 ?_); (· exact lends); rotate_left 1; (· assumption)) | (apply WO.ca (s64 ?_ ?_ ?_); (· exact lends); (· exact brr); rotate_left 1; (· assumption); (· assumption); (· assumption)) | (apply WO.cb s63; (· exact lends)))
      refine WO.ap1r (2 : Int) rfl hh rfl hlen (by omega) rfl hh abt ?_
      repeat (first | refine wk1 ?_ | (apply WO.cb (s24 ?_); (· exact lends); rotate_left 1; (· assumption)) | (apply WO.ca (s64 ?_ ?_ ?_); (· exact lends); (· exact brr); rotate_left 1; (· assumption); (· assumption); (· assumption)) | (apply WO.cb s63; (· exact lends)))
      exact ⟨hlt, _, p, q, ⟨rfl, rfl, rfl, rfl, rfl, wrap_c (by omega), trivial⟩, hh, hh, by rw [hsn, hst]; exact ⟨hh, hh, hh, hh, hh⟩, by rw [hsn, hst]; exact hh, ats, ats, ats, ats, ats, ats, ats, ats⟩
    rw [show (decide (0 ≤ L[i].who) && decide (L[i].who ≤ (m.cores.length : Int) - 1)) = true from hi3]
    have hin : 0 ≤ L[i].who ∧ L[i].who ≤ (m.cores.length : Int) - 1 := by simpa [inn] using hi3
    obtain ⟨w, hw⟩ := Int.eq_ofNat_of_zero_le hin.1
    have hwl : w < mi.cores.length := by omega
    have hcw : mi.cores[w]? = some mi.cores[w] := List.getElem?_eq_getElem hwl
    have hg : mi.cores.getD L[i].who.toNat ⟨0, [], [], 0⟩ = mi.cores[w] := by rw [hw]; exact getD_some hcw
    repeat (first | refine wk1 ?_ | (apply WO.cb (s24 ?_); (· exact lends); rotate_left 1; (· assumption)) | (apply WO.ca (s64 ?_ ?_ ?_); (· exact lends); (· exact brr); rotate_left 1; (· assumption); (· assumption); (· assumption)) | (apply WO.cb s63; (· exact lends)))
    rw [hw]
    refine WO.ixr (off := w) rfl rfl ats ?_
    repeat (first | refine wk1 ?_ | (apply WO.cb (s24 ?_); (· exact lends); rotate_left 1; (· assumption)) | (apply WO.ca (s64 ?_ ?_ ?_); (· exact lends); (· exact brr); rotate_left 1; (· assumption); (· assumption); (· assumption)) | (apply WO.cb s63; (· exact lends)))
    refine WO.ldCo (L := mi.cores) (u := mi.cores[w]) rfl hh rfl hcw rfl rfl rfl ?_
    repeat (first | refine wk1 ?_ | (apply WO.cb (s24 ?_); (· exact lends); rotate_left 1; (· assumption)) | (apply WO.ca (s64 ?_ ?_ ?_); (· exact lends); (· exact brr); rotate_left 1; (· assumption); (· assumption); (· assumption)) | (apply WO.cb s63; (· exact lends)))
    by_cases h0 : mi.cores[w].state = 0
    rotate_left 1
    · have hst : mstep mi L[i] = (mi, 3) := by rw [mstep, if_neg (by rw [hkl, hi3]; simp)]; simp only [hg]; rw [if_pos h0]
      rw [show (mi.cores[w].state == 0) = false by simpa using h0]
      repeat (first | refine wk1 ?_ | (apply WO.cb (s24 ?_); (· exact lends); rotate_left 1; (· assumption)) | (apply WO.ca (s64 ?_ ?_ ?_); (· exact lends); (· exact brr); rotate_left 1; (· assumption); (· assumption); (· assumption)) | (apply WO.cb s63; (· exact lends)))
      refine WO.ap1r (3 : Int) rfl hh rfl hlen (by omega) rfl hh abt ?_
      repeat (first | refine wk1 ?_ | (apply WO.cb (s24 ?_); (· exact lends); rotate_left 1; (· assumption)) | (apply WO.ca (s64 ?_ ?_ ?_); (· exact lends); (· exact brr); rotate_left 1; (· assumption); (· assumption); (· assumption)) | (apply WO.cb s63; (· exact lends)))
      exact ⟨hlt, _, p, q, ⟨rfl, rfl, rfl, rfl, rfl, wrap_c (by omega), trivial⟩, hh, hh, by rw [hsn, hst]; exact ⟨hh, hh, hh, hh, hh⟩, by rw [hsn, hst]; exact hh, ats, ats, ats, ats, ats, ats, ats, ats⟩
    rw [show (mi.cores[w].state == 0) = true by simpa using h0]
    repeat (first | refine wk1 ?_ | (apply WO.cb (s24 ?_); (· exact lends); rotate_left 1; (· assumption)) | (apply WO.ca (s64 ?_ ?_ ?_); (· exact lends); (· exact brr); rotate_left 1; (· assumption); (· assumption); (· assumption)) | (apply WO.cb s63; (· exact lends)))
    refine WO.mvT (ds := mi.d) rfl abt (LA.agg (fl := true) (ds := Enc.d L[i]) rfl LA.nil) (s65 hko.sm (machOk_iff.2 hko) hlx.1 hlx.2 (by rw [hkl]; exact hi3) (by rw [hg]; exact h0)) btt ?_
    generalize hst : mstep mi L[i] = r
    obtain ⟨m', k⟩ := r
    repeat (first | refine wk1 ?_ | (apply WO.cb (s24 ?_); (· exact lends); rotate_left 1; (· assumption)) | (apply WO.ca (s64 ?_ ?_ ?_); (· exact lends); (· exact brr); rotate_left 1; (· assumption); (· assumption); (· assumption)) | (apply WO.cb s63; (· exact lends)))
    refine WO.ap1r (k : Int) rfl hh rfl hlen (by omega) rfl hh abt ?_
    repeat (first | refine wk1 ?_ | (apply WO.cb (s24 ?_); (· exact lends); rotate_left 1; (· assumption)) | (apply WO.ca (s64 ?_ ?_ ?_); (· exact lends); (· exact brr); rotate_left 1; (· assumption); (· assumption); (· assumption)) | (apply WO.cb s63; (· exact lends)))
    exact ⟨hlt, _, _, _, ⟨rfl, rfl, rfl, rfl, rfl, wrap_c (by omega), trivial⟩, hh, hh, by rw [hsn, hst]; exact ⟨hh, hh, hh, hh, hh⟩, by rw [hsn, hst]; exact hh, ats, ats, ats, ats, ats, ats, ats, ats⟩
  · have hge : i = L.length := by simp at hb; omega
    subst hge
    rw [List.take_length] at hM hE
    obtain ⟨m0, m1, m2, m3, m4⟩ := hM
    refine W.exit ?_
    show W _ _ _ _
    repeat (first | refine wk1 ?_ | (apply WO.cb (s24 ?_); (· exact lends); rotate_left 1; (· assumption)) | (apply WO.ca (s64 ?_ ?_ ?_); (· exact lends); (· exact brr); rotate_left 1; (· assumption); (· assumption); (· assumption)) | (apply WO.cb s63; (· exact lends)))
    exact W.ret (endQ.many (.inr rfl) (Ans.cell rfl hh rfl rfl abt (Ans.row rfl rfl (by rw [← hlen, List.take_length]) hh Ans.nil)) rfl)
end Go.Proofs.Ytgodaiiegcdpcaa.Abs.MC
end
section
set_option linter.unusedVariables false
set_option linter.unusedSimpArgs false
namespace Go.Proofs.Ytgodaiiegcdpcaa.Abs.MC
open Go.Proofs.Ytgodaiiegcdpcaa.Abs
set_option linter.unusedSimpArgs false
set_option linter.unusedVariables false
set_option maxRecDepth 10000
set_option maxRecDepth 1000000 in
theorem s14 {fl fl' : Bool} {m : Mach} {L : List Pick} (hm : m.sm) (n1 : m.mem ≠ []) (n2 : m.cores ≠ []) (n3 : m.codes ≠ []) (hL : L.length < 2 ^ 40) (hl : lateOk L) :
    Runs (gam code) (.fn 14 [.agg (imL fl m.d), .c (.imm fl' 2 L.length (cl fl' L))] [] (.tup [.agg (owL (mrunD m L).1.d), .c (rS (mrunD m L).2).ow]) []) := by
  refine W.is (fn := a14) rfl rfl ?_
  rw [start_im (by repeat (first | exact Pls.nil | refine Pls.c rfl ?_ | refine Pls.agg ?_))]
  simp only [a14]
  repeat (first | refine wk1 ?_ | (apply WO.cb (s23 ?_); (· exact lends); rotate_left 1; (· assumption)) | (apply WO.ca (s47 ?_ ?_ ?_ ?_); (· exact lends); (· exact brr); rotate_left 1; (· assumption); (· assumption); (· assumption); (· assumption)))
  have k3 := hm.cores
  refine WO.gs rfl (fun hb => ?_) (fun hb => ?_)
  · have h1 : ¬ L.length ≤ 4000 := by have := of_decide_eq_true hb; omega
    rw [show mrunD m L = (m, []) by rw [mrunD]; simp [h1]]
    repeat (first | refine wk1 ?_ | (apply WO.cb (s23 ?_); (· exact lends); rotate_left 1; (· assumption)) | (apply WO.ca (s47 ?_ ?_ ?_ ?_); (· exact lends); (· exact brr); rotate_left 1; (· assumption); (· assumption); (· assumption); (· assumption)))
    exact W.ret (endQ.many (.inr rfl) (Ans.cell rfl hh rfl rfl abt (Ans.row (L := ([] : List Int)) rfl rfl rfl hh Ans.nil)) rfl)
  have h1 : L.length ≤ 4000 := by have := of_decide_eq_false hb; omega
  repeat (first | refine wk1 ?_ | (apply WO.cb (s23 ?_); (· exact lends); rotate_left 1; (· assumption)) | (apply WO.ca (s47 ?_ ?_ ?_ ?_); (· exact lends); (· exact brr); rotate_left 1; (· assumption); (· assumption); (· assumption); (· assumption)))
  rcases hk : machOk m with _ | _
  · rw [show mrunD m L = (m, []) by rw [mrunD, hk]; rfl]
    repeat (first | refine wk1 ?_ | (apply WO.cb (s23 ?_); (· exact lends); rotate_left 1; (· assumption)) | (apply WO.ca (s47 ?_ ?_ ?_ ?_); (· exact lends); (· exact brr); rotate_left 1; (· assumption); (· assumption); (· assumption); (· assumption)))
    exact W.ret (endQ.many (.inr rfl) (Ans.cell rfl hh rfl rfl abt (Ans.row (L := ([] : List Int)) rfl rfl rfl hh Ans.nil)) rfl)
  rw [show mrunD m L = mrun m L by rw [mrunD, hk]; simp [h1]]
  repeat (first | refine wk1 ?_ | (apply WO.cb (s23 ?_); (· exact lends); rotate_left 1; (· assumption)) | (apply WO.ca (s47 ?_ ?_ ?_ ?_); (· exact lends); (· exact brr); rotate_left 1; (· assumption); (· assumption); (· assumption); (· assumption)))
  refine W.for (fun i T H n => ∃ (e : Id) (p q r : Nat), Ag [(24, .c (.imm fl' 2 L.length (cl fl' L))), (25, .c (.int .i64 L.length)), (4, .c (.ptr (1, 1, 0, 0) [] 0)), (7, .c (.ref e [] 1 0 i)), (6, .c (.ptr (2, 2, 0, 0) [] 0)), (26, .c (.int .i64 ((i : Nat) : Int)))] T ∧ H (1, 1, 0, 0) = some [.nils, .nils, .nils, .nils] ∧
    MAt H (2, 2, 0, 0) p q r (mrun m (L.take i)).1 ∧ H e = some (co (mrun m (L.take i)).2) ∧ e.1 < n ∧ 1 < e.1 ∧ (e.1 ≠ 2 ∨ e.2.1 ≠ 2) ∧ (e.1 ≠ p ∨ e.2.1 ≠ q) ∧ p < n ∧ 1 < p ∧ (p ≠ 2 ∨ q ≠ 2) ∧ 3 < n) L.length ⟨_, _, _, _, ⟨rfl, rfl, rfl, rfl, rfl, rfl, trivial⟩, hh, ⟨hh, hh, hh, hh, hh⟩, hh, ats, ats, ats, ats, ats, ats, ats, ats⟩ ?_
  rintro i T H n hi ⟨e, p, q, r, hT, hH1, hM, hE, g1, g2, g3, g4, g5, g6, g7, g8⟩
  obtain ⟨T, rfl⟩ := hT.fix
  simp only [ups]
  clear hT
  obtain ⟨hko, hkl⟩ := take_sm (L := L) hk i
  have hlen : (mrun m (L.take i)).2.length = i := by rw [mrun_len, len_take hi]
  repeat (first | refine wk1 ?_ | (apply WO.cb (s23 ?_); (· exact lends); rotate_left 1; (· assumption)) | (apply WO.ca (s47 ?_ ?_ ?_ ?_); (· exact lends); (· exact brr); rotate_left 1; (· assumption); (· assumption); (· assumption); (· assumption)))
  refine W.if rfl (fun hb => ?_) (fun hb => ?_)
  · have hlt : i < L.length := by simpa using hb
    have hx : L[i]? = some L[i] := List.getElem?_eq_getElem hlt
    have hlx := hl L[i] (List.getElem_mem _)
    have hsn := mrun_snoc (m := m) hx
    generalize hmi : mrun m (L.take i) = mi at *
    obtain ⟨mi, ki⟩ := mi
    dsimp only at hM hE hko hkl hlen hsn
    obtain ⟨m0, m1, m2, m3, m4⟩ := hM
    repeat (first | refine wk1 ?_ | (apply WO.cb (s23 ?_); (· exact lends); rotate_left 1; (· assumption)) | (apply WO.ca (s47 ?_ ?_ ?_ ?_); (· exact lends); (· exact brr); rotate_left 1; (· assumption); (· assumption); (· assumption); (· assumption)))
    refine WO.ioE (ds := mi.d) (ds' := (mstep mi L[i]).1.d) rfl hh rfl (by decide) abt (LA.agg (fl := true) (ds := Enc.d L[i]) rfl LA.nil) (s48 hko.sm (machOk_iff.2 hko) hlx.1 hlx.2) brr rfl rfl hh rfl ?_
    generalize hst : mstep mi L[i] = rr
    obtain ⟨m', k⟩ := rr
    repeat (first | refine wk1 ?_ | (apply WO.cb (s23 ?_); (· exact lends); rotate_left 1; (· assumption)) | (apply WO.ca (s47 ?_ ?_ ?_ ?_); (· exact lends); (· exact brr); rotate_left 1; (· assumption); (· assumption); (· assumption); (· assumption)))
    refine WO.ap1r (k : Int) rfl hh rfl hlen (by omega) rfl hh abt ?_
    repeat (first | refine wk1 ?_ | (apply WO.cb (s23 ?_); (· exact lends); rotate_left 1; (· assumption)) | (apply WO.ca (s47 ?_ ?_ ?_ ?_); (· exact lends); (· exact brr); rotate_left 1; (· assumption); (· assumption); (· assumption); (· assumption)))
    exact ⟨hlt, _, _, _, _, ⟨rfl, rfl, rfl, rfl, rfl, wrap_c (by omega), trivial⟩, hh, by rw [hsn, hst]; exact ⟨hh, hh, hh, hh, hh⟩, by rw [hsn, hst]; exact hh, ats, ats, ats, ats, ats, ats, ats, ats⟩
  · have hge : i = L.length := by simp at hb; omega
    subst hge
    rw [List.take_length] at hM hE
    obtain ⟨m0, m1, m2, m3, m4⟩ := hM
    refine W.exit ?_
    show W _ _ _ _
    repeat (first | refine wk1 ?_ | (apply WO.cb (s23 ?_); (· exact lends); rotate_left 1; (· assumption)) | (apply WO.ca (s47 ?_ ?_ ?_ ?_); (· exact lends); (· exact brr); rotate_left 1; (· assumption); (· assumption); (· assumption); (· assumption)))
    exact W.ret (endQ.many (.inr rfl) (Ans.cell rfl hh rfl rfl abt (Ans.row rfl rfl (by rw [← hlen, List.take_length]) hh Ans.nil)) rfl)
end Go.Proofs.Ytgodaiiegcdpcaa.Abs.MC
end
section
set_option linter.unusedVariables false
set_option linter.unusedSimpArgs false
namespace Go.Proofs.Ytgodaiiegcdpcaa.Abs.MC
open Go.Proofs.Ytgodaiiegcdpcaa.Abs
set_option linter.unusedSimpArgs false
set_option linter.unusedVariables false
set_option maxRecDepth 10000
/-! ### a core that goes on alone; how long rows become -/
def malone (q : Int) : Nat → Mach → Mach
  | 0, m => m
  | n + 1, m => if (mstep m ⟨q, 0⟩).2 = 0 then malone q n (mstep m ⟨q, 0⟩).1 else m
theorem malone_stop {q : Int} {m : Mach} (h : (mstep m ⟨q, 0⟩).2 ≠ 0) : ∀ n, malone q n m = m
  | 0 => rfl
  | n + 1 => by rw [malone, if_neg h]
theorem malone_app {q : Int} (a b : Nat) (m : Mach) : malone q (a + b) m = malone q b (malone q a m) := by
  induction a generalizing m with
  | zero => rw [Nat.zero_add]; rfl
  | succ a ih =>
    rw [Nat.add_right_comm, malone, malone]
    split
    · exact ih _
    · rename_i h; exact (malone_stop h b).symm
theorem mstep_other {q : Int} {m : Mach} (h : KOk m) {i : Nat} (hi : (i : Int) ≠ q) : (mstep m ⟨q, 0⟩).1.cores[i]? = m.cores[i]? := by
  rcases hin : inn 0 ((m.cores.length : Int) - 1) q with _ | _
  · rw [mstep, if_pos hin]
  · have h1 : 0 ≤ q ∧ q ≤ (m.cores.length : Int) - 1 := by simpa [inn] using hin
    obtain ⟨k, rfl⟩ := Int.eq_ofNat_of_zero_le h1.1
    have hk := mstep_kept (late := 0) h (List.getElem?_eq_getElem (show k < m.cores.length by omega))
    obtain ⟨c', h2, _⟩ := hk.core
    rw [h2, List.getElem?_set_ne (by omega)]
theorem malone_ok {q : Int} : ∀ (n : Nat) {m : Mach}, KOk m → KOk (malone q n m) ∧ (malone q n m).cores.length = m.cores.length ∧ ∀ i : Nat, (i : Int) ≠ q → (malone q n m).cores[i]? = m.cores[i]?
  | 0, m, h => ⟨h, rfl, fun _ _ => rfl⟩
  | n + 1, m, h => by
    rw [malone]
    split
    · have h1 := mstep_ok (x := ⟨q, 0⟩) h
      have h2 := malone_ok (q := q) n h1.1
      exact ⟨h2.1, h2.2.1.trans h1.2, fun i hi => (h2.2.2 i hi).trans (mstep_other h hi)⟩
    · exact ⟨h, rfl, fun _ _ => rfl⟩
/-- Its rows are no longer than so. -/
def Mach.low (m : Mach) (B : Nat) : Prop := m.trace.length ≤ B ∧ ∀ r ∈ m.mem, r.length ≤ B
theorem Mach.low.up {m : Mach} {A B : Nat} (h : m.low A) (hab : A ≤ B) : m.low B := ⟨Nat.le_trans h.1 hab, fun r hr => Nat.le_trans (h.2 r hr) hab⟩
theorem getD_low {m : Mem} {cell B : Nat} (h : ∀ r ∈ m, r.length ≤ B) : (m.getD cell []).length ≤ B := by
  rw [List.getD_eq_getElem?_getD]
  cases hc : m[cell]? with
  | none => simp
  | some x => exact h x (List.mem_of_getElem? hc)
theorem mstore_low {m : Mem} {view : List Int} {cell B : Nat} {v : Int} {l : Bool} (h : ∀ r ∈ m, r.length ≤ B) : ∀ r ∈ (mstore m view cell v l).1, r.length ≤ B + 1 := by
  intro r hr
  simp only [mstore] at hr
  rcases List.mem_or_eq_of_mem_set hr with h1 | h1
  · have := h r h1; omega
  · subst h1
    rw [List.length_append, List.length_singleton]
    have := getD_low (cell := cell) h
    omega
theorem mmem_low {m : Mach} {q : Nat} {late : Int} {c : Core} {s : Step} {B : Nat} (h : m.low B) : (mmem m q late c s).1.low (B + 1) := by
  have hu : m.low (B + 1) := h.up (by omega)
  unfold mmem
  split
  · exact ⟨hu.1, hu.2⟩
  split
  · exact hu
  split
  · exact ⟨hu.1, hu.2⟩
  split
  · exact ⟨hu.1, mstore_low h.2⟩
  · exact ⟨hu.1, mstore_low h.2⟩
theorem mstep_low {m : Mach} {x : Pick} {B : Nat} (h : m.low B) : (mstep m x).1.low (B + 1) := by
  have hu : m.low (B + 1) := h.up (by omega)
  unfold mstep
  split
  · exact hu
  dsimp only
  split
  · exact hu
  unfold mdo
  repeat' split
  all_goals first
    | exact hu
    | exact ⟨hu.1, hu.2⟩
    | exact mmem_low h
    | exact ⟨by have := h.1; simp [goOn]; omega, hu.2⟩
theorem mstep_runs {m : Mach} {q : Int} {B : Nat} (hq : inn 0 ((m.cores.length : Int) - 1) q = true) (h0 : (m.cores.getD q.toNat ⟨0, [], [], 0⟩).state = 0) (h : m.low B) (hB : B < 4000) : (mstep m ⟨q, 0⟩).2 = 0 := by
  unfold mstep
  rw [if_neg (by simp [hq])]
  dsimp only
  rw [if_neg (by simpa using h0)]
  unfold mdo
  have hm : ∀ c s, (mmem m q.toNat 0 c s).2 = 0 := by
    intro c s
    unfold mmem
    split
    · rfl
    split
    · rename_i h2
      have := getD_low (cell := (cellAt c s).toNat) h.2
      omega
    repeat' split
    all_goals rfl
  repeat' split
  all_goals first
    | rfl
    | exact hm _ _
    | (rename_i h2; have := h.1; omega)
theorem mrun_low {L : List Pick} : ∀ {m : Mach} {B : Nat}, m.low B → (mrun m L).1.low (B + L.length) := by
  induction L with
  | nil => intro m B h; exact h
  | cons x a ih =>
    intro m B h
    have := ih (mstep_low (x := x) h)
    rw [List.length_cons, show B + (a.length + 1) = B + 1 + a.length by omega]
    exact this
theorem mrunD_low {m : Mach} {L : List Pick} {B : Nat} (h : m.low B) : (mrunD m L).1.low (B + L.length) := by
  unfold mrunD
  split
  · exact mrun_low h
  · exact h.up (by omega)
theorem malone_low {q : Int} : ∀ (n : Nat) {m : Mach} {B : Nat}, m.low B → (malone q n m).low (B + n)
  | 0, m, B, h => h
  | n + 1, m, B, h => by
    rw [malone]
    split
    · have := malone_low (q := q) n (mstep_low (x := ⟨q, 0⟩) h)
      rw [show B + (n + 1) = B + 1 + n by omega]
      exact this
    · exact h.up (by omega)
theorem machNew_low {codes : List (List Step)} : (machNew codes).low 1 := by
  refine ⟨by simp [machNew], fun r hr => ?_⟩
  simp only [machNew, memNew] at hr
  have := List.eq_of_mem_replicate hr
  subst this
  simp
end Go.Proofs.Ytgodaiiegcdpcaa.Abs.MC
end
section
set_option linter.unusedVariables false
set_option linter.unusedSimpArgs false
namespace Go.Proofs.Ytgodaiiegcdpcaa.Abs.MC
open Go.Proofs.Ytgodaiiegcdpcaa.Abs
set_option linter.unusedSimpArgs false
set_option linter.unusedVariables false
set_option maxRecDepth 10000
/-- A machine in an event, its rows in events of their own. -/
def MIn (H : Heap) (e : Id) (m : Mach) : Prop := ∃ cells H2, H e = some cells ∧ cells.length = 4 ∧ AbT (upd H e (some (List.replicate 4 .dead))) cells m.d H2 ∧ H2 e = some (List.replicate 4 .dead)
theorem MIn.owns {H : Heap} {e : Id} {m : Mach} (h : MIn H e m) : ∃ cells es, H e = some cells ∧ Owns (upd H e none) es cells m.d := by
  obtain ⟨cells, H2, h1, _, h3, h4⟩ := h
  obtain ⟨es, h5, h6⟩ := h3.owns
  refine ⟨cells, es, h1, h5.mono fun e' he' => ?_⟩
  have h7 : e' ≠ e := by
    intro h
    subst h
    rw [h6, less, if_pos he'] at h4
    cases h4
  rw [upd_ne _ _ h7, upd_ne _ _ h7]
theorem MIn.endR {s : St} {ex : AEx} {P : V → List D → Prop} {m : Mach} (h : MIn s.H (0, 0, 0, 0) m) (hx : ex = .normal ∨ ex = .ret) (hp : P (.tup []) m.d) : endR1 [] P ex s := by
  obtain ⟨cells, es, h1, h2⟩ := h.owns
  exact ⟨hx, [], _, cells, _, es, Ans.nil, h1, h2, hp⟩
theorem MIn.new {H2 : Heap} {n a r : Nat} {m : Mach} (hn : 0 < n) (h : H2 (0, 0, 0, 0) = some (List.replicate 4 .dead)) :
    MIn (upd (upd (upd (upd (upd H2 (n, a, r, 0) (some (co m.codes))) (n, a, r, 1) (some (co m.cores))) (n, a, r, 2) (some (co m.mem))) (n, a, r, 3) (some (co m.trace))) (0, 0, 0, 0) (some [.ref (n, a, r, 0) [] 1 0 m.codes.length, .ref (n, a, r, 1) [] 4 0 m.cores.length, .ref (n, a, r, 2) [] 1 0 m.mem.length, .ref (n, a, r, 3) [] 2 0 m.trace.length])) (0, 0, 0, 0) m := by
  have k : ∀ i : Nat, ((n, a, r, i) : Id) ≠ (0, 0, 0, 0) := fun i h => by have := congrArg (·.1) h; dsimp only at this; omega
  have j : ∀ i l : Nat, i ≠ l → ((n, a, r, i) : Id) ≠ (n, a, r, l) := fun i l h h2 => h (congrArg (·.2.2.2) h2)
  refine ⟨_, _, upd_same _ _ _, rfl, AbT.row (L := m.codes) ?_ rfl rfl (AbT.row (L := m.cores) ?_ rfl rfl (AbT.row (L := m.mem) ?_ rfl rfl (AbT.row (L := m.trace) ?_ rfl rfl AbT.nil))), ?_⟩
  · rw [upd_ne _ _ (k 0), upd_ne _ _ (k 0), upd_ne _ _ (j 0 3 (by decide)), upd_ne _ _ (j 0 2 (by decide)), upd_ne _ _ (j 0 1 (by decide)), upd_same]
  · rw [upd_ne _ _ (j 1 0 (by decide)), upd_ne _ _ (k 1), upd_ne _ _ (k 1), upd_ne _ _ (j 1 3 (by decide)), upd_ne _ _ (j 1 2 (by decide)), upd_same]
  · rw [upd_ne _ _ (j 2 1 (by decide)), upd_ne _ _ (j 2 0 (by decide)), upd_ne _ _ (k 2), upd_ne _ _ (k 2), upd_ne _ _ (j 2 3 (by decide)), upd_same]
  · rw [upd_ne _ _ (j 3 2 (by decide)), upd_ne _ _ (j 3 1 (by decide)), upd_ne _ _ (j 3 0 (by decide)), upd_ne _ _ (k 3), upd_ne _ _ (k 3), upd_same]
  · rw [upd_ne _ _ (k 3).symm, upd_ne _ _ (k 2).symm, upd_ne _ _ (k 1).symm, upd_ne _ _ (k 0).symm, upd_same]
set_option maxRecDepth 1000000 in
theorem s58 {m : Mach} {q steps : Int} (hK : KOk m) : Runs (gam code) (.fn 58 [.c (.ptr (0, 0, 0, 0) [] 0), .c (.int .i64 q), .c (.int .i64 steps)] [owL m.d] (.tup []) [owL (malone q (min steps 4000).toNat m).d]) := by
  suffices h : ∃ v' ds, (v' = .tup [] ∧ ds = (malone q (min steps 4000).toNat m).d) ∧ Runs (gam code) (.fn 58 [.c (.ptr (0, 0, 0, 0) [] 0), .c (.int .i64 q), .c (.int .i64 steps)] [owL m.d] v' [owL ds]) by
    obtain ⟨_, _, ⟨rfl, rfl⟩, h2⟩ := h
    exact h2
  have hN : ∀ i : Nat, i < (min steps 4000).toNat ↔ ((i : Int) < steps ∧ (i : Int) < 4000) := fun i => by omega
  generalize (min steps 4000).toNat = N at *
  refine W.root (fn := a58) rfl rfl ?_
  rw [start_im (by repeat (first | exact Pls.nil | refine Pls.c rfl ?_ | refine Pls.agg ?_))]
  simp only [a58]
  refine W.det4 (e := (0, 0, 0, 0)) 0 hh rfl rfl ?_
  refine W.det4 (e := (0, 0, 0, 0)) 1 hh rfl rfl ?_
  refine W.det4 (e := (0, 0, 0, 0)) 2 hh rfl rfl ?_
  refine W.det4 (e := (0, 0, 0, 0)) 3 hh rfl rfl ?_
  refine wk ?_
  refine W.for (fun i T H n => ∃ mi, Ag [(0, .c (.ptr (0, 0, 0, 0) [] 0)), (1, .c (.int .i64 q)), (2, .c (.int .i64 steps)), (6, .c (.int .i64 ((i : Nat) : Int)))] T ∧ MIn H (0, 0, 0, 0) mi ∧ KOk mi ∧ malone q (N - i) mi = malone q N m ∧ 0 < n) N
    ⟨m, ⟨rfl, rfl, rfl, rfl, trivial⟩, ⟨_, _, hh, rfl, abt, hh⟩, hK, rfl, ats⟩ ?_
  rintro i T H n hi ⟨mi, hT, hM, hko, hml, hn⟩
  obtain ⟨T, rfl⟩ := hT.fix
  simp only [ups]
  clear hT
  refine wk ?_
  refine WO.gs rfl (fun hb => ?_) (fun hb => ?_)
  · have hge : i = N := by
      have h1 := of_decide_eq_false hb
      have h2 := hN i
      omega
    subst hge
    rw [Nat.sub_self] at hml
    refine wk ?_
    refine W.exit ?_
    exact hM.endR (.inl rfl) ⟨rfl, congrArg Mach.d hml⟩
  have hlt0 := of_decide_eq_true hb
  refine wk ?_
  refine W.if rfl (fun hb => ?_) (fun hb => ?_)
  · have hlt : i < N := (hN i).2 ⟨hlt0, of_decide_eq_true hb⟩
    have hlt2 := of_decide_eq_true hb
    obtain ⟨cells, H2, hc, hl4, hab, hd⟩ := hM
    have hok' := (mstep_ok (x := ⟨q, 0⟩) hko).1
    have hkeep := mstep_keep (m := mi) (x := ⟨q, 0⟩)
    have hst := s48 (x := ⟨q, 0⟩) hko.sm (machOk_iff.2 hko) (show -(2 ^ 63) ≤ (0 : Int) by decide) (show (0 : Int) < 2 ^ 63 by decide)
    rw [show N - i = N - (i + 1) + 1 by omega, malone] at hml
    generalize mstep mi ⟨q, 0⟩ = r at *
    obtain ⟨m', k⟩ := r
    dsimp only at hok' hkeep hst hml
    refine wk ?_
    refine WO.ioE (ds := mi.d) (ds' := m'.d) rfl hc hl4 (by decide) hab (LA.agg (fl := true) (ds := Enc.d (⟨q, 0⟩ : Pick)) rfl LA.nil) hst brr rfl rfl hh rfl ?_
    refine wk ?_
    by_cases h0 : k = 0
    · subst h0
      rw [if_pos rfl] at hml
      refine wk ?_
      exact ⟨hlt, m', ⟨rfl, rfl, rfl, wrap_c (by omega), trivial⟩, MIn.new (by omega) hd, hok', hml, ats⟩
    · rw [if_neg h0] at hml
      have hmm := hkeep h0
      subst hmm
      rw [show (k != 0) = true by simpa using h0]
      refine wk ?_
      exact W.ret (MIn.endR (m := m') (MIn.new (by omega) hd) (.inr rfl) ⟨rfl, congrArg Mach.d hml⟩)
  · have hge : i = N := by
      have h1 := of_decide_eq_false hb
      have h2 := hN i
      omega
    subst hge
    rw [Nat.sub_self] at hml
    refine W.exit ?_
    exact hM.endR (.inl rfl) ⟨rfl, congrArg Mach.d hml⟩
/-- What Alone answers. -/
def maloneD (m : Mach) (q steps : Int) : List D := if machOk m then (malone q (min steps 4000).toNat m).d else [.nil, .nil, .nil, .nil]
theorem s36 {fl : Bool} {m : Mach} {q steps : Int} (hm : m.sm) : Runs (gam code) (.fn 36 [.agg (imL fl m.d), .c (.int .i64 q), .c (.int .i64 steps)] [] (.agg (owL (maloneD m q steps))) []) := by
  refine W.is (fn := a36) rfl rfl ?_
  rw [start_im (by repeat (first | exact Pls.nil | refine Pls.c rfl ?_ | refine Pls.agg ?_))]
  simp only [a36]
  repeat (first | refine wk1 ?_ | (apply WO.cb (s23 ?_); (· exact lends); rotate_left 1; (· assumption)) | (apply WO.ca (s47 ?_ ?_ ?_ ?_); (· exact lends); (· exact brr); rotate_left 1; (· assumption); (· assumption); (· assumption); (· assumption)))
  rcases hk : machOk m with _ | _
  · rw [show maloneD m q steps = [.nil, .nil, .nil, .nil] by rw [maloneD, hk]; rfl]
    repeat (first | refine wk1 ?_ | (apply WO.cb (s23 ?_); (· exact lends); rotate_left 1; (· assumption)) | (apply WO.ca (s47 ?_ ?_ ?_ ?_); (· exact lends); (· exact brr); rotate_left 1; (· assumption); (· assumption); (· assumption); (· assumption)))
    exact W.ret (endQ.many (.inr rfl) ansr rfl)
  · obtain ⟨n1, n2, n3⟩ := machOk_ne hk
    rw [show maloneD m q steps = (malone q (min steps 4000).toNat m).d by rw [maloneD, hk]; rfl]
    repeat (first | refine wk1 ?_ | (apply WO.cb (s23 ?_); (· exact lends); rotate_left 1; (· assumption)) | (apply WO.ca (s47 ?_ ?_ ?_ ?_); (· exact lends); (· exact brr); rotate_left 1; (· assumption); (· assumption); (· assumption); (· assumption)))
    refine WO.ioE (ds := m.d) (ds' := (malone q (min steps 4000).toNat m).d) rfl hh rfl (by decide) abt (LA.int rfl (LA.int rfl LA.nil)) (s58 (machOk_iff.1 hk)) brr rfl rfl hh rfl ?_
    generalize malone q (min steps 4000).toNat m = r
    repeat (first | refine wk1 ?_ | (apply WO.cb (s23 ?_); (· exact lends); rotate_left 1; (· assumption)) | (apply WO.ca (s47 ?_ ?_ ?_ ?_); (· exact lends); (· exact brr); rotate_left 1; (· assumption); (· assumption); (· assumption); (· assumption)))
    exact W.ret (endQ.many (.inr rfl) ansr rfl)
end Go.Proofs.Ytgodaiiegcdpcaa.Abs.MC
end
section
set_option linter.unusedVariables false
set_option linter.unusedSimpArgs false
namespace Go.Proofs.Ytgodaiiegcdpcaa.Abs.MC
open Go.Proofs.Ytgodaiiegcdpcaa.Abs
set_option linter.unusedSimpArgs false
set_option linter.unusedVariables false
set_option maxRecDepth 10000
theorem s137 {a b : Int} : Runs (gam code) (.fn 137 [.c (.int .i64 a), .c (.int .i64 b)] [] (.c (.int .i64 (min a b))) []) := by
  refine W.is (fn := a137) rfl rfl ?_
  rw [start_im (by repeat (first | exact Pls.nil | refine Pls.c rfl ?_ | refine Pls.agg ?_))]
  simp only [a137]
  refine wk ?_
  refine W.if rfl (fun hb => ?_) (fun hb => ?_)
  · have := of_decide_eq_true hb
    rw [show min a b = a by omega]
    refine wk ?_
    exact W.ret (endQ.sc (.inr rfl) rfl rfl rfl)
  · have := of_decide_eq_false hb
    rw [show min a b = b by omega]
    refine wk ?_
    exact W.ret (endQ.sc (.inr rfl) rfl rfl rfl)
set_option maxRecDepth 1000000 in
set_option maxHeartbeats 4000000 in
theorem s93 {m : Mach} {q : Nat} {steps : Int} (hK : KOk m) (hq : q < m.cores.length) (hl : m.low 700) (h3 : steps ≤ 100) :
    Runs (gam code) (.fn 93 [.agg (owL m.d), .c (.int .i64 (q : Int)), .c (.int .i64 steps)] [] (.agg (owL (malone (q : Int) (min steps 4000).toNat m).d)) []) := by
  have hN : ∀ i : Nat, i < (min steps 4000).toNat ↔ (i : Int) < min steps 4000 := fun i => by omega
  have hN2 : (min steps 4000).toNat ≤ 100 := by omega
  generalize hNN : (min steps 4000).toNat = N at *
  refine W.is (fn := a93) rfl rfl ?_
  rw [show start [.agg (owL m.d), .c (.int .i64 (q : Int)), .c (.int .i64 steps)] [] = ⟨fun t => [.agg [.ref (0, 1, 0, 0) [] 1 0 m.codes.length, .ref (0, 1, 0, 1) [] 4 0 m.cores.length, .ref (0, 1, 0, 2) [] 1 0 m.mem.length, .ref (0, 1, 0, 3) [] 2 0 m.trace.length], .c (.int .i64 (q : Int)), .c (.int .i64 steps)].getD t (.c .dead),
    upd (upd (upd (upd (fun _ => none) (0, 1, 0, 0) (some (co m.codes))) (0, 1, 0, 1) (some (co m.cores))) (0, 1, 0, 2) (some (co m.mem))) (0, 1, 0, 3) (some (co m.trace)), 1⟩ from rfl]
  simp only [a93]
  repeat (first | refine wk1 ?_ | (apply WO.ci s137; (· exact lends)))
  refine W.for (fun i T H n => ∃ (mi : Mach) (p a r : Nat), Ag [(1, .c (.int .i64 (q : Int))), (2, .c (.int .i64 steps)), (3, .c (.ptr (1, 0, 0, 0) [] 0)), (6, .c (.ptr (1, 1, 0, 0) [] 0)), (7, .c (.int .i64 ((i : Nat) : Int)))] T ∧ H (1, 1, 0, 0) = some [.nils, .nils, .nils, .nils] ∧ MAt H (1, 0, 0, 0) p a r mi ∧ KOk mi ∧ mi.cores.length = m.cores.length ∧ mi.low (700 + i) ∧ malone q (N - i) mi = malone q N m ∧ p ≠ 1 ∧ p < n ∧ 1 < n) N
    ⟨m, _, _, _, ⟨rfl, rfl, rfl, rfl, rfl, trivial⟩, hh, ⟨hh, hh, hh, hh, hh⟩, hK, rfl, hl, rfl, ats, ats, ats⟩ ?_
  rintro i T H n hi ⟨mi, p, a, r, hT, hH1, ⟨m0, m1, m2, m3, m4⟩, hko, hlen, hlow, hml, g1, g2, g3⟩
  obtain ⟨T, rfl⟩ := hT.fix
  simp only [ups]
  clear hT
  repeat (first | refine wk1 ?_ | (apply WO.ci s137; (· exact lends)))
  refine W.if rfl (fun hb => ?_) (fun hb => ?_)
  · have hlt : i < N := (hN i).2 (of_decide_eq_true hb)
    have hqi : q < mi.cores.length := by omega
    have hcq : mi.cores[q]? = some mi.cores[q] := List.getElem?_eq_getElem hqi
    repeat (first | refine wk1 ?_ | (apply WO.ci s137; (· exact lends)))
    refine WO.ldCo (L := mi.cores) (u := mi.cores[q]) rfl hh rfl hcq rfl rfl rfl ?_
    repeat (first | refine wk1 ?_ | (apply WO.ci s137; (· exact lends)))
    have hin : inn 0 ((mi.cores.length : Int) - 1) (q : Int) = true := by simp [inn]; omega
    have hg : mi.cores.getD (q : Int).toNat ⟨0, [], [], 0⟩ = mi.cores[q] := getD_some hcq
    by_cases h0 : mi.cores[q].state = 0
    rotate_left 1
    · have hst : mstep mi ⟨(q : Int), 0⟩ = (mi, 3) := by rw [mstep, if_neg (by simp [hin])]; simp only [hg]; rw [if_pos h0]
      rw [malone_stop (by rw [hst]; simp)] at hml
      rw [show (mi.cores[q].state != 0) = true by simpa using h0]
      repeat (first | refine wk1 ?_ | (apply WO.ci s137; (· exact lends)))
      rw [← hml]
      exact W.ret (endQ.many (.inr rfl) ansr rfl)
    rw [show (mi.cores[q].state != 0) = false by simpa using h0]
    repeat (first | refine wk1 ?_ | (apply WO.ci s137; (· exact lends)))
    have hok' := mstep_ok (x := ⟨(q : Int), 0⟩) hko
    have hlow' := mstep_low (x := ⟨(q : Int), 0⟩) hlow
    have hrun := mstep_runs hin (by rw [hg]; exact h0) hlow (by omega)
    have hst := s65 (x := ⟨(q : Int), 0⟩) hko.sm (machOk_iff.2 hko) (show -(2 ^ 63) ≤ (0 : Int) by decide) (show (0 : Int) < 2 ^ 63 by decide) hin (by rw [hg]; exact h0)
    rw [show N - i = N - (i + 1) + 1 by omega, malone, if_pos hrun] at hml
    generalize mstep mi ⟨(q : Int), 0⟩ = rr at *
    obtain ⟨m', k⟩ := rr
    dsimp only at hok' hlow' hrun hst hml
    subst hrun
    refine WO.mvT (ds := mi.d) rfl abt (LA.agg (fl := true) (ds := Enc.d (⟨(q : Int), 0⟩ : Pick)) rfl LA.nil) hst btt ?_
    repeat (first | refine wk1 ?_ | (apply WO.ci s137; (· exact lends)))
    exact ⟨hlt, m', _, _, _, ⟨rfl, rfl, rfl, rfl, wrap_c (by omega), trivial⟩, hh, ⟨hh, hh, hh, hh, hh⟩, hok'.1, hok'.2.trans hlen, hlow', hml, ats, ats, ats⟩
  · have hge : i = N := by
      have h1 := of_decide_eq_false hb
      have h2 := hN i
      omega
    subst hge
    rw [Nat.sub_self] at hml
    refine W.exit ?_
    show W _ _ _ _
    repeat (first | refine wk1 ?_ | (apply WO.ci s137; (· exact lends)))
    rw [← hml]
    exact W.ret (endQ.many (.inr rfl) ansr rfl)
theorem WO.mvS {Γ : FuncId → Option AFn} {T : Nat → V} {H H2 H4 : Heap} {n ix d : Nat} {os : List AOper} {R : List Heap → St → Prop} {x : Opd} {f : FuncId} {ar : List (Mode × Opd)} {us : List V} {cs cs' : List C} {ds ds' : List D} (hx : ev T x = .agg cs) (ha : AbT H cs ds H2) (hl : LA H2 T ar us) (hf : Runs Γ (.fn f (.agg (owL ds) :: us) [] (.agg (owL ds')) [])) (hb : Br n ix 0 0 H2 ds' cs' H4) (h : Nx Γ os (upd T d (.agg cs')) H H4 n R) : WO Γ (⟨ix, some d, none, .call f ((.mv, x) :: ar)⟩ :: os) ⟨T, H, n⟩ R :=
  .mvA hx ha hl hf (by simp only [bringV, bringT, hb.eq, List.headD_cons]) h
theorem s37 {fl : Bool} {m : Mach} {q steps : Int} (hm : m.sm) (hl : m.low 700) (h3 : steps ≤ 100) : Runs (gam code) (.fn 37 [.agg (imL fl m.d), .c (.int .i64 q), .c (.int .i64 steps)] [] (.agg (owL (maloneD m q steps))) []) := by
  have k3 := hm.cores
  refine W.is (fn := a37) rfl rfl ?_
  rw [start_im (by repeat (first | exact Pls.nil | refine Pls.c rfl ?_ | refine Pls.agg ?_))]
  simp only [a37]
  repeat (first | refine wk1 ?_ | (apply WO.cb (s24 ?_); (· exact lends); rotate_left 1; (· assumption)) | (apply WO.ca (s64 ?_ ?_ ?_); (· exact lends); (· exact brr); rotate_left 1; (· assumption); (· assumption); (· assumption)) | (apply WO.cb s63; (· exact lends)))
  rcases hk : machOk m with _ | _
  · rw [show maloneD m q steps = [.nil, .nil, .nil, .nil] by rw [maloneD, hk]; rfl]
    repeat (first | refine wk1 ?_ | (apply WO.cb (s24 ?_); (· exact lends); rotate_left 1; (· assumption)) | (apply WO.ca (s64 ?_ ?_ ?_); (· exact lends); (· exact brr); rotate_left 1; (· assumption); (· assumption); (· assumption)) | (apply WO.cb s63; (· exact lends)))
    exact W.ret (endQ.many (.inr rfl) ansr rfl)
  obtain ⟨n1, n2, n3⟩ := machOk_ne hk
  rw [show maloneD m q steps = (malone q (min steps 4000).toNat m).d by rw [maloneD, hk]; rfl]
  repeat (first | refine wk1 ?_ | (apply WO.cb (s24 ?_); (· exact lends); rotate_left 1; (· assumption)) | (apply WO.ca (s64 ?_ ?_ ?_); (· exact lends); (· exact brr); rotate_left 1; (· assumption); (· assumption); (· assumption)) | (apply WO.cb s63; (· exact lends)))
  rw [len1 k3]
  rcases hi : inn 0 ((m.cores.length : Int) - 1) q with _ | _
  · rw [show (decide (0 ≤ q) && decide (q ≤ (m.cores.length : Int) - 1)) = false from hi, malone_stop (by rw [mstep, if_pos hi]; simp)]
    repeat (first | refine wk1 ?_ | (apply WO.cb (s24 ?_); (· exact lends); rotate_left 1; (· assumption)) | (apply WO.ca (s64 ?_ ?_ ?_); (· exact lends); (· exact brr); rotate_left 1; (· assumption); (· assumption); (· assumption)) | (apply WO.cb s63; (· exact lends)))
    exact W.ret (endQ.many (.inr rfl) ansr rfl)
  rw [show (decide (0 ≤ q) && decide (q ≤ (m.cores.length : Int) - 1)) = true from hi]
  have hin : 0 ≤ q ∧ q ≤ (m.cores.length : Int) - 1 := by simpa [inn] using hi
  obtain ⟨w, rfl⟩ := Int.eq_ofNat_of_zero_le hin.1
  have hal := s93 (q := w) (steps := steps) (machOk_iff.1 hk) (by omega) hl h3
  generalize malone (w : Int) (min steps 4000).toNat m = r at *
  repeat (first | refine wk1 ?_ | (apply WO.cb (s24 ?_); (· exact lends); rotate_left 1; (· assumption)) | (apply WO.ca (s64 ?_ ?_ ?_); (· exact lends); (· exact brr); rotate_left 1; (· assumption); (· assumption); (· assumption)) | (apply WO.cb s63; (· exact lends)))
  refine WO.mvS (ds := m.d) (ds' := r.d) rfl abt (LA.int rfl (LA.int rfl LA.nil)) hal brr ?_
  repeat (first | refine wk1 ?_ | (apply WO.cb (s24 ?_); (· exact lends); rotate_left 1; (· assumption)) | (apply WO.ca (s64 ?_ ?_ ?_); (· exact lends); (· exact brr); rotate_left 1; (· assumption); (· assumption); (· assumption)) | (apply WO.cb s63; (· exact lends)))
  exact W.ret (endQ.many (.inr rfl) ansr rfl)
end Go.Proofs.Ytgodaiiegcdpcaa.Abs.MC
end
section
set_option linter.unusedVariables false
set_option linter.unusedSimpArgs false
namespace Go.Proofs.Ytgodaiiegcdpcaa.Abs.MC
open Go.Proofs.Ytgodaiiegcdpcaa.Abs
set_option linter.unusedSimpArgs false
set_option linter.unusedVariables false
set_option maxRecDepth 10000
theorem viewOk_new : VOk memNew (List.replicate 24 0) := by
  refine ⟨by simp [memNew], fun i x r hx hr => ?_⟩
  have hi : i < 24 := by have := (List.getElem?_eq_some_iff.1 hx).1; simpa using this
  rw [List.getElem?_replicate, if_pos hi] at hx
  rw [memNew, List.getElem?_replicate, if_pos hi] at hr
  cases hx
  cases hr
  simp
theorem memNew_ok : MOk memNew := by
  refine ⟨by simp [memNew], fun r hr => ?_, fun r hr w hw => ?_⟩
  · have h1 := List.eq_of_mem_replicate hr
    subst h1
    simp
  · have h1 := List.eq_of_mem_replicate hr
    subst h1
    simp only [List.mem_singleton] at hw
    subst hw
    exact viewOk_new
theorem machNew_ok {codes : List (List Step)} (h0 : codes ≠ []) (h1 : codes.length ≤ 4) (h2 : ∀ L ∈ codes, codeOk' L = true) : KOk (machNew codes) := by
  have h3 : 1 ≤ codes.length := by cases codes with | nil => exact absurd rfl h0 | cons _ _ => simp
  refine ⟨⟨h3, h1⟩, by simp [machNew], memNew_ok, by simp [machNew], fun x hx => by simp [machNew] at hx, fun i c L hc hL => ?_⟩
  simp only [machNew, List.getElem?_replicate] at hc hL
  split at hc
  · cases hc
    have h4 := h2 L (List.mem_of_getElem? hL)
    have h5 : 1 ≤ L.length := by
      simp only [codeOk', inn, Bool.and_eq_true, decide_eq_true_eq] at h4
      omega
    exact ⟨h4, by simp [core0], by simp [core0], by simp [core0]; omega, by simp [core0], viewOk_new⟩
  · cases hc
theorem mrunD_ok {m : Mach} {L : List Pick} (h : KOk m) : KOk (mrunD m L).1 := by
  unfold mrunD
  split
  · exact (mrun_ok h).1
  · exact h
theorem picks_late {L : List Pick} (h : picksOk L) : lateOk L := fun p hp => by have := h p hp; omega
set_option maxRecDepth 100000 in
theorem s113 {c0 : Cur} (hc0 : c0.ok) : ∃ (m : Mach) (c' : Cur), (KOk m ∧ m.low 601) ∧ c'.ok ∧ Runs (gam code) (.fn 113 [.c (.ptr (0, 0, 0, 0) [] 0)] [c0.C] (.agg (owL m.d)) [c'.C]) := by
  suffices h : ∃ v c', (∃ m : Mach, (KOk m ∧ m.low 601) ∧ v = .agg (owL m.d) ∧ Cur.ok c') ∧ Runs (gam code) (.fn 113 [.c (.ptr (0, 0, 0, 0) [] 0)] [c0.C] v [Cur.C c']) by
    obtain ⟨_, c', ⟨x, hx, rfl, h3⟩, h2⟩ := h
    exact ⟨x, c', hx, h3, h2⟩
  refine W.cur (fn := a113) rfl rfl ?_
  rw [start_im (by repeat (first | exact Pls.nil | refine Pls.c rfl ?_ | refine Pls.agg ?_))]
  simp only [a113]
  refine wk ?_
  refine W.for (fun i T H n => ∃ (e : Id) (c : Cur) (L : List (List Step)), Ag [(0, .c (.ptr (0, 0, 0, 0) [] 0)), (2, .c (.ptr (1, 0, 0, 0) [] 0)), (3, .c (.ref e [] 1 0 L.length)), (4, .c (.int .i64 ((i : Nat) : Int)))] T ∧ H (1, 0, 0, 0) = some [.nils, .nils, .nils, .nils] ∧ H e = some (co L) ∧ L.length = i ∧ (∀ x ∈ L, codeOk' x = true ∧ x.length ≤ 15) ∧ H (0, 0, 0, 0) = some c.C ∧ c.ok ∧ e.1 < n ∧ 1 < e.1) 3
    ⟨_, c0, [], ⟨rfl, rfl, rfl, rfl, trivial⟩, hh, hh, rfl, by simp, hh, hc0, ats, ats⟩ ?_
  rintro i T H n hi ⟨e, c0, L, hT, hH1, hH, hLl, hok, hr, hc0, hn1, hn2⟩
  obtain ⟨T, rfl⟩ := hT.fix
  simp only [ups]
  clear hT
  refine wk ?_
  obtain ⟨x1, c1, hx1, hc1, r1⟩ := s61 (c := c0) (n := 3) hc0 ats ats
  refine WO.curi rfl hh (LA.int rfl LA.nil) r1 ?_
  refine wk ?_
  rw [show IntKind.i64.wrap (1 + x1) = 1 + x1 from wrap_in (by omega)]
  refine W.if rfl (fun hb => ?_) (fun hb => ?_)
  · have hlt : i < 3 := by simp at hb; omega
    refine wk ?_
    obtain ⟨S, c2, hS, hc2, r2⟩ := s96 hc1
    have hS3 := hS.2.2
    refine WO.curr rfl hh LA.nil r2 ?_
    refine wk ?_
    refine WO.ap1r S rfl hh rfl rfl (by omega) rfl hh abt ?_
    refine wk ?_
    exact ⟨hlt, _, c2, L ++ [S], ⟨rfl, rfl, by rw [List.length_append]; rfl, wrap_c (by omega), trivial⟩, hh, hh, by simp [hLl], snoc_all hok ⟨hS.1, hS.2.2⟩, hh, hc2, ats, ats⟩
  · have hL0 : L ≠ [] := by
      intro h
      subst h
      simp at hLl
      subst hLl
      simp at hb
      omega
    have hko := machNew_ok hL0 (by omega) (fun x hx => (hok x hx).1)
    have hL1 : L.length < 2 ^ 40 := by omega
    have hL2 : ∀ x ∈ L, x.length < 2 ^ 40 := fun x hx => by have := (hok x hx).2; omega
    refine W.exit ?_
    show W _ _ _ _
    refine wk ?_
    have hmn := s12 (fl := true) hL1 hL2 hL0
    rw [show machNewD L = [rS L, rS (machNew L).cores, rS memNew, .nil] by rw [machNewD, if_pos (machOk_iff.2 hko)]] at hmn
    refine WO.ct hmn (LA.ev rfl rfl rfl hh LA.nil) btt ?_
    refine wk ?_
    obtain ⟨P, c2, hP, hc2, r2⟩ := s94 (cores := (L.length : Int)) (most := 12) hc1 (by omega) (by omega) (by omega)
    refine WO.curr rfl hh lends r2 ?_
    refine wk ?_
    have hne := machOk_ne (machOk_iff.2 hko)
    refine WO.ct (s39 (fl := true) (fl' := true) (m := machNew L) (L := P) hko.sm hne.1 hne.2.1 (by omega) (picks_late hP.1)) (LA.cons (show Lend _ (.agg _) _ from Lend.abtE abt erl_last) (LA.ev rfl rfl rfl hh LA.nil)) btt ?_
    rw [show List.length (mrunD (machNew L) P).1.d = 4 from rfl]
    have hm' := mrunD_ok (L := P) hko
    have hlow : (mrunD (machNew L) P).1.low 601 := (mrunD_low (L := P) (machNew_low (codes := L))).up (by omega)
    generalize mrunD (machNew L) P = r at *
    obtain ⟨m', ks⟩ := r
    refine wk ?_
    exact W.ret ⟨.inr rfl, _, _, c2, Ans.cell rfl hh rfl rfl abt Ans.nil, hh, m', ⟨hm', hlow⟩, rfl, hc2⟩
end Go.Proofs.Ytgodaiiegcdpcaa.Abs.MC
end
section
set_option linter.unusedVariables false
set_option linter.unusedSimpArgs false
namespace Go.Proofs.Ytgodaiiegcdpcaa.Abs.MC
open Go.Proofs.Ytgodaiiegcdpcaa.Abs
set_option linter.unusedSimpArgs false
set_option linter.unusedVariables false
set_option maxRecDepth 10000
/-- A machine drawn, perhaps bent. -/
structure Mach.dr (m : Mach) : Prop where
  sm : m.sm
  mem : m.mem ≠ []
  cores : m.cores ≠ []
  codes : m.codes ≠ []
theorem KOk.dr {m : Mach} (h : KOk m) : m.dr := by
  obtain ⟨a, b, c⟩ := machOk_ne (machOk_iff.2 h)
  exact ⟨h.sm, a, b, c⟩
theorem set_ne {α : Type} {L : List α} {i : Nat} {x : α} (h : L ≠ []) : L.set i x ≠ [] := by simpa using h
set_option maxHeartbeats 4000000 in
theorem s60 {c0 : Cur} (hc0 : c0.ok) : ∃ (m : Mach) (c' : Cur), ((m.dr ∧ m.cores.length ≤ 4) ∧ m.low 700) ∧ c'.ok ∧ Runs (gam code) (.fn 60 [.c (.ptr (0, 0, 0, 0) [] 0)] [c0.C] (.agg (owL m.d)) [c'.C]) := by
  suffices h : ∃ v c', (∃ m : Mach, ((m.dr ∧ m.cores.length ≤ 4) ∧ m.low 700) ∧ v = .agg (owL m.d) ∧ Cur.ok c') ∧ Runs (gam code) (.fn 60 [.c (.ptr (0, 0, 0, 0) [] 0)] [c0.C] v [Cur.C c']) by
    obtain ⟨_, c', ⟨x, hx, rfl, h3⟩, h2⟩ := h
    exact ⟨x, c', hx, h3, h2⟩
  refine W.cur (fn := a60) rfl rfl ?_
  rw [start_im (by repeat (first | exact Pls.nil | refine Pls.c rfl ?_ | refine Pls.agg ?_))]
  simp only [a60]
  refine wk ?_
  obtain ⟨m, c1, ⟨hm, hlow0⟩, hc1, r1⟩ := s113 hc0
  have hlow := hlow0.up (show 601 ≤ 700 by omega)
  refine WO.cura rfl hh LA.nil r1 brr ?_
  refine wk ?_
  obtain ⟨x2, c2, hx2, hc2, r2⟩ := s61 (c := c1) (n := 20) hc1 ats ats
  refine WO.curi rfl hh (LA.int rfl LA.nil) r2 ?_
  refine wk ?_
  have hd := hm.dr
  have h4 : m.cores.length ≤ 4 := by have := hm.n1; have := hm.n2; omega
  have hq : 0 < m.cores.length := by have := hm.n1; have := hm.n2; omega
  have hqc : 0 < m.codes.length := by have := hm.n1; omega
  obtain ⟨c, hcq⟩ : ∃ c, m.cores[0]? = some c := ⟨_, List.getElem?_eq_getElem hq⟩
  obtain ⟨S, hSq⟩ : ∃ S, m.codes[0]? = some S := ⟨_, List.getElem?_eq_getElem hqc⟩
  have hcs := hm.sm.core c (List.mem_of_getElem? hcq)
  have hco := hm.core 0 c S hcq hSq
  obtain ⟨cat, regs, view, st⟩ := c
  have sm0 : ∀ c' : Core, c'.regs.length < 2 ^ 40 ∧ c'.view.length < 2 ^ 40 → ((⟨m.codes, m.cores.set 0 c', m.mem, m.trace⟩ : Mach).dr ∧ (⟨m.codes, m.cores.set 0 c', m.mem, m.trace⟩ : Mach).cores.length ≤ 4) ∧ (⟨m.codes, m.cores.set 0 c', m.mem, m.trace⟩ : Mach).low 700 := fun c' h =>
    ⟨⟨⟨⟨hm.sm.codes, hm.sm.code, by simpa using hm.sm.cores, fun x hx => by (rcases List.mem_or_eq_of_mem_set hx with h1 | h1 <;> first | exact hm.sm.core x h1 | exact h1 ▸ h), hm.sm.mem, hm.sm.trace⟩, hd.mem, set_ne hd.cores, hd.codes⟩, by simpa using h4⟩, ⟨hlow.1, hlow.2⟩⟩
  by_cases e0 : x2 = 0
  · subst e0
    rw [show co m.cores = seg m.cores 0 (owL (Enc.d (⟨cat, regs, view, st⟩ : Core))) from seg_co hcq]
    refine W.detS4 (e := (2, 1, 0, 1)) 1 (q := 0) hh rfl hq rfl rfl rfl rfl ?_
    refine W.detS4 (e := (2, 1, 0, 1)) 2 (q := 0) hh rfl hq rfl rfl rfl rfl ?_
    refine wk ?_
    refine WO.bsI [-1, 50] ats rfl rfl ?_
    refine wk ?_
    obtain ⟨x3, c3, hx3, hc3, r3⟩ := s62 (c := c2) (fl := true) (L := [-1, 50]) hc2 (by simp) (by simp)
    refine WO.curi rfl hh (LA.ev (L := [-1, 50]) rfl rfl rfl hh LA.nil) r3 ?_
    refine wk ?_
    refine wk ?_
    exact W.ret ⟨.inr rfl, _, _, c3, Ans.cello rfl hh rfl rfl (owns_con (own_row hh rfl rfl) (owns_con (own_seg (x' := ⟨x3, regs, view, st⟩) hh rfl rfl hq (by simp) (core_owns hh rfl hh rfl (by simp))) (owns_con (own_row hh rfl rfl) (own_row hh rfl rfl).one (by simp)) (by simp)) (by simp)) Ans.nil, hh, _, sm0 ⟨x3, regs, view, st⟩ hcs, rfl, hc3⟩
  by_cases e1 : x2 = 1
  · subst e1
    rw [show co m.cores = seg m.cores 0 (owL (Enc.d (⟨cat, regs, view, st⟩ : Core))) from seg_co hcq]
    refine W.detS4 (e := (2, 1, 0, 1)) 1 (q := 0) hh rfl hq rfl rfl rfl rfl ?_
    refine W.detS4 (e := (2, 1, 0, 1)) 2 (q := 0) hh rfl hq rfl rfl rfl rfl ?_
    have hvl : 1 < view.length := by have := hco.view.1; have := hm.mem.len; dsimp only at *; omega
    refine wk ?_
    refine wk ?_
    refine WO.bsI [-1, 99] ats rfl rfl ?_
    refine wk ?_
    obtain ⟨x3, c3, hx3, hc3, r3⟩ := s62 (c := c2) (fl := true) (L := [-1, 99]) hc2 (by simp) (by simp)
    refine WO.curi rfl hh (LA.ev (L := [-1, 99]) rfl rfl rfl hh LA.nil) r3 ?_
    refine wk ?_
    refine wk ?_
    exact W.ret ⟨.inr rfl, _, _, c3, Ans.cello rfl hh rfl rfl (owns_con (own_row hh rfl rfl) (owns_con (own_seg (x' := ⟨cat, regs, view.set 1 x3, st⟩) hh rfl rfl hq (by simp) (core_owns hh rfl hh (by simp) (by simp))) (owns_con (own_row hh rfl rfl) (own_row hh rfl rfl).one (by simp)) (by simp)) (by simp)) Ans.nil, hh, _, sm0 ⟨cat, regs, view.set 1 x3, st⟩ ⟨hcs.1, by simpa using hcs.2⟩, rfl, hc3⟩
  by_cases e2 : x2 = 2
  · subst e2
    have hSl : 1 ≤ S.length := by have := hco.at1; have := hco.at2; omega
    have hSs := hm.sm.code S (List.mem_of_getElem? hSq)
    rw [show co m.codes = seg m.codes 0 (owL (Enc.d S)) from seg_co hSq]
    refine W.detS1 (e := (2, 1, 0, 0)) (q := 0) hh rfl hqc rfl rfl rfl ?_
    refine wk ?_
    refine wk ?_
    refine WO.slcl 1 rfl rfl rfl hSl ?_
    refine wk ?_
    exact W.ret ⟨.inr rfl, _, _, c2, Ans.cello rfl hh rfl rfl (owns_con (own_seg (x' := S.drop 1) hh rfl rfl hqc (by simp) (own_part hh rfl rfl hSl (by simp)).one) (owns_con (own_row hh rfl rfl) (owns_con (own_row hh rfl rfl) (own_row hh rfl rfl).one (by simp)) (by simp)) (by simp)) Ans.nil, hh,
      (⟨m.codes.set 0 (S.drop 1), m.cores, m.mem, m.trace⟩ : Mach), ⟨⟨⟨⟨by simpa using hm.sm.codes, fun x hx => by (rcases List.mem_or_eq_of_mem_set hx with h1 | h1 <;> first | exact hm.sm.code x h1 | (rw [h1, List.length_drop]; omega)), hm.sm.cores, hm.sm.core, hm.sm.mem, hm.sm.trace⟩, hd.mem, hd.cores, set_ne hd.codes⟩, h4⟩, ⟨hlow.1, hlow.2⟩⟩, rfl, hc2⟩
  by_cases e3 : x2 = 3
  · subst e3
    have ht := hm.sm.trace
    refine wk ?_
    obtain ⟨x3, c3, hx3, hc3, r3⟩ := s61 (c := c2) (n := 5) hc2 ats ats
    refine WO.curi rfl hh (LA.int rfl LA.nil) r3 ?_
    refine wk ?_
    refine WO.ap1r (⟨x3, 0⟩ : Note) rfl hh rfl rfl (by omega) rfl hh abt ?_
    refine wk ?_
    exact W.ret ⟨.inr rfl, _, _, c3, Ans.cell (ds := (⟨m.codes, m.cores, m.mem, m.trace ++ [⟨x3, 0⟩]⟩ : Mach).d) rfl hh rfl rfl (AbT.row hh rfl rfl (AbT.row hh rfl rfl (AbT.row hh rfl rfl (AbT.row hh rfl (by simp) AbT.nil)))) Ans.nil, hh, (⟨m.codes, m.cores, m.mem, m.trace ++ [⟨x3, 0⟩]⟩ : Mach), ⟨⟨⟨⟨hm.sm.codes, hm.sm.code, hm.sm.cores, hm.sm.core, hm.sm.mem, by have := hm.trace; simp; omega⟩, hd.mem, hd.cores, hd.codes⟩, h4⟩, ⟨by have := hlow0.1; simp; omega, hlow.2⟩⟩, rfl, hc3⟩
  by_cases e4 : x2 = 4
  · subst e4
    rw [show co m.cores = seg m.cores 0 (owL (Enc.d (⟨cat, regs, view, st⟩ : Core))) from seg_co hcq]
    refine W.detS4 (e := (2, 1, 0, 1)) 1 (q := 0) hh rfl hq rfl rfl rfl rfl ?_
    refine W.detS4 (e := (2, 1, 0, 1)) 2 (q := 0) hh rfl hq rfl rfl rfl rfl ?_
    have hrl : regs.length = 8 := hco.regs
    refine wk ?_
    refine wk ?_
    refine WO.bsI [-9223372036854775807, 24, 9223372036854775807] ats rfl rfl ?_
    refine wk ?_
    obtain ⟨x3, c3, hx3, hc3, r3⟩ := s61 (c := c2) (n := 8) hc2 ats ats
    obtain ⟨y, rfl⟩ := Int.eq_ofNat_of_zero_le hx3.1
    have hyl : y < regs.length := by omega
    refine WO.curi rfl hh (LA.int rfl LA.nil) r3 ?_
    refine wk ?_
    obtain ⟨x4, c4, hx4, hc4, r4⟩ := s62 (c := c3) (fl := true) (L := [-9223372036854775807, 24, 9223372036854775807]) hc3 (by simp) (by simp)
    refine WO.curi rfl hh (LA.ev (L := [-9223372036854775807, 24, 9223372036854775807]) rfl rfl rfl hh LA.nil) r4 ?_
    refine wk ?_
    exact W.ret ⟨.inr rfl, _, _, c4, Ans.cello rfl hh rfl rfl (owns_con (own_row hh rfl rfl) (owns_con (own_seg (x' := ⟨cat, regs.set y x4, view, st⟩) hh rfl rfl hq (by simp) (core_owns hh (by simp) hh rfl (by simp))) (owns_con (own_row hh rfl rfl) (own_row hh rfl rfl).one (by simp)) (by simp)) (by simp)) Ans.nil, hh, _, sm0 ⟨cat, regs.set y x4, view, st⟩ ⟨by simpa using hcs.1, hcs.2⟩, rfl, hc4⟩
  rw [show (x2 == 0) = false by simpa using e0]
  refine wk ?_
  rw [show (x2 == 1) = false by simpa using e1]
  refine wk ?_
  rw [show (x2 == 2) = false by simpa using e2]
  refine wk ?_
  rw [show (x2 == 3) = false by simpa using e3]
  refine wk ?_
  rw [show (x2 == 4) = false by simpa using e4]
  refine wk ?_
  exact W.ret ⟨.inr rfl, _, _, c2, Ans.cell rfl hh rfl rfl abt Ans.nil, hh, m, ⟨⟨hd, h4⟩, hlow⟩, rfl, hc2⟩
end Go.Proofs.Ytgodaiiegcdpcaa.Abs.MC
end
section
set_option linter.unusedVariables false
set_option linter.unusedSimpArgs false
namespace Go.Proofs.Ytgodaiiegcdpcaa.Abs.MC
open Go.Proofs.Ytgodaiiegcdpcaa.Abs
set_option linter.unusedSimpArgs false
set_option linter.unusedVariables false
set_option maxRecDepth 10000
theorem s19 {bs : List B8} (hb : bs.length < 2 ^ 40) : ∃ (m : Mach) (x : Pick), (m.dr ∧ m.cores.length ≤ 4) ∧ (-(2 ^ 63) ≤ x.late ∧ x.late < 2 ^ 63) ∧ Runs (gam code) (.fn 19 [.c (.imm false 1 bs.length (cl false bs))] [] (.tup [.agg (owL m.d), .agg (owL (Enc.d x))]) []) := by
  suffices h : ∃ v, (∃ (m : Mach) (x : Pick), (m.dr ∧ m.cores.length ≤ 4) ∧ (-(2 ^ 63) ≤ x.late ∧ x.late < 2 ^ 63) ∧ v = .tup [.agg (owL m.d), .agg (owL (Enc.d x))]) ∧ Runs (gam code) (.fn 19 [.c (.imm false 1 bs.length (cl false bs))] [] v []) by
    obtain ⟨_, ⟨m, x, hm, hx, rfl⟩, h2⟩ := h
    exact ⟨m, x, hm, hx, h2⟩
  refine W.ans (fn := a19) rfl rfl ?_
  rw [start_im (by repeat (first | exact Pls.nil | refine Pls.c rfl ?_ | refine Pls.agg ?_))]
  simp only [a19]
  refine wk ?_
  obtain ⟨c0, hc0, r0⟩ := s59 hb
  refine WO.cbx r0 (LA.imm rfl LA.nil) ?_
  refine wk ?_
  obtain ⟨m, c1, ⟨hm, _⟩, hc1, r1⟩ := s60 hc0
  refine WO.cura rfl hh LA.nil r1 brr ?_
  refine wk ?_
  refine WO.bsI [0, 1, 2, 3, -1, 9223372036854775807] ats rfl rfl ?_
  refine wk ?_
  obtain ⟨x2, c2, hx2, hc2, r2⟩ := s61 (c := c1) (n := 4) hc1 ats ats
  refine WO.curi rfl hh (LA.int rfl LA.nil) r2 ?_
  refine wk ?_
  obtain ⟨x3, c3, hx3, hc3, r3⟩ := s61 (c := c2) (n := 20) hc2 ats ats
  refine WO.curi rfl hh (LA.int rfl LA.nil) r3 ?_
  refine wk ?_
  obtain ⟨x4, c4, hx4, hc4, r4⟩ := s62 (c := c3) (fl := true) (L := [0, 1, 2, 3, -1, 9223372036854775807]) hc3 (by simp) (by simp)
  refine WO.curi rfl hh (LA.ev (L := [0, 1, 2, 3, -1, 9223372036854775807]) rfl rfl rfl hh LA.nil) r4 ?_
  refine wk ?_
  refine W.ret (endQ.many (.inr rfl) ansr ⟨m, ⟨_, x4⟩, hm, ?_, rfl⟩)
  dsimp only
  simp only [List.mem_cons, List.not_mem_nil, or_false] at hx4
  omega
end Go.Proofs.Ytgodaiiegcdpcaa.Abs.MC
end
