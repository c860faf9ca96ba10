/- The program's functions, told in that language, and what each of them answers; each theorem bears its own conditions. -/
import Derived.Test.YtgodaiiegcdpcaaB6
import Derived.Test.YtgodaiiegcdpcaaA2
section
set_option linter.unusedVariables false
set_option linter.unusedSimpArgs false
namespace Go.Proofs.Ytgodaiiegcdpcaa.Abs.MC
open Go.Proofs.Ytgodaiiegcdpcaa.Abs
set_option linter.unusedSimpArgs false
set_option linter.unusedVariables false
set_option maxRecDepth 10000
/-- A run of picks. -/
def mrun : Mach → List Pick → Mach × List Int
  | m, [] => (m, [])
  | m, x :: xs => ((mrun (mstep m x).1 xs).1, (mstep m x).2 :: (mrun (mstep m x).1 xs).2)
theorem mrun_app (m : Mach) (a b : List Pick) : mrun m (a ++ b) = ((mrun (mrun m a).1 b).1, (mrun m a).2 ++ (mrun (mrun m a).1 b).2) := by
  induction a generalizing m with
  | nil => rfl
  | cons x a ih => simp only [List.cons_append, mrun, ih]
theorem mrun_len (m : Mach) (L : List Pick) : (mrun m L).2.length = L.length := by
  induction L generalizing m with
  | nil => rfl
  | cons x a ih => simp only [mrun, List.length_cons, ih]
theorem mrun_snoc {m : Mach} {L : List Pick} {i : Nat} {x : Pick} (hx : L[i]? = some x) : mrun m (L.take (i + 1)) = ((mstep (mrun m (L.take i)).1 x).1, (mrun m (L.take i)).2 ++ [(mstep (mrun m (L.take i)).1 x).2]) := by
  rw [← snoc_take hx, mrun_app]
  rfl
theorem mstep_ok {m : Mach} {x : Pick} (h : KOk m) : KOk (mstep m x).1 ∧ (mstep m x).1.cores.length = m.cores.length := by
  obtain ⟨who, late⟩ := x
  rcases hi : inn 0 ((m.cores.length : Int) - 1) who with _ | _
  · rw [show mstep m ⟨who, late⟩ = (m, 2) by rw [mstep, if_pos hi]]
    exact ⟨h, rfl⟩
  · have hin : 0 ≤ who ∧ who ≤ (m.cores.length : Int) - 1 := by simpa [inn] using hi
    obtain ⟨q, rfl⟩ := Int.eq_ofNat_of_zero_le hin.1
    have hq : q < m.cores.length := by omega
    have h1 := mstep_kept (late := late) h (List.getElem?_eq_getElem hq)
    obtain ⟨c', h2, _⟩ := h1.core
    exact ⟨h1.ok, by rw [h2, List.length_set]⟩
theorem mrun_ok {m : Mach} {L : List Pick} (h : KOk m) : KOk (mrun m L).1 ∧ (mrun m L).1.cores.length = m.cores.length := by
  induction L generalizing m with
  | nil => exact ⟨h, rfl⟩
  | cons x a ih =>
    have h1 := mstep_ok (x := x) h
    have h2 := ih h1.1
    exact ⟨h2.1, h2.2.trans h1.2⟩
/-- What MachineRun answers. -/
def mrunD (m : Mach) (L : List Pick) : Mach × List Int := if machOk m && decide (L.length ≤ 4000) then mrun m L else (m, [])
def lateOk (L : List Pick) : Prop := ∀ p ∈ L, -(2 ^ 63) ≤ p.late ∧ p.late < 2 ^ 63
/-- A machine whose rows are events of their own. -/
structure MAt (H : Heap) (eo : Id) (p q r : Nat) (m : Mach) : Prop where
  o : H eo = some [.ref (p, q, r, 0) [] 1 0 m.codes.length, .ref (p, q, r, 1) [] 4 0 m.cores.length, .ref (p, q, r, 2) [] 1 0 m.mem.length, .ref (p, q, r, 3) [] 2 0 m.trace.length]
  a : H (p, q, r, 0) = some (co m.codes)
  b : H (p, q, r, 1) = some (co m.cores)
  c : H (p, q, r, 2) = some (co m.mem)
  d : H (p, q, r, 3) = some (co m.trace)
theorem take_sm {m : Mach} {L : List Pick} (hk : machOk m = true) (i : Nat) : KOk (mrun m (L.take i)).1 ∧ (mrun m (L.take i)).1.cores.length = m.cores.length := mrun_ok (machOk_iff.1 hk)
set_option maxRecDepth 1000000 in
theorem s39 {fl fl' : Bool} {m : Mach} {L : List Pick} (hm : m.sm) (n1 : m.mem ≠ []) (n2 : m.cores ≠ []) (hL : L.length < 2 ^ 40) (hl : lateOk L) :
    Runs (gam code) (.fn 39 [.agg (imL fl m.d), .c (.imm fl' 2 L.length (cl fl' L))] [] (.tup [.agg (owL (mrunD m L).1.d), .c (rS (mrunD m L).2).ow]) []) := by
  refine W.is (fn := a39) rfl rfl ?_
  rw [start_im (by repeat (first | exact Pls.nil | refine Pls.c rfl ?_ | refine Pls.agg ?_))]
  simp only [a39]
  repeat (first | refine wk1 ?_ | (apply WO.cb (s24 ?_); (· exact lends); rotate_left 1; (· assumption)) | (apply WO.ca (s64 ?_ ?_ ?_); (· exact lends); (· exact brr); rotate_left 1; (· assumption); (· assumption); (· assumption)) | (apply WO.cb s63; (· exact lends)))
  have k3 := hm.cores
  rcases hk : machOk m with _ | _
  · rw [show mrunD m L = (m, []) by rw [mrunD, hk]; rfl]
    repeat (first | refine wk1 ?_ | (apply WO.cb (s24 ?_); (· exact lends); rotate_left 1; (· assumption)) | (apply WO.ca (s64 ?_ ?_ ?_); (· exact lends); (· exact brr); rotate_left 1; (· assumption); (· assumption); (· assumption)) | (apply WO.cb s63; (· exact lends)))
    exact W.ret (endQ.many (.inr rfl) (Ans.cell rfl hh rfl rfl abt (Ans.row (L := ([] : List Int)) rfl rfl rfl hh Ans.nil)) rfl)
  repeat (first | refine wk1 ?_ | (apply WO.cb (s24 ?_); (· exact lends); rotate_left 1; (· assumption)) | (apply WO.ca (s64 ?_ ?_ ?_); (· exact lends); (· exact brr); rotate_left 1; (· assumption); (· assumption); (· assumption)) | (apply WO.cb s63; (· exact lends)))
  refine W.if rfl (fun hb => ?_) (fun hb => ?_)
  · have h1 : ¬ L.length ≤ 4000 := by have := of_decide_eq_true hb; omega
    rw [show mrunD m L = (m, []) by rw [mrunD, hk]; simp [h1]]
    repeat (first | refine wk1 ?_ | (apply WO.cb (s24 ?_); (· exact lends); rotate_left 1; (· assumption)) | (apply WO.ca (s64 ?_ ?_ ?_); (· exact lends); (· exact brr); rotate_left 1; (· assumption); (· assumption); (· assumption)) | (apply WO.cb s63; (· exact lends)))
    exact W.ret (endQ.many (.inr rfl) (Ans.cell rfl hh rfl rfl abt (Ans.row (L := ([] : List Int)) rfl rfl rfl hh Ans.nil)) rfl)
  have h1 : L.length ≤ 4000 := by have := of_decide_eq_false hb; omega
  rw [show mrunD m L = mrun m L by rw [mrunD, hk]; simp [h1]]
  repeat (first | refine wk1 ?_ | (apply WO.cb (s24 ?_); (· exact lends); rotate_left 1; (· assumption)) | (apply WO.ca (s64 ?_ ?_ ?_); (· exact lends); (· exact brr); rotate_left 1; (· assumption); (· assumption); (· assumption)) | (apply WO.cb s63; (· exact lends)))
  refine W.for (fun i T H n => ∃ (e : Id) (p q : Nat), Ag [(1, .c (.imm fl' 2 L.length (cl fl' L))), (2, .c (.ptr (1, 0, 0, 0) [] 0)), (4, .c (.ptr (1, 1, 0, 0) [] 0)), (6, .c (.ref e [] 1 0 i)), (7, .c (.ptr (3, 2, 0, 0) [] 0)), (8, .c (.int .i64 ((i : Nat) : Int)))] T ∧ H (1, 0, 0, 0) = some (imL fl m.d) ∧ H (1, 1, 0, 0) = some [.nils, .nils, .nils, .nils] ∧
    MAt H (3, 2, 0, 0) p q 0 (mrun m (L.take i)).1 ∧ H e = some (co (mrun m (L.take i)).2) ∧ e.1 < n ∧ 1 < e.1 ∧ (e.1 ≠ 3 ∨ e.2.1 ≠ 2) ∧ (e.1 ≠ p ∨ e.2.1 ≠ q) ∧ p < n ∧ 1 < p ∧ (p ≠ 3 ∨ q ≠ 2) ∧ 3 < n) L.length ⟨_, _, _, ⟨rfl, rfl, rfl, rfl, rfl, rfl, trivial⟩, hh, hh, ⟨hh, hh, hh, hh, hh⟩, hh, ats, ats, ats, ats, ats, ats, ats, ats⟩ ?_
  rintro i T H n hi ⟨e, p, q, hT, hH0, hH1, hM, hE, g1, g2, g3, g4, g5, g6, g7, g8⟩
  obtain ⟨T, rfl⟩ := hT.fix
  simp only [ups]
  clear hT
  obtain ⟨hko, hkl⟩ := take_sm (L := L) hk i
  have hlen : (mrun m (L.take i)).2.length = i := by rw [mrun_len, len_take hi]
  repeat (first | refine wk1 ?_ | (apply WO.cb (s24 ?_); (· exact lends); rotate_left 1; (· assumption)) | (apply WO.ca (s64 ?_ ?_ ?_); (· exact lends); (· exact brr); rotate_left 1; (· assumption); (· assumption); (· assumption)) | (apply WO.cb s63; (· exact lends)))
  refine W.if rfl (fun hb => ?_) (fun hb => ?_)
  · have hlt : i < L.length := by simpa using hb
    have hx : L[i]? = some L[i] := List.getElem?_eq_getElem hlt
    have hlx := hl L[i] (List.getElem_mem _)
    have hsn := mrun_snoc (m := m) hx
    generalize hmi : mrun m (L.take i) = mi at *
    obtain ⟨mi, ki⟩ := mi
    dsimp only at hM hE hko hkl hlen hsn
    repeat (first | refine wk1 ?_ | (apply WO.cb (s24 ?_); (· exact lends); rotate_left 1; (· assumption)) | (apply WO.ca (s64 ?_ ?_ ?_); (· exact lends); (· exact brr); rotate_left 1; (· assumption); (· assumption); (· assumption)) | (apply WO.cb s63; (· exact lends)))
    rw [len1 k3]
    obtain ⟨m0, m1, m2, m3, m4⟩ := hM
    rcases hi3 : inn 0 ((m.cores.length : Int) - 1) L[i].who with _ | _
    · have hst : mstep mi L[i] = (mi, 2) := by rw [mstep, if_pos (by rw [hkl]; exact hi3)]
      rw [show (decide (0 ≤ L[i].who) && decide (L[i].who ≤ (m.cores.length : Int) - 1)) = false from hi3]
      repeat (first | refine wk1 ?_ | (apply WO.cb (s24 ?_); (· exact lends); rotate_left 1; (· assumption)) | (apply WO.ca (s64 ?_ ?_ ?_); (· exact lends); (· exact brr); rotate_left 1; (· assumption); (· assumption); (· assumption)) | (apply WO.cb s63; (· exact lends)))
      refine WO.ap1r (2 : Int) rfl hh rfl hlen (by omega) rfl hh abt ?_
      repeat (first | refine wk1 ?_ | (apply WO.cb (s24 ?_); (· exact lends); rotate_left 1; (· assumption)) | (apply WO.ca (s64 ?_ ?_ ?_); (· exact lends); (· exact brr); rotate_left 1; (· assumption); (· assumption); (· assumption)) | (apply WO.cb s63; (· exact lends)))
      exact ⟨hlt, _, p, q, ⟨rfl, rfl, rfl, rfl, rfl, wrap_c (by omega), trivial⟩, hh, hh, by rw [hsn, hst]; exact ⟨hh, hh, hh, hh, hh⟩, by rw [hsn, hst]; exact hh, ats, ats, ats, ats, ats, ats, ats, ats⟩
    rw [show (decide (0 ≤ L[i].who) && decide (L[i].who ≤ (m.cores.length : Int) - 1)) = true from hi3]
    have hin : 0 ≤ L[i].who ∧ L[i].who ≤ (m.cores.length : Int) - 1 := by simpa [inn] using hi3
    obtain ⟨w, hw⟩ := Int.eq_ofNat_of_zero_le hin.1
    have hwl : w < mi.cores.length := by omega
    have hcw : mi.cores[w]? = some mi.cores[w] := List.getElem?_eq_getElem hwl
    have hg : mi.cores.getD L[i].who.toNat ⟨0, [], [], 0⟩ = mi.cores[w] := by rw [hw]; exact getD_some hcw
    repeat (first | refine wk1 ?_ | (apply WO.cb (s24 ?_); (· exact lends); rotate_left 1; (· assumption)) | (apply WO.ca (s64 ?_ ?_ ?_); (· exact lends); (· exact brr); rotate_left 1; (· assumption); (· assumption); (· assumption)) | (apply WO.cb s63; (· exact lends)))
    rw [hw]
    refine WO.ixr (off := w) rfl rfl ats ?_
    repeat (first | refine wk1 ?_ | (apply WO.cb (s24 ?_); (· exact lends); rotate_left 1; (· assumption)) | (apply WO.ca (s64 ?_ ?_ ?_); (· exact lends); (· exact brr); rotate_left 1; (· assumption); (· assumption); (· assumption)) | (apply WO.cb s63; (· exact lends)))
    refine WO.ldCo (L := mi.cores) (u := mi.cores[w]) rfl hh rfl hcw rfl rfl rfl ?_
    repeat (first | refine wk1 ?_ | (apply WO.cb (s24 ?_); (· exact lends); rotate_left 1; (· assumption)) | (apply WO.ca (s64 ?_ ?_ ?_); (· exact lends); (· exact brr); rotate_left 1; (· assumption); (· assumption); (· assumption)) | (apply WO.cb s63; (· exact lends)))
    by_cases h0 : mi.cores[w].state = 0
    rotate_left 1
    · have hst : mstep mi L[i] = (mi, 3) := by rw [mstep, if_neg (by rw [hkl, hi3]; simp)]; simp only [hg]; rw [if_pos h0]
      rw [show (mi.cores[w].state == 0) = false by simpa using h0]
      repeat (first | refine wk1 ?_ | (apply WO.cb (s24 ?_); (· exact lends); rotate_left 1; (· assumption)) | (apply WO.ca (s64 ?_ ?_ ?_); (· exact lends); (· exact brr); rotate_left 1; (· assumption); (· assumption); (· assumption)) | (apply WO.cb s63; (· exact lends)))
      refine WO.ap1r (3 : Int) rfl hh rfl hlen (by omega) rfl hh abt ?_
      repeat (first | refine wk1 ?_ | (apply WO.cb (s24 ?_); (· exact lends); rotate_left 1; (· assumption)) | (apply WO.ca (s64 ?_ ?_ ?_); (· exact lends); (· exact brr); rotate_left 1; (· assumption); (· assumption); (· assumption)) | (apply WO.cb s63; (· exact lends)))
      exact ⟨hlt, _, p, q, ⟨rfl, rfl, rfl, rfl, rfl, wrap_c (by omega), trivial⟩, hh, hh, by rw [hsn, hst]; exact ⟨hh, hh, hh, hh, hh⟩, by rw [hsn, hst]; exact hh, ats, ats, ats, ats, ats, ats, ats, ats⟩
    rw [show (mi.cores[w].state == 0) = true by simpa using h0]
    repeat (first | refine wk1 ?_ | (apply WO.cb (s24 ?_); (· exact lends); rotate_left 1; (· assumption)) | (apply WO.ca (s64 ?_ ?_ ?_); (· exact lends); (· exact brr); rotate_left 1; (· assumption); (· assumption); (· assumption)) | (apply WO.cb s63; (· exact lends)))
    refine WO.mvT (ds := mi.d) rfl abt (LA.agg (fl := true) (ds := Enc.d L[i]) rfl LA.nil) (s65 hko.sm (machOk_iff.2 hko) hlx.1 hlx.2 (by rw [hkl]; exact hi3) (by rw [hg]; exact h0)) btt ?_
    generalize hst : mstep mi L[i] = r
    obtain ⟨m', k⟩ := r
    repeat (first | refine wk1 ?_ | (apply WO.cb (s24 ?_); (· exact lends); rotate_left 1; (· assumption)) | (apply WO.ca (s64 ?_ ?_ ?_); (· exact lends); (· exact brr); rotate_left 1; (· assumption); (· assumption); (· assumption)) | (apply WO.cb s63; (· exact lends)))
    refine WO.ap1r (k : Int) rfl hh rfl hlen (by omega) rfl hh abt ?_
    repeat (first | refine wk1 ?_ | (apply WO.cb (s24 ?_); (· exact lends); rotate_left 1; (· assumption)) | (apply WO.ca (s64 ?_ ?_ ?_); (· exact lends); (· exact brr); rotate_left 1; (· assumption); (· assumption); (· assumption)) | (apply WO.cb s63; (· exact lends)))
    exact ⟨hlt, _, _, _, ⟨rfl, rfl, rfl, rfl, rfl, wrap_c (by omega), trivial⟩, hh, hh, by rw [hsn, hst]; exact ⟨hh, hh, hh, hh, hh⟩, by rw [hsn, hst]; exact hh, ats, ats, ats, ats, ats, ats, ats, ats⟩
  · have hge : i = L.length := by simp at hb; omega
    subst hge
    rw [List.take_length] at hM hE
    obtain ⟨m0, m1, m2, m3, m4⟩ := hM
    refine W.exit ?_
    show W _ _ _ _
    repeat (first | refine wk1 ?_ | (apply WO.cb (s24 ?_); (· exact lends); rotate_left 1; (· assumption)) | (apply WO.ca (s64 ?_ ?_ ?_); (· exact lends); (· exact brr); rotate_left 1; (· assumption); (· assumption); (· assumption)) | (apply WO.cb s63; (· exact lends)))
    exact W.ret (endQ.many (.inr rfl) (Ans.cell rfl hh rfl rfl abt (Ans.row rfl rfl (by rw [← hlen, List.take_length]) hh Ans.nil)) rfl)
end Go.Proofs.Ytgodaiiegcdpcaa.Abs.MC
end
section
set_option linter.unusedVariables false
set_option linter.unusedSimpArgs false
namespace Go.Proofs.Ytgodaiiegcdpcaa.Abs.MC
open Go.Proofs.Ytgodaiiegcdpcaa.Abs
set_option linter.unusedSimpArgs false
set_option linter.unusedVariables false
set_option maxRecDepth 10000
set_option maxRecDepth 1000000 in
theorem s14 {fl fl' : Bool} {m : Mach} {L : List Pick} (hm : m.sm) (n1 : m.mem ≠ []) (n2 : m.cores ≠ []) (n3 : m.codes ≠ []) (hL : L.length < 2 ^ 40) (hl : lateOk L) :
    Runs (gam code) (.fn 14 [.agg (imL fl m.d), .c (.imm fl' 2 L.length (cl fl' L))] [] (.tup [.agg (owL (mrunD m L).1.d), .c (rS (mrunD m L).2).ow]) []) := by
  refine W.is (fn := a14) rfl rfl ?_
  rw [start_im (by repeat (first | exact Pls.nil | refine Pls.c rfl ?_ | refine Pls.agg ?_))]
  simp only [a14]
  repeat (first | refine wk1 ?_ | (apply WO.cb (s23 ?_); (· exact lends); rotate_left 1; (· assumption)) | (apply WO.ca (s47 ?_ ?_ ?_ ?_); (· exact lends); (· exact brr); rotate_left 1; (· assumption); (· assumption); (· assumption); (· assumption)))
  have k3 := hm.cores
  refine WO.gs rfl (fun hb => ?_) (fun hb => ?_)
  · have h1 : ¬ L.length ≤ 4000 := by have := of_decide_eq_true hb; omega
    rw [show mrunD m L = (m, []) by rw [mrunD]; simp [h1]]
    repeat (first | refine wk1 ?_ | (apply WO.cb (s23 ?_); (· exact lends); rotate_left 1; (· assumption)) | (apply WO.ca (s47 ?_ ?_ ?_ ?_); (· exact lends); (· exact brr); rotate_left 1; (· assumption); (· assumption); (· assumption); (· assumption)))
    exact W.ret (endQ.many (.inr rfl) (Ans.cell rfl hh rfl rfl abt (Ans.row (L := ([] : List Int)) rfl rfl rfl hh Ans.nil)) rfl)
  have h1 : L.length ≤ 4000 := by have := of_decide_eq_false hb; omega
  repeat (first | refine wk1 ?_ | (apply WO.cb (s23 ?_); (· exact lends); rotate_left 1; (· assumption)) | (apply WO.ca (s47 ?_ ?_ ?_ ?_); (· exact lends); (· exact brr); rotate_left 1; (· assumption); (· assumption); (· assumption); (· assumption)))
  rcases hk : machOk m with _ | _
  · rw [show mrunD m L = (m, []) by rw [mrunD, hk]; rfl]
    repeat (first | refine wk1 ?_ | (apply WO.cb (s23 ?_); (· exact lends); rotate_left 1; (· assumption)) | (apply WO.ca (s47 ?_ ?_ ?_ ?_); (· exact lends); (· exact brr); rotate_left 1; (· assumption); (· assumption); (· assumption); (· assumption)))
    exact W.ret (endQ.many (.inr rfl) (Ans.cell rfl hh rfl rfl abt (Ans.row (L := ([] : List Int)) rfl rfl rfl hh Ans.nil)) rfl)
  rw [show mrunD m L = mrun m L by rw [mrunD, hk]; simp [h1]]
  repeat (first | refine wk1 ?_ | (apply WO.cb (s23 ?_); (· exact lends); rotate_left 1; (· assumption)) | (apply WO.ca (s47 ?_ ?_ ?_ ?_); (· exact lends); (· exact brr); rotate_left 1; (· assumption); (· assumption); (· assumption); (· assumption)))
  refine W.for (fun i T H n => ∃ (e : Id) (p q r : Nat), Ag [(24, .c (.imm fl' 2 L.length (cl fl' L))), (25, .c (.int .i64 L.length)), (4, .c (.ptr (1, 1, 0, 0) [] 0)), (7, .c (.ref e [] 1 0 i)), (6, .c (.ptr (2, 2, 0, 0) [] 0)), (26, .c (.int .i64 ((i : Nat) : Int)))] T ∧ H (1, 1, 0, 0) = some [.nils, .nils, .nils, .nils] ∧
    MAt H (2, 2, 0, 0) p q r (mrun m (L.take i)).1 ∧ H e = some (co (mrun m (L.take i)).2) ∧ e.1 < n ∧ 1 < e.1 ∧ (e.1 ≠ 2 ∨ e.2.1 ≠ 2) ∧ (e.1 ≠ p ∨ e.2.1 ≠ q) ∧ p < n ∧ 1 < p ∧ (p ≠ 2 ∨ q ≠ 2) ∧ 3 < n) L.length ⟨_, _, _, _, ⟨rfl, rfl, rfl, rfl, rfl, rfl, trivial⟩, hh, ⟨hh, hh, hh, hh, hh⟩, hh, ats, ats, ats, ats, ats, ats, ats, ats⟩ ?_
  rintro i T H n hi ⟨e, p, q, r, hT, hH1, hM, hE, g1, g2, g3, g4, g5, g6, g7, g8⟩
  obtain ⟨T, rfl⟩ := hT.fix
  simp only [ups]
  clear hT
  obtain ⟨hko, hkl⟩ := take_sm (L := L) hk i
  have hlen : (mrun m (L.take i)).2.length = i := by rw [mrun_len, len_take hi]
  repeat (first | refine wk1 ?_ | (apply WO.cb (s23 ?_); (· exact lends); rotate_left 1; (· assumption)) | (apply WO.ca (s47 ?_ ?_ ?_ ?_); (· exact lends); (· exact brr); rotate_left 1; (· assumption); (· assumption); (· assumption); (· assumption)))
  refine W.if rfl (fun hb => ?_) (fun hb => ?_)
  · have hlt : i < L.length := by simpa using hb
    have hx : L[i]? = some L[i] := List.getElem?_eq_getElem hlt
    have hlx := hl L[i] (List.getElem_mem _)
    have hsn := mrun_snoc (m := m) hx
    generalize hmi : mrun m (L.take i) = mi at *
    obtain ⟨mi, ki⟩ := mi
    dsimp only at hM hE hko hkl hlen hsn
    obtain ⟨m0, m1, m2, m3, m4⟩ := hM
    repeat (first | refine wk1 ?_ | (apply WO.cb (s23 ?_); (· exact lends); rotate_left 1; (· assumption)) | (apply WO.ca (s47 ?_ ?_ ?_ ?_); (· exact lends); (· exact brr); rotate_left 1; (· assumption); (· assumption); (· assumption); (· assumption)))
    refine WO.ioE (ds := mi.d) (ds' := (mstep mi L[i]).1.d) rfl hh rfl (by decide) abt (LA.agg (fl := true) (ds := Enc.d L[i]) rfl LA.nil) (s48 hko.sm (machOk_iff.2 hko) hlx.1 hlx.2) brr rfl rfl hh rfl ?_
    generalize hst : mstep mi L[i] = rr
    obtain ⟨m', k⟩ := rr
    repeat (first | refine wk1 ?_ | (apply WO.cb (s23 ?_); (· exact lends); rotate_left 1; (· assumption)) | (apply WO.ca (s47 ?_ ?_ ?_ ?_); (· exact lends); (· exact brr); rotate_left 1; (· assumption); (· assumption); (· assumption); (· assumption)))
    refine WO.ap1r (k : Int) rfl hh rfl hlen (by omega) rfl hh abt ?_
    repeat (first | refine wk1 ?_ | (apply WO.cb (s23 ?_); (· exact lends); rotate_left 1; (· assumption)) | (apply WO.ca (s47 ?_ ?_ ?_ ?_); (· exact lends); (· exact brr); rotate_left 1; (· assumption); (· assumption); (· assumption); (· assumption)))
    exact ⟨hlt, _, _, _, _, ⟨rfl, rfl, rfl, rfl, rfl, wrap_c (by omega), trivial⟩, hh, by rw [hsn, hst]; exact ⟨hh, hh, hh, hh, hh⟩, by rw [hsn, hst]; exact hh, ats, ats, ats, ats, ats, ats, ats, ats⟩
  · have hge : i = L.length := by simp at hb; omega
    subst hge
    rw [List.take_length] at hM hE
    obtain ⟨m0, m1, m2, m3, m4⟩ := hM
    refine W.exit ?_
    show W _ _ _ _
    repeat (first | refine wk1 ?_ | (apply WO.cb (s23 ?_); (· exact lends); rotate_left 1; (· assumption)) | (apply WO.ca (s47 ?_ ?_ ?_ ?_); (· exact lends); (· exact brr); rotate_left 1; (· assumption); (· assumption); (· assumption); (· assumption)))
    exact W.ret (endQ.many (.inr rfl) (Ans.cell rfl hh rfl rfl abt (Ans.row rfl rfl (by rw [← hlen, List.take_length]) hh Ans.nil)) rfl)
end Go.Proofs.Ytgodaiiegcdpcaa.Abs.MC
end
section
set_option linter.unusedVariables false
set_option linter.unusedSimpArgs false
namespace Go.Proofs.Ytgodaiiegcdpcaa.Abs.MC
open Go.Proofs.Ytgodaiiegcdpcaa.Abs
set_option linter.unusedSimpArgs false
set_option linter.unusedVariables false
set_option maxRecDepth 10000
theorem viewOk_new : VOk memNew (List.replicate 24 0) := by
  refine ⟨by simp [memNew], fun i x r hx hr => ?_⟩
  have hi : i < 24 := by have := (List.getElem?_eq_some_iff.1 hx).1; simpa using this
  rw [List.getElem?_replicate, if_pos hi] at hx
  rw [memNew, List.getElem?_replicate, if_pos hi] at hr
  cases hx
  cases hr
  simp
theorem memNew_ok : MOk memNew := by
  refine ⟨by simp [memNew], fun r hr => ?_, fun r hr w hw => ?_⟩
  · have h1 := List.eq_of_mem_replicate hr
    subst h1
    simp
  · have h1 := List.eq_of_mem_replicate hr
    subst h1
    simp only [List.mem_singleton] at hw
    subst hw
    exact viewOk_new
theorem machNew_ok {codes : List (List Step)} (h0 : codes ≠ []) (h1 : codes.length ≤ 4) (h2 : ∀ L ∈ codes, codeOk' L = true) : KOk (machNew codes) := by
  have h3 : 1 ≤ codes.length := by cases codes with | nil => exact absurd rfl h0 | cons _ _ => simp
  refine ⟨⟨h3, h1⟩, by simp [machNew], memNew_ok, by simp [machNew], fun x hx => by simp [machNew] at hx, fun i c L hc hL => ?_⟩
  simp only [machNew, List.getElem?_replicate] at hc hL
  split at hc
  · cases hc
    have h4 := h2 L (List.mem_of_getElem? hL)
    have h5 : 1 ≤ L.length := by
      simp only [codeOk', inn, Bool.and_eq_true, decide_eq_true_eq] at h4
      omega
    exact ⟨h4, by simp [core0], by simp [core0], by simp [core0]; omega, by simp [core0], viewOk_new⟩
  · cases hc
theorem mrunD_ok {m : Mach} {L : List Pick} (h : KOk m) : KOk (mrunD m L).1 := by
  unfold mrunD
  split
  · exact (mrun_ok h).1
  · exact h
theorem picks_late {L : List Pick} (h : picksOk L) : lateOk L := fun p hp => by have := h p hp; omega
set_option maxRecDepth 100000 in
theorem s113 {c0 : Cur} (hc0 : c0.ok) : ∃ (m : Mach) (c' : Cur), KOk m ∧ c'.ok ∧ Runs (gam code) (.fn 113 [.c (.ptr (0, 0, 0, 0) [] 0)] [c0.C] (.agg (owL m.d)) [c'.C]) := by
  suffices h : ∃ v c', (∃ m : Mach, KOk m ∧ v = .agg (owL m.d) ∧ Cur.ok c') ∧ Runs (gam code) (.fn 113 [.c (.ptr (0, 0, 0, 0) [] 0)] [c0.C] v [Cur.C c']) by
    obtain ⟨_, c', ⟨x, hx, rfl, h3⟩, h2⟩ := h
    exact ⟨x, c', hx, h3, h2⟩
  refine W.cur (fn := a113) rfl rfl ?_
  rw [start_im (by repeat (first | exact Pls.nil | refine Pls.c rfl ?_ | refine Pls.agg ?_))]
  simp only [a113]
  refine wk ?_
  refine W.for (fun i T H n => ∃ (e : Id) (c : Cur) (L : List (List Step)), Ag [(0, .c (.ptr (0, 0, 0, 0) [] 0)), (2, .c (.ptr (1, 0, 0, 0) [] 0)), (3, .c (.ref e [] 1 0 L.length)), (4, .c (.int .i64 ((i : Nat) : Int)))] T ∧ H (1, 0, 0, 0) = some [.nils, .nils, .nils, .nils] ∧ H e = some (co L) ∧ L.length = i ∧ (∀ x ∈ L, codeOk' x = true ∧ x.length ≤ 15) ∧ H (0, 0, 0, 0) = some c.C ∧ c.ok ∧ e.1 < n ∧ 1 < e.1) 3
    ⟨_, c0, [], ⟨rfl, rfl, rfl, rfl, trivial⟩, hh, hh, rfl, by simp, hh, hc0, ats, ats⟩ ?_
  rintro i T H n hi ⟨e, c0, L, hT, hH1, hH, hLl, hok, hr, hc0, hn1, hn2⟩
  obtain ⟨T, rfl⟩ := hT.fix
  simp only [ups]
  clear hT
  refine wk ?_
  obtain ⟨x1, c1, hx1, hc1, r1⟩ := s61 (c := c0) (n := 3) hc0 ats ats
  refine WO.curi rfl hh (LA.int rfl LA.nil) r1 ?_
  refine wk ?_
  rw [show IntKind.i64.wrap (1 + x1) = 1 + x1 from wrap_in (by omega)]
  refine W.if rfl (fun hb => ?_) (fun hb => ?_)
  · have hlt : i < 3 := by simp at hb; omega
    refine wk ?_
    obtain ⟨S, c2, hS, hc2, r2⟩ := s96 hc1
    have hS3 := hS.2.2
    refine WO.curr rfl hh LA.nil r2 ?_
    refine wk ?_
    refine WO.ap1r S rfl hh rfl rfl (by omega) rfl hh abt ?_
    refine wk ?_
    exact ⟨hlt, _, c2, L ++ [S], ⟨rfl, rfl, by rw [List.length_append]; rfl, wrap_c (by omega), trivial⟩, hh, hh, by simp [hLl], snoc_all hok ⟨hS.1, hS.2.2⟩, hh, hc2, ats, ats⟩
  · have hL0 : L ≠ [] := by
      intro h
      subst h
      simp at hLl
      subst hLl
      simp at hb
      omega
    have hko := machNew_ok hL0 (by omega) (fun x hx => (hok x hx).1)
    have hL1 : L.length < 2 ^ 40 := by omega
    have hL2 : ∀ x ∈ L, x.length < 2 ^ 40 := fun x hx => by have := (hok x hx).2; omega
    refine W.exit ?_
    show W _ _ _ _
    refine wk ?_
    have hmn := s12 (fl := true) hL1 hL2 hL0
    rw [show machNewD L = [rS L, rS (machNew L).cores, rS memNew, .nil] by rw [machNewD, if_pos (machOk_iff.2 hko)]] at hmn
    refine WO.ct hmn (LA.ev rfl rfl rfl hh LA.nil) btt ?_
    refine wk ?_
    obtain ⟨P, c2, hP, hc2, r2⟩ := s94 (cores := (L.length : Int)) (most := 12) hc1 (by omega) (by omega) (by omega)
    refine WO.curr rfl hh lends r2 ?_
    refine wk ?_
    have hne := machOk_ne (machOk_iff.2 hko)
    refine WO.ct (s39 (fl := true) (fl' := true) (m := machNew L) (L := P) hko.sm hne.1 hne.2.1 (by omega) (picks_late hP.1)) (LA.cons (show Lend _ (.agg _) _ from Lend.abtE abt erl_last) (LA.ev rfl rfl rfl hh LA.nil)) btt ?_
    rw [show List.length (mrunD (machNew L) P).1.d = 4 from rfl]
    have hm' := mrunD_ok (L := P) hko
    generalize mrunD (machNew L) P = r at *
    obtain ⟨m', ks⟩ := r
    refine wk ?_
    exact W.ret ⟨.inr rfl, _, _, c2, Ans.cell rfl hh rfl rfl abt Ans.nil, hh, m', hm', rfl, hc2⟩
end Go.Proofs.Ytgodaiiegcdpcaa.Abs.MC
end
section
set_option linter.unusedVariables false
set_option linter.unusedSimpArgs false
namespace Go.Proofs.Ytgodaiiegcdpcaa.Abs.MC
open Go.Proofs.Ytgodaiiegcdpcaa.Abs
set_option linter.unusedSimpArgs false
set_option linter.unusedVariables false
set_option maxRecDepth 10000
/-- A machine drawn, perhaps bent. -/
structure Mach.dr (m : Mach) : Prop where
  sm : m.sm
  mem : m.mem ≠ []
  cores : m.cores ≠ []
  codes : m.codes ≠ []
theorem KOk.dr {m : Mach} (h : KOk m) : m.dr := by
  obtain ⟨a, b, c⟩ := machOk_ne (machOk_iff.2 h)
  exact ⟨h.sm, a, b, c⟩
theorem set_ne {α : Type} {L : List α} {i : Nat} {x : α} (h : L ≠ []) : L.set i x ≠ [] := by simpa using h
set_option maxHeartbeats 4000000 in
theorem s60 {c0 : Cur} (hc0 : c0.ok) : ∃ (m : Mach) (c' : Cur), (m.dr ∧ m.cores.length ≤ 4) ∧ c'.ok ∧ Runs (gam code) (.fn 60 [.c (.ptr (0, 0, 0, 0) [] 0)] [c0.C] (.agg (owL m.d)) [c'.C]) := by
  suffices h : ∃ v c', (∃ m : Mach, (m.dr ∧ m.cores.length ≤ 4) ∧ v = .agg (owL m.d) ∧ Cur.ok c') ∧ Runs (gam code) (.fn 60 [.c (.ptr (0, 0, 0, 0) [] 0)] [c0.C] v [Cur.C c']) by
    obtain ⟨_, c', ⟨x, hx, rfl, h3⟩, h2⟩ := h
    exact ⟨x, c', hx, h3, h2⟩
  refine W.cur (fn := a60) rfl rfl ?_
  rw [start_im (by repeat (first | exact Pls.nil | refine Pls.c rfl ?_ | refine Pls.agg ?_))]
  simp only [a60]
  refine wk ?_
  obtain ⟨m, c1, hm, hc1, r1⟩ := s113 hc0
  refine WO.cura rfl hh LA.nil r1 brr ?_
  refine wk ?_
  obtain ⟨x2, c2, hx2, hc2, r2⟩ := s61 (c := c1) (n := 20) hc1 ats ats
  refine WO.curi rfl hh (LA.int rfl LA.nil) r2 ?_
  refine wk ?_
  have hd := hm.dr
  have h4 : m.cores.length ≤ 4 := by have := hm.n1; have := hm.n2; omega
  have hq : 0 < m.cores.length := by have := hm.n1; have := hm.n2; omega
  have hqc : 0 < m.codes.length := by have := hm.n1; omega
  obtain ⟨c, hcq⟩ : ∃ c, m.cores[0]? = some c := ⟨_, List.getElem?_eq_getElem hq⟩
  obtain ⟨S, hSq⟩ : ∃ S, m.codes[0]? = some S := ⟨_, List.getElem?_eq_getElem hqc⟩
  have hcs := hm.sm.core c (List.mem_of_getElem? hcq)
  have hco := hm.core 0 c S hcq hSq
  obtain ⟨cat, regs, view, st⟩ := c
  have sm0 : ∀ c' : Core, c'.regs.length < 2 ^ 40 ∧ c'.view.length < 2 ^ 40 → (⟨m.codes, m.cores.set 0 c', m.mem, m.trace⟩ : Mach).dr ∧ (⟨m.codes, m.cores.set 0 c', m.mem, m.trace⟩ : Mach).cores.length ≤ 4 := fun c' h =>
    ⟨⟨⟨hm.sm.codes, hm.sm.code, by simpa using hm.sm.cores, fun x hx => by (rcases List.mem_or_eq_of_mem_set hx with h1 | h1 <;> first | exact hm.sm.core x h1 | exact h1 ▸ h), hm.sm.mem, hm.sm.trace⟩, hd.mem, set_ne hd.cores, hd.codes⟩, by simpa using h4⟩
  by_cases e0 : x2 = 0
  · subst e0
    rw [show co m.cores = seg m.cores 0 (owL (Enc.d (⟨cat, regs, view, st⟩ : Core))) from seg_co hcq]
    refine W.detS4 (e := (2, 1, 0, 1)) 1 (q := 0) hh rfl hq rfl rfl rfl rfl ?_
    refine W.detS4 (e := (2, 1, 0, 1)) 2 (q := 0) hh rfl hq rfl rfl rfl rfl ?_
    refine wk ?_
    refine WO.bsI [-1, 50] ats rfl rfl ?_
    refine wk ?_
    obtain ⟨x3, c3, hx3, hc3, r3⟩ := s62 (c := c2) (fl := true) (L := [-1, 50]) hc2 (by simp) (by simp)
    refine WO.curi rfl hh (LA.ev (L := [-1, 50]) rfl rfl rfl hh LA.nil) r3 ?_
    refine wk ?_
    refine wk ?_
    exact W.ret ⟨.inr rfl, _, _, c3, Ans.cello rfl hh rfl rfl (owns_con (own_row hh rfl rfl) (owns_con (own_seg (x' := ⟨x3, regs, view, st⟩) hh rfl rfl hq (by simp) (core_owns hh rfl hh rfl (by simp))) (owns_con (own_row hh rfl rfl) (own_row hh rfl rfl).one (by simp)) (by simp)) (by simp)) Ans.nil, hh, _, sm0 ⟨x3, regs, view, st⟩ hcs, rfl, hc3⟩
  by_cases e1 : x2 = 1
  · subst e1
    rw [show co m.cores = seg m.cores 0 (owL (Enc.d (⟨cat, regs, view, st⟩ : Core))) from seg_co hcq]
    refine W.detS4 (e := (2, 1, 0, 1)) 1 (q := 0) hh rfl hq rfl rfl rfl rfl ?_
    refine W.detS4 (e := (2, 1, 0, 1)) 2 (q := 0) hh rfl hq rfl rfl rfl rfl ?_
    have hvl : 1 < view.length := by have := hco.view.1; have := hm.mem.len; dsimp only at *; omega
    refine wk ?_
    refine wk ?_
    refine WO.bsI [-1, 99] ats rfl rfl ?_
    refine wk ?_
    obtain ⟨x3, c3, hx3, hc3, r3⟩ := s62 (c := c2) (fl := true) (L := [-1, 99]) hc2 (by simp) (by simp)
    refine WO.curi rfl hh (LA.ev (L := [-1, 99]) rfl rfl rfl hh LA.nil) r3 ?_
    refine wk ?_
    refine wk ?_
    exact W.ret ⟨.inr rfl, _, _, c3, Ans.cello rfl hh rfl rfl (owns_con (own_row hh rfl rfl) (owns_con (own_seg (x' := ⟨cat, regs, view.set 1 x3, st⟩) hh rfl rfl hq (by simp) (core_owns hh rfl hh (by simp) (by simp))) (owns_con (own_row hh rfl rfl) (own_row hh rfl rfl).one (by simp)) (by simp)) (by simp)) Ans.nil, hh, _, sm0 ⟨cat, regs, view.set 1 x3, st⟩ ⟨hcs.1, by simpa using hcs.2⟩, rfl, hc3⟩
  by_cases e2 : x2 = 2
  · subst e2
    have hSl : 1 ≤ S.length := by have := hco.at1; have := hco.at2; omega
    have hSs := hm.sm.code S (List.mem_of_getElem? hSq)
    rw [show co m.codes = seg m.codes 0 (owL (Enc.d S)) from seg_co hSq]
    refine W.detS1 (e := (2, 1, 0, 0)) (q := 0) hh rfl hqc rfl rfl rfl ?_
    refine wk ?_
    refine wk ?_
    refine WO.slcl 1 rfl rfl rfl hSl ?_
    refine wk ?_
    exact W.ret ⟨.inr rfl, _, _, c2, Ans.cello rfl hh rfl rfl (owns_con (own_seg (x' := S.drop 1) hh rfl rfl hqc (by simp) (own_part hh rfl rfl hSl (by simp)).one) (owns_con (own_row hh rfl rfl) (owns_con (own_row hh rfl rfl) (own_row hh rfl rfl).one (by simp)) (by simp)) (by simp)) Ans.nil, hh,
      (⟨m.codes.set 0 (S.drop 1), m.cores, m.mem, m.trace⟩ : Mach), ⟨⟨⟨by simpa using hm.sm.codes, fun x hx => by (rcases List.mem_or_eq_of_mem_set hx with h1 | h1 <;> first | exact hm.sm.code x h1 | (rw [h1, List.length_drop]; omega)), hm.sm.cores, hm.sm.core, hm.sm.mem, hm.sm.trace⟩, hd.mem, hd.cores, set_ne hd.codes⟩, h4⟩, rfl, hc2⟩
  by_cases e3 : x2 = 3
  · subst e3
    have ht := hm.sm.trace
    refine wk ?_
    obtain ⟨x3, c3, hx3, hc3, r3⟩ := s61 (c := c2) (n := 5) hc2 ats ats
    refine WO.curi rfl hh (LA.int rfl LA.nil) r3 ?_
    refine wk ?_
    refine WO.ap1r (⟨x3, 0⟩ : Note) rfl hh rfl rfl (by omega) rfl hh abt ?_
    refine wk ?_
    exact W.ret ⟨.inr rfl, _, _, c3, Ans.cell (ds := (⟨m.codes, m.cores, m.mem, m.trace ++ [⟨x3, 0⟩]⟩ : Mach).d) rfl hh rfl rfl (AbT.row hh rfl rfl (AbT.row hh rfl rfl (AbT.row hh rfl rfl (AbT.row hh rfl (by simp) AbT.nil)))) Ans.nil, hh, (⟨m.codes, m.cores, m.mem, m.trace ++ [⟨x3, 0⟩]⟩ : Mach), ⟨⟨⟨hm.sm.codes, hm.sm.code, hm.sm.cores, hm.sm.core, hm.sm.mem, by have := hm.trace; simp; omega⟩, hd.mem, hd.cores, hd.codes⟩, h4⟩, rfl, hc3⟩
  by_cases e4 : x2 = 4
  · subst e4
    rw [show co m.cores = seg m.cores 0 (owL (Enc.d (⟨cat, regs, view, st⟩ : Core))) from seg_co hcq]
    refine W.detS4 (e := (2, 1, 0, 1)) 1 (q := 0) hh rfl hq rfl rfl rfl rfl ?_
    refine W.detS4 (e := (2, 1, 0, 1)) 2 (q := 0) hh rfl hq rfl rfl rfl rfl ?_
    have hrl : regs.length = 8 := hco.regs
    refine wk ?_
    refine wk ?_
    refine WO.bsI [-9223372036854775807, 24, 9223372036854775807] ats rfl rfl ?_
    refine wk ?_
    obtain ⟨x3, c3, hx3, hc3, r3⟩ := s61 (c := c2) (n := 8) hc2 ats ats
    obtain ⟨y, rfl⟩ := Int.eq_ofNat_of_zero_le hx3.1
    have hyl : y < regs.length := by omega
    refine WO.curi rfl hh (LA.int rfl LA.nil) r3 ?_
    refine wk ?_
    obtain ⟨x4, c4, hx4, hc4, r4⟩ := s62 (c := c3) (fl := true) (L := [-9223372036854775807, 24, 9223372036854775807]) hc3 (by simp) (by simp)
    refine WO.curi rfl hh (LA.ev (L := [-9223372036854775807, 24, 9223372036854775807]) rfl rfl rfl hh LA.nil) r4 ?_
    refine wk ?_
    exact W.ret ⟨.inr rfl, _, _, c4, Ans.cello rfl hh rfl rfl (owns_con (own_row hh rfl rfl) (owns_con (own_seg (x' := ⟨cat, regs.set y x4, view, st⟩) hh rfl rfl hq (by simp) (core_owns hh (by simp) hh rfl (by simp))) (owns_con (own_row hh rfl rfl) (own_row hh rfl rfl).one (by simp)) (by simp)) (by simp)) Ans.nil, hh, _, sm0 ⟨cat, regs.set y x4, view, st⟩ ⟨by simpa using hcs.1, hcs.2⟩, rfl, hc4⟩
  rw [show (x2 == 0) = false by simpa using e0]
  refine wk ?_
  rw [show (x2 == 1) = false by simpa using e1]
  refine wk ?_
  rw [show (x2 == 2) = false by simpa using e2]
  refine wk ?_
  rw [show (x2 == 3) = false by simpa using e3]
  refine wk ?_
  rw [show (x2 == 4) = false by simpa using e4]
  refine wk ?_
  exact W.ret ⟨.inr rfl, _, _, c2, Ans.cell rfl hh rfl rfl abt Ans.nil, hh, m, ⟨hd, h4⟩, rfl, hc2⟩
end Go.Proofs.Ytgodaiiegcdpcaa.Abs.MC
end
section
set_option linter.unusedVariables false
set_option linter.unusedSimpArgs false
namespace Go.Proofs.Ytgodaiiegcdpcaa.Abs.MC
open Go.Proofs.Ytgodaiiegcdpcaa.Abs
set_option linter.unusedSimpArgs false
set_option linter.unusedVariables false
set_option maxRecDepth 10000
theorem s19 {bs : List B8} (hb : bs.length < 2 ^ 40) : ∃ (m : Mach) (x : Pick), (m.dr ∧ m.cores.length ≤ 4) ∧ (-(2 ^ 63) ≤ x.late ∧ x.late < 2 ^ 63) ∧ Runs (gam code) (.fn 19 [.c (.imm false 1 bs.length (cl false bs))] [] (.tup [.agg (owL m.d), .agg (owL (Enc.d x))]) []) := by
  suffices h : ∃ v, (∃ (m : Mach) (x : Pick), (m.dr ∧ m.cores.length ≤ 4) ∧ (-(2 ^ 63) ≤ x.late ∧ x.late < 2 ^ 63) ∧ v = .tup [.agg (owL m.d), .agg (owL (Enc.d x))]) ∧ Runs (gam code) (.fn 19 [.c (.imm false 1 bs.length (cl false bs))] [] v []) by
    obtain ⟨_, ⟨m, x, hm, hx, rfl⟩, h2⟩ := h
    exact ⟨m, x, hm, hx, h2⟩
  refine W.ans (fn := a19) rfl rfl ?_
  rw [start_im (by repeat (first | exact Pls.nil | refine Pls.c rfl ?_ | refine Pls.agg ?_))]
  simp only [a19]
  refine wk ?_
  obtain ⟨c0, hc0, r0⟩ := s59 hb
  refine WO.cbx r0 (LA.imm rfl LA.nil) ?_
  refine wk ?_
  obtain ⟨m, c1, hm, hc1, r1⟩ := s60 hc0
  refine WO.cura rfl hh LA.nil r1 brr ?_
  refine wk ?_
  refine WO.bsI [0, 1, 2, 3, -1, 9223372036854775807] ats rfl rfl ?_
  refine wk ?_
  obtain ⟨x2, c2, hx2, hc2, r2⟩ := s61 (c := c1) (n := 4) hc1 ats ats
  refine WO.curi rfl hh (LA.int rfl LA.nil) r2 ?_
  refine wk ?_
  obtain ⟨x3, c3, hx3, hc3, r3⟩ := s61 (c := c2) (n := 20) hc2 ats ats
  refine WO.curi rfl hh (LA.int rfl LA.nil) r3 ?_
  refine wk ?_
  obtain ⟨x4, c4, hx4, hc4, r4⟩ := s62 (c := c3) (fl := true) (L := [0, 1, 2, 3, -1, 9223372036854775807]) hc3 (by simp) (by simp)
  refine WO.curi rfl hh (LA.ev (L := [0, 1, 2, 3, -1, 9223372036854775807]) rfl rfl rfl hh LA.nil) r4 ?_
  refine wk ?_
  refine W.ret (endQ.many (.inr rfl) ansr ⟨m, ⟨_, x4⟩, hm, ?_, rfl⟩)
  dsimp only
  simp only [List.mem_cons, List.not_mem_nil, or_false] at hx4
  omega
end Go.Proofs.Ytgodaiiegcdpcaa.Abs.MC
end
