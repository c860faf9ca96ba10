/- The program's functions, told in that language, and what each of them answers; each theorem bears its own conditions. -/
import Derived.Test.YtgodaiiegcdpcaaB1
section
set_option linter.unusedVariables false
set_option linter.unusedSimpArgs false
namespace Go.Proofs.Ytgodaiiegcdpcaa.Abs.MC
open Go.Proofs.Ytgodaiiegcdpcaa.Abs
set_option linter.unusedSimpArgs false
set_option linter.unusedVariables false
set_option maxRecDepth 10000
theorem s24 {fl : Bool} {m : Mach} (hm : m.sm) : Runs (gam code) (.fn 24 [.agg (imL fl m.d)] [] (.c (.bool (machOk m))) []) := by
  obtain ⟨k1, k2, k3, k4, k5, k6⟩ := hm
  refine W.is (fn := a24) rfl rfl ?_
  rw [start_im (by repeat (first | exact Pls.nil | refine Pls.c rfl ?_ | refine Pls.agg ?_))]
  simp only [a24]
  repeat (first | refine wk1 ?_ | (apply WO.cb s63; (· exact lends)) | (apply WO.cb (s70 ?_); (· exact lends); rotate_left 1; (· assumption)) | (apply WO.cb (s71 ?_); (· exact lends); rotate_left 1; (· assumption)) | (apply WO.cb (s72 ?_ ?_); (· exact lends); rotate_left 1; (· assumption); (· assumption)) | refine WO.gs rfl (fun hb => by (repeat (first | refine wk1 ?_ | (apply WO.cb s63; (· exact lends)) | (apply WO.cb (s70 ?_); (· exact lends); rotate_left 1; (· assumption)) | (apply WO.cb (s71 ?_); (· exact lends); rotate_left 1; (· assumption)) | (apply WO.cb (s72 ?_ ?_); (· exact lends); rotate_left 1; (· assumption); (· assumption)))); exact W.ret (endQ.sc (.inr rfl) rfl rfl (by (rw [show machOk m = false from by (first | (simp only [machOk, inn, not_t hb, Bool.false_and, Bool.and_false]; done) | (rw [ne_bool] at hb; simp [machOk]; intros; simp_all; done))])))) (fun hb => ?_))
  refine W.if rfl (fun hb => ?_) (fun hb => ?_)
  · repeat (first | refine wk1 ?_ | (apply WO.cb s63; (· exact lends)) | (apply WO.cb (s70 ?_); (· exact lends); rotate_left 1; (· assumption)) | (apply WO.cb (s71 ?_); (· exact lends); rotate_left 1; (· assumption)) | (apply WO.cb (s72 ?_ ?_); (· exact lends); rotate_left 1; (· assumption); (· assumption)))
    exact W.ret (endQ.sc (.inr rfl) rfl rfl (vb (by have : notesOk m.trace m.cores.length = false := (by simp only [notesOk]; rw [show decide (m.trace.length ≤ 4000) = false from by simp at hb ⊢; omega, Bool.and_false]); simp only [machOk, this, Bool.false_and, Bool.and_false])))
  rename_i q1 q2 q3
  have c1 := not_f q1
  rw [ne_bool] at q2
  have c2 := not_f q2
  have c3 := not_f q3
  have c4 : m.trace.length ≤ 4000 := by simp at hb; omega
  clear q1 q2 q3 hb
  have hl : m.cores.length = m.codes.length := by simpa using c2
  repeat (first | refine wk1 ?_ | (apply WO.cb s63; (· exact lends)) | (apply WO.cb (s70 ?_); (· exact lends); rotate_left 1; (· assumption)) | (apply WO.cb (s71 ?_); (· exact lends); rotate_left 1; (· assumption)) | (apply WO.cb (s72 ?_ ?_); (· exact lends); rotate_left 1; (· assumption); (· assumption)))
  refine W.for (fun i T H n => Ag [(1, .c (.ptr (1, 0, 0, 0) [] 0)), (3, .c (.int .i64 m.codes.length)), (4, .c (.int .i64 ((i : Nat) : Int)))] T ∧ H (1, 0, 0, 0) = some (imL fl m.d) ∧ 1 < n ∧ ((m.cores.zip m.codes).take i).all (fun p => coreOk m.mem p.1 p.2) = true) m.cores.length ⟨⟨rfl, rfl, rfl, trivial⟩, rfl, ats, by simp⟩ ?_
  rintro i T H n hi ⟨hT, hH, hn, he⟩
  obtain ⟨T, rfl⟩ := hT.fix
  simp only [ups]
  clear hT
  repeat (first | refine wk1 ?_ | (apply WO.cb s63; (· exact lends)) | (apply WO.cb (s70 ?_); (· exact lends); rotate_left 1; (· assumption)) | (apply WO.cb (s71 ?_); (· exact lends); rotate_left 1; (· assumption)) | (apply WO.cb (s72 ?_ ?_); (· exact lends); rotate_left 1; (· assumption); (· assumption)))
  refine W.if rfl (fun hb => ?_) (fun hb => ?_)
  · have hlt' : i < m.codes.length := by simpa using hb
    have hlt : i < m.cores.length := by omega
    have hx : m.cores[i]? = some m.cores[i] := List.getElem?_eq_getElem hlt
    have hy : m.codes[i]? = some m.codes[i] := List.getElem?_eq_getElem hlt'
    have r1 := k2 m.codes[i] (List.getElem_mem _)
    have r2 := k4 m.cores[i] (List.getElem_mem _)
    have r3 := r2.1
    have r4 := r2.2
    repeat (first | refine wk1 ?_ | (apply WO.cb s63; (· exact lends)) | (apply WO.cb (s70 ?_); (· exact lends); rotate_left 1; (· assumption)) | (apply WO.cb (s71 ?_); (· exact lends); rotate_left 1; (· assumption)) | (apply WO.cb (s72 ?_ ?_); (· exact lends); rotate_left 1; (· assumption); (· assumption)) | refine WO.gs rfl (fun hb => by (repeat (first | refine wk1 ?_ | (apply WO.cb s63; (· exact lends)) | (apply WO.cb (s70 ?_); (· exact lends); rotate_left 1; (· assumption)) | (apply WO.cb (s71 ?_); (· exact lends); rotate_left 1; (· assumption)) | (apply WO.cb (s72 ?_ ?_); (· exact lends); rotate_left 1; (· assumption); (· assumption)))); exact W.ret (endQ.sc (.inr rfl) rfl rfl (by (rw [show machOk m = false from by (simp only [machOk]; rw [all_no (zip_get hx hy), Bool.and_false]; first | (simp only [coreOk, inn, not_t hb, Bool.false_and, Bool.and_false]; done) | (rw [len1 r1] at hb; simp only [coreOk, inn, not_t hb, Bool.false_and, Bool.and_false]; done) | (rw [ne_bool8] at hb; simp [coreOk]; intros; simp_all; done))])))) (fun hb => ?_))
    refine W.if rfl (fun hb => ?_) (fun hb => ?_)
    · repeat (first | refine wk1 ?_ | (apply WO.cb s63; (· exact lends)) | (apply WO.cb (s70 ?_); (· exact lends); rotate_left 1; (· assumption)) | (apply WO.cb (s71 ?_); (· exact lends); rotate_left 1; (· assumption)) | (apply WO.cb (s72 ?_ ?_); (· exact lends); rotate_left 1; (· assumption); (· assumption)))
      exact W.ret (endQ.sc (.inr rfl) rfl rfl (vb (by simp only [machOk]; rw [all_no (zip_get hx hy), Bool.and_false]; simp only [coreOk, inn, not_t hb, Bool.false_and, Bool.and_false])))
    rename_i q1 q2 q3 q4
    have d1 := not_f q1
    rw [ne_bool8] at q2
    have d2 := not_f q2
    rw [len1 r1] at q3
    have d3 := not_f q3
    have d4 := not_f q4
    have d5 := not_f hb
    repeat (first | refine wk1 ?_ | (apply WO.cb s63; (· exact lends)) | (apply WO.cb (s70 ?_); (· exact lends); rotate_left 1; (· assumption)) | (apply WO.cb (s71 ?_); (· exact lends); rotate_left 1; (· assumption)) | (apply WO.cb (s72 ?_ ?_); (· exact lends); rotate_left 1; (· assumption); (· assumption)))
    exact ⟨hlt, ⟨rfl, rfl, wrap_c (by omega), trivial⟩, hh, ats, all_step he (zip_get hx hy) (by simp only [coreOk, inn, d1, d2, d3, d4, d5, Bool.and_self])⟩
  · have hge : i = m.cores.length := by simp at hb; omega
    subst hge
    rw [List.take_of_length_le (by rw [List.length_zip]; omega)] at he
    refine W.exit ?_
    show W _ _ _ _
    repeat (first | refine wk1 ?_ | (apply WO.cb s63; (· exact lends)) | (apply WO.cb (s70 ?_); (· exact lends); rotate_left 1; (· assumption)) | (apply WO.cb (s71 ?_); (· exact lends); rotate_left 1; (· assumption)) | (apply WO.cb (s72 ?_ ?_); (· exact lends); rotate_left 1; (· assumption); (· assumption)))
    refine W.for (fun i T H n => Ag [(1, .c (.ptr (1, 0, 0, 0) [] 0)), (3, .c (.int .i64 m.codes.length)), (6, .c (.int .i64 ((i : Nat) : Int)))] T ∧ H (1, 0, 0, 0) = some (imL fl m.d) ∧ 1 < n ∧ (m.trace.take i).all (fun x => inn 0 ((m.cores.length : Int) - 1) x.who) = true) m.trace.length ⟨⟨rfl, rfl, rfl, trivial⟩, hh, ats, by simp⟩ ?_
    rintro i T H n hi ⟨hT, hH, hn, het⟩
    obtain ⟨T, rfl⟩ := hT.fix
    simp only [ups]
    clear hT
    repeat (first | refine wk1 ?_ | (apply WO.cb s63; (· exact lends)) | (apply WO.cb (s70 ?_); (· exact lends); rotate_left 1; (· assumption)) | (apply WO.cb (s71 ?_); (· exact lends); rotate_left 1; (· assumption)) | (apply WO.cb (s72 ?_ ?_); (· exact lends); rotate_left 1; (· assumption); (· assumption)))
    refine W.if rfl (fun hb => ?_) (fun hb => ?_)
    · have hlt : i < m.trace.length := by simpa using hb
      have hx : m.trace[i]? = some m.trace[i] := List.getElem?_eq_getElem hlt
      repeat (first | refine wk1 ?_ | (apply WO.cb s63; (· exact lends)) | (apply WO.cb (s70 ?_); (· exact lends); rotate_left 1; (· assumption)) | (apply WO.cb (s71 ?_); (· exact lends); rotate_left 1; (· assumption)) | (apply WO.cb (s72 ?_ ?_); (· exact lends); rotate_left 1; (· assumption); (· assumption)))
      rw [len1 k1, ← hl]
      refine W.if rfl (fun hb => ?_) (fun hb => ?_)
      · repeat (first | refine wk1 ?_ | (apply WO.cb s63; (· exact lends)) | (apply WO.cb (s70 ?_); (· exact lends); rotate_left 1; (· assumption)) | (apply WO.cb (s71 ?_); (· exact lends); rotate_left 1; (· assumption)) | (apply WO.cb (s72 ?_ ?_); (· exact lends); rotate_left 1; (· assumption); (· assumption)))
        exact W.ret (endQ.sc (.inr rfl) rfl rfl (vb (by simp only [machOk, notesOk]; rw [all_no hx (not_t hb)]; simp only [Bool.false_and, Bool.and_false])))
      · repeat (first | refine wk1 ?_ | (apply WO.cb s63; (· exact lends)) | (apply WO.cb (s70 ?_); (· exact lends); rotate_left 1; (· assumption)) | (apply WO.cb (s71 ?_); (· exact lends); rotate_left 1; (· assumption)) | (apply WO.cb (s72 ?_ ?_); (· exact lends); rotate_left 1; (· assumption); (· assumption)))
        exact ⟨hlt, ⟨rfl, by rw [hl]; rfl, wrap_c (by omega), trivial⟩, hh, ats, all_step het hx (not_f hb)⟩
    · have hge : i = m.trace.length := by simp at hb; omega
      subst hge
      rw [List.take_length] at het
      refine W.exit ?_
      show W _ _ _ _
      repeat (first | refine wk1 ?_ | (apply WO.cb s63; (· exact lends)) | (apply WO.cb (s70 ?_); (· exact lends); rotate_left 1; (· assumption)) | (apply WO.cb (s71 ?_); (· exact lends); rotate_left 1; (· assumption)) | (apply WO.cb (s72 ?_ ?_); (· exact lends); rotate_left 1; (· assumption); (· assumption)))
      have hnt : notesOk m.trace m.cores.length = true := by simp only [notesOk, het, Bool.true_and]; simpa using c4
      exact W.ret (endQ.sc (.inr rfl) rfl rfl (vb (by simp only [machOk, inn, c1, c2, c3, hnt, he, Bool.and_self])))
end Go.Proofs.Ytgodaiiegcdpcaa.Abs.MC
end
section
set_option linter.unusedVariables false
set_option linter.unusedSimpArgs false
namespace Go.Proofs.Ytgodaiiegcdpcaa.Abs.MC
open Go.Proofs.Ytgodaiiegcdpcaa.Abs
set_option linter.unusedSimpArgs false
set_option linter.unusedVariables false
set_option maxRecDepth 10000
/-- What the laws compare of two machines. -/
def coreEq (a b : Core) : Bool := decide (a.at' = b.at') && decide (a.state = b.state) && decide (a.regs = b.regs) && decide (a.view = b.view)
def cellEq (a b : List Write) : Bool := decide (a.length = b.length) && (match a.getLast?, b.getLast? with | some x, some y => decide (x.v = y.v) | _, _ => true)
def machEq (a b : Mach) : Bool := decide (a.cores.length = b.cores.length) && decide (a.trace = b.trace) && decide (a.mem.length = b.mem.length) && ((a.cores.zip b.cores).all fun p => coreEq p.1 p.2) && (a.mem.zip b.mem).all fun p => cellEq p.1 p.2
theorem neI {a b : Int} : (a != b) = !decide (a = b) := by
  by_cases h : a = b
  · subst h; simp
  · simp [h, bne, show (a == b) = false by simpa using h]
theorem s22 {fl fl' : Bool} {a b : Mach} (ha : a.sm) (hb' : b.sm) : Runs (gam code) (.fn 22 [.agg (imL fl a.d), .agg (imL fl' b.d)] [] (.c (.bool (machEq a b))) []) := by
  obtain ⟨k1, k2, k3, k4, k5, k6⟩ := ha
  have k7 := k5.1
  have p7 := hb'.mem.1
  refine W.is (fn := a22) rfl rfl ?_
  rw [start_im (by repeat (first | exact Pls.nil | refine Pls.c rfl ?_ | refine Pls.agg ?_))]
  simp only [a22]
  repeat (first | refine wk1 ?_ | (apply WO.cb (s66 ?_); (· exact lends); rotate_left 1; (· assumption)) | (apply WO.cb (s25 ?_); (· exact lends); rotate_left 1; (· assumption)) | refine WO.gs rfl (fun hb => by (repeat (first | refine wk1 ?_ | (apply WO.cb (s66 ?_); (· exact lends); rotate_left 1; (· assumption)) | (apply WO.cb (s25 ?_); (· exact lends); rotate_left 1; (· assumption)))); exact W.ret (endQ.sc (.inr rfl) rfl rfl (by (rw [show machEq a b = false from by (first | (rw [ne_bool] at hb; simp only [machEq, not_t hb, Bool.false_and, Bool.and_false]; done) | (simp only [machEq, not_t hb, Bool.false_and, Bool.and_false]; done))])))) (fun hb => ?_))
  refine W.if rfl (fun hb => ?_) (fun hb => ?_)
  · repeat (first | refine wk1 ?_ | (apply WO.cb (s66 ?_); (· exact lends); rotate_left 1; (· assumption)) | (apply WO.cb (s25 ?_); (· exact lends); rotate_left 1; (· assumption)))
    rw [ne_bool] at hb
    exact W.ret (endQ.sc (.inr rfl) rfl rfl (vb (by simp only [machEq, not_t hb, Bool.false_and, Bool.and_false])))
  rename_i q1 q2
  rw [ne_bool] at q1 hb
  have c1 := not_f q1
  have c2 := not_f q2
  have c3 := not_f hb
  clear q1 q2 hb
  have hl : a.cores.length = b.cores.length := by simpa using c1
  have hlm : a.mem.length = b.mem.length := by simpa using c3
  repeat (first | refine wk1 ?_ | (apply WO.cb (s66 ?_); (· exact lends); rotate_left 1; (· assumption)) | (apply WO.cb (s25 ?_); (· exact lends); rotate_left 1; (· assumption)))
  refine W.for (fun i T H n => Ag [(2, .c (.ptr (1, 0, 0, 0) [] 0)), (3, .c (.ptr (1, 1, 0, 0) [] 0)), (5, .c (.int .i64 ((i : Nat) : Int)))] T ∧ H (1, 0, 0, 0) = some (imL fl a.d) ∧ H (1, 1, 0, 0) = some (imL fl' b.d) ∧ 1 < n ∧ ((a.cores.zip b.cores).take i).all (fun p => coreEq p.1 p.2) = true) a.cores.length ⟨⟨rfl, rfl, rfl, trivial⟩, rfl, rfl, ats, by simp⟩ ?_
  rintro i T H n hi ⟨hT, hH, hH', hn, he⟩
  obtain ⟨T, rfl⟩ := hT.fix
  simp only [ups]
  clear hT
  repeat (first | refine wk1 ?_ | (apply WO.cb (s66 ?_); (· exact lends); rotate_left 1; (· assumption)) | (apply WO.cb (s25 ?_); (· exact lends); rotate_left 1; (· assumption)))
  refine W.if rfl (fun hb => ?_) (fun hb => ?_)
  · have hlt : i < a.cores.length := by simpa using hb
    have hlt' : i < b.cores.length := by omega
    have hx : a.cores[i]? = some a.cores[i] := List.getElem?_eq_getElem hlt
    have hy : b.cores[i]? = some b.cores[i] := List.getElem?_eq_getElem hlt'
    have r2 := k4 a.cores[i] (List.getElem_mem _)
    have r3 := r2.1
    have r4 := r2.2
    repeat (first | refine wk1 ?_ | (apply WO.cb (s66 ?_); (· exact lends); rotate_left 1; (· assumption)) | (apply WO.cb (s25 ?_); (· exact lends); rotate_left 1; (· assumption)) | refine WO.gs rfl (fun hb => by (repeat (first | refine wk1 ?_ | (apply WO.cb (s66 ?_); (· exact lends); rotate_left 1; (· assumption)) | (apply WO.cb (s25 ?_); (· exact lends); rotate_left 1; (· assumption)))); exact W.ret (endQ.sc (.inr rfl) rfl rfl (by (rw [show machEq a b = false from by (simp only [machEq]; rw [all_no (zip_get hx hy), Bool.and_false, Bool.false_and]; first | (rw [neI] at hb; simp only [coreEq, not_t hb, Bool.false_and, Bool.and_false]; done) | (simp only [coreEq, not_t hb, Bool.false_and, Bool.and_false]; done))])))) (fun hb => ?_))
    refine W.if rfl (fun hb => ?_) (fun hb => ?_)
    · repeat (first | refine wk1 ?_ | (apply WO.cb (s66 ?_); (· exact lends); rotate_left 1; (· assumption)) | (apply WO.cb (s25 ?_); (· exact lends); rotate_left 1; (· assumption)))
      exact W.ret (endQ.sc (.inr rfl) rfl rfl (vb (by simp only [machEq]; rw [all_no (zip_get hx hy), Bool.and_false, Bool.false_and]; simp only [coreEq, not_t hb, Bool.false_and, Bool.and_false])))
    rename_i q1 q2 q3
    rw [neI] at q1 q2
    have d1 := not_f q1
    have d2 := not_f q2
    have d3 := not_f q3
    have d4 := not_f hb
    repeat (first | refine wk1 ?_ | (apply WO.cb (s66 ?_); (· exact lends); rotate_left 1; (· assumption)) | (apply WO.cb (s25 ?_); (· exact lends); rotate_left 1; (· assumption)))
    exact ⟨hlt, ⟨rfl, rfl, wrap_c (by omega), trivial⟩, hh, hh, ats, all_step he (zip_get hx hy) (by simp only [coreEq, d1, d2, d3, d4, Bool.and_self])⟩
  · have hge : i = a.cores.length := by simp at hb; omega
    subst hge
    rw [List.take_of_length_le (by rw [List.length_zip]; omega)] at he
    refine W.exit ?_
    show W _ _ _ _
    repeat (first | refine wk1 ?_ | (apply WO.cb (s66 ?_); (· exact lends); rotate_left 1; (· assumption)) | (apply WO.cb (s25 ?_); (· exact lends); rotate_left 1; (· assumption)))
    refine W.for (fun i T H n => Ag [(2, .c (.ptr (1, 0, 0, 0) [] 0)), (3, .c (.ptr (1, 1, 0, 0) [] 0)), (8, .c (.int .i64 ((i : Nat) : Int)))] T ∧ H (1, 0, 0, 0) = some (imL fl a.d) ∧ H (1, 1, 0, 0) = some (imL fl' b.d) ∧ 1 < n ∧ ((a.mem.zip b.mem).take i).all (fun p => cellEq p.1 p.2) = true) a.mem.length ⟨⟨rfl, rfl, rfl, trivial⟩, hh, hh, ats, by simp⟩ ?_
    rintro i T H n hi ⟨hT, hH, hH', hn, hem⟩
    obtain ⟨T, rfl⟩ := hT.fix
    simp only [ups]
    clear hT
    repeat (first | refine wk1 ?_ | (apply WO.cb (s66 ?_); (· exact lends); rotate_left 1; (· assumption)) | (apply WO.cb (s25 ?_); (· exact lends); rotate_left 1; (· assumption)))
    refine W.if rfl (fun hb => ?_) (fun hb => ?_)
    · have hlt : i < a.mem.length := by simpa using hb
      have hlt' : i < b.mem.length := by omega
      have hx : a.mem[i]? = some a.mem[i] := List.getElem?_eq_getElem hlt
      have hy : b.mem[i]? = some b.mem[i] := List.getElem?_eq_getElem hlt'
      have r1 := (k5.2 a.mem[i] (List.getElem_mem _)).1
      have s1 := (hb'.mem.2 b.mem[i] (List.getElem_mem _)).1
      repeat (first | refine wk1 ?_ | (apply WO.cb (s66 ?_); (· exact lends); rotate_left 1; (· assumption)) | (apply WO.cb (s25 ?_); (· exact lends); rotate_left 1; (· assumption)))
      refine WO.gs rfl (fun hb => ?_) (fun hb => ?_)
      · rw [ne_bool] at hb
        repeat (first | refine wk1 ?_ | (apply WO.cb (s66 ?_); (· exact lends); rotate_left 1; (· assumption)) | (apply WO.cb (s25 ?_); (· exact lends); rotate_left 1; (· assumption)))
        exact W.ret (endQ.sc (.inr rfl) rfl rfl (vb (by simp only [machEq]; rw [all_no (zip_get hx hy), Bool.and_false]; simp only [cellEq, not_t hb, Bool.false_and, Bool.and_false])))
      rw [ne_bool] at hb
      have d1 := not_f hb
      have hl2 : a.mem[i].length = b.mem[i].length := by simpa using d1
      repeat (first | refine wk1 ?_ | (apply WO.cb (s66 ?_); (· exact lends); rotate_left 1; (· assumption)) | (apply WO.cb (s25 ?_); (· exact lends); rotate_left 1; (· assumption)))
      refine WO.gs rfl (fun hb => ?_) (fun hb => ?_)
      · have hz : a.mem[i].length = 0 := by have h := of_decide_eq_false (p := (a.mem[i].length : Int) > 0) hb; omega
        have hz' : b.mem[i].length = 0 := by omega
        repeat (first | refine wk1 ?_ | (apply WO.cb (s66 ?_); (· exact lends); rotate_left 1; (· assumption)) | (apply WO.cb (s25 ?_); (· exact lends); rotate_left 1; (· assumption)))
        exact ⟨hlt, ⟨rfl, rfl, wrap_c (by omega), trivial⟩, hh, hh, ats, all_step hem (zip_get hx hy) (by simp only [cellEq, d1, Bool.true_and]; rw [List.length_eq_zero_iff.1 hz]; rfl)⟩
      have h0 : 0 < a.mem[i].length := by have h := of_decide_eq_true (p := (a.mem[i].length : Int) > 0) hb; omega
      have h0' : 0 < b.mem[i].length := by omega
      have hu : a.mem[i][a.mem[i].length - 1]? = some a.mem[i][a.mem[i].length - 1] := List.getElem?_eq_getElem (by omega)
      have hv : b.mem[i][b.mem[i].length - 1]? = some b.mem[i][b.mem[i].length - 1] := List.getElem?_eq_getElem (by omega)
      have hlu := last_get h0
      have hlv := last_get h0'
      rw [hu] at hlu
      rw [hv] at hlv
      repeat (first | refine wk1 ?_ | (apply WO.cb (s66 ?_); (· exact lends); rotate_left 1; (· assumption)) | (apply WO.cb (s25 ?_); (· exact lends); rotate_left 1; (· assumption)))
      rw [len1 r1, ofNat_sub h0]
      repeat (first | refine wk1 ?_ | (apply WO.cb (s66 ?_); (· exact lends); rotate_left 1; (· assumption)) | (apply WO.cb (s25 ?_); (· exact lends); rotate_left 1; (· assumption)))
      rw [len1 s1, ofNat_sub h0']
      repeat (first | refine wk1 ?_ | (apply WO.cb (s66 ?_); (· exact lends); rotate_left 1; (· assumption)) | (apply WO.cb (s25 ?_); (· exact lends); rotate_left 1; (· assumption)))
      refine W.if rfl (fun hb => ?_) (fun hb => ?_)
      · rw [neI] at hb
        repeat (first | refine wk1 ?_ | (apply WO.cb (s66 ?_); (· exact lends); rotate_left 1; (· assumption)) | (apply WO.cb (s25 ?_); (· exact lends); rotate_left 1; (· assumption)))
        exact W.ret (endQ.sc (.inr rfl) rfl rfl (vb (by simp only [machEq]; rw [all_no (zip_get hx hy), Bool.and_false]; simp only [cellEq, ← hlu, ← hlv, not_t hb, Bool.and_false])))
      · rw [neI] at hb
        have d2 := not_f hb
        repeat (first | refine wk1 ?_ | (apply WO.cb (s66 ?_); (· exact lends); rotate_left 1; (· assumption)) | (apply WO.cb (s25 ?_); (· exact lends); rotate_left 1; (· assumption)))
        exact ⟨hlt, ⟨rfl, rfl, wrap_c (by omega), trivial⟩, hh, hh, ats, all_step hem (zip_get hx hy) (by simp only [cellEq, d1, ← hlu, ← hlv, d2, Bool.and_self])⟩
    · have hge : i = a.mem.length := by simp at hb; omega
      subst hge
      rw [List.take_of_length_le (by rw [List.length_zip]; omega)] at hem
      refine W.exit ?_
      show W _ _ _ _
      repeat (first | refine wk1 ?_ | (apply WO.cb (s66 ?_); (· exact lends); rotate_left 1; (· assumption)) | (apply WO.cb (s25 ?_); (· exact lends); rotate_left 1; (· assumption)))
      exact W.ret (endQ.sc (.inr rfl) rfl rfl (vb (by simp only [machEq, c1, c2, c3, he, hem, Bool.and_self])))
end Go.Proofs.Ytgodaiiegcdpcaa.Abs.MC
end
section
set_option linter.unusedVariables false
set_option linter.unusedSimpArgs false
namespace Go.Proofs.Ytgodaiiegcdpcaa.Abs.MC
open Go.Proofs.Ytgodaiiegcdpcaa.Abs
set_option linter.unusedSimpArgs false
set_option linter.unusedVariables false
set_option maxRecDepth 10000
theorem s52 {fl : Bool} {L : List Int} (hL : L.length < 2 ^ 40) : Runs (gam code) (.fn 52 [.c (.imm fl 1 L.length (cl fl L))] [] (.c (rS L).ow) []) := by
  refine W.is (fn := a52) rfl rfl ?_
  rw [start_im (by repeat (first | exact Pls.nil | refine Pls.c rfl ?_ | refine Pls.agg ?_))]
  simp only [a52]
  refine wk ?_
  exact W.ret (endQ.row (.inr rfl) rfl rfl rfl hh rfl)
theorem s102 {fl : Bool} {L : List Note} (hL : L.length < 2 ^ 40) : Runs (gam code) (.fn 102 [.c (.imm fl 2 L.length (cl fl L))] [] (.c (rS L).ow) []) := by
  refine W.is (fn := a102) rfl rfl ?_
  rw [start_im (by repeat (first | exact Pls.nil | refine Pls.c rfl ?_ | refine Pls.agg ?_))]
  simp only [a102]
  refine wk ?_
  exact W.ret (endQ.row (.inr rfl) rfl rfl rfl hh rfl)
theorem s116 {fl : Bool} {c : Core} (h1 : c.regs.length < 2 ^ 40) (h2 : c.view.length < 2 ^ 40) : Runs (gam code) (.fn 116 [.agg (imL fl (Enc.d c))] [] (.agg (owL (Enc.d c))) []) := by
  refine W.is (fn := a116) rfl rfl ?_
  rw [start_im (by repeat (first | exact Pls.nil | refine Pls.c rfl ?_ | refine Pls.agg ?_))]
  simp only [a116]
  dsimp only [Enc.d, imL, D.im]
  refine wk ?_
  exact W.ret (endQ.abt (.inr rfl) rfl hh rfl rfl abt rfl)
theorem snoc_take {α : Type} {L : List α} {i : Nat} {x : α} (h : L[i]? = some x) : L.take i ++ [x] = L.take (i + 1) := by rw [List.take_add_one, h]; rfl
theorem len_take {α : Type} {L : List α} {i : Nat} (h : i ≤ L.length) : (L.take i).length = i := by rw [List.length_take]; omega
/-- Codes, copied. -/
theorem s45 {fl : Bool} {L : List (List Step)} (hL : L.length < 2 ^ 40) (hL2 : ∀ x ∈ L, x.length < 2 ^ 40) : Runs (gam code) (.fn 45 [.c (.imm fl 1 L.length (cl fl L))] [] (.c (rS L).ow) []) := by
  refine W.is (fn := a45) rfl rfl ?_
  rw [start_im (by repeat (first | exact Pls.nil | refine Pls.c rfl ?_ | refine Pls.agg ?_))]
  simp only [a45]
  refine wk ?_
  refine W.for (fun i T H n => ∃ e, Ag [(0, .c (.imm fl 1 L.length (cl fl L))), (3, .c (.ref e [] 1 0 i)), (4, .c (.int .i64 ((i : Nat) : Int)))] T ∧ H e = some (co (L.take i)) ∧ e.1 < n) L.length ⟨_, ⟨rfl, rfl, rfl, trivial⟩, hh, ats⟩ ?_
  rintro i T H n hi ⟨e, hT, hH, hn⟩
  obtain ⟨T, rfl⟩ := hT.fix
  simp only [ups]
  clear hT
  refine wk ?_
  refine W.if rfl (fun hb => ?_) (fun hb => ?_)
  · have hlt : i < L.length := by simpa using hb
    have hx : L[i]? = some L[i] := List.getElem?_eq_getElem hlt
    have r1 := hL2 L[i] (List.getElem_mem _)
    refine wk ?_
    refine WO.ap1r L[i] rfl hh rfl (len_take hi) (by omega) rfl hh abt ?_
    rw [snoc_take hx]
    refine wk ?_
    exact ⟨hlt, _, ⟨rfl, rfl, wrap_c (by omega), trivial⟩, hh, ats⟩
  · have hge : i = L.length := by simp at hb; omega
    subst hge
    rw [List.take_length] at hH
    refine W.exit ?_
    show W _ _ _ _
    refine wk ?_
    exact W.ret (endQ.row (.inr rfl) rfl rfl rfl hh rfl)
end Go.Proofs.Ytgodaiiegcdpcaa.Abs.MC
end
section
set_option linter.unusedVariables false
set_option linter.unusedSimpArgs false
namespace Go.Proofs.Ytgodaiiegcdpcaa.Abs.MC
open Go.Proofs.Ytgodaiiegcdpcaa.Abs
set_option linter.unusedSimpArgs false
set_option linter.unusedVariables false
set_option maxRecDepth 10000
/-- A row that may be none, told apart from what is new. -/
def RowI {α : Type} [Enc α] (H : Heap) (lo n : Nat) (c : C) (L : List α) : Prop := (c = .nils ∧ L = []) ∨ ∃ e : Id, c = .ref e [] (Enc.k α) 0 L.length ∧ H e = some (co L) ∧ e.1 < n ∧ lo < e.1
theorem RowI.up {α : Type} [Enc α] {H H' : Heap} {lo n n' : Nat} {c : C} {L : List α} (h : RowI H lo n c L) (hn : n ≤ n') (hH : ∀ e : Id, e.1 < n → lo < e.1 → H' e = H e) : RowI H' lo n' c L := by
  rcases h with h | ⟨e, h1, h2, h3, h4⟩
  · exact .inl h
  · exact .inr ⟨e, h1, (hH e h3 h4).trans h2, by omega, h4⟩
theorem s101 {fl : Bool} {m : Mem} (hm : m.sm) (h0 : m ≠ []) : Runs (gam code) (.fn 101 [.agg (imL fl (memD m))] [] (.agg (owL (memD m))) []) := by
  refine W.is (fn := a101) rfl rfl ?_
  rw [start_im (by repeat (first | exact Pls.nil | refine Pls.c rfl ?_ | refine Pls.agg ?_))]
  simp only [a101]
  have hm1 := hm.1
  repeat (first | refine wk1 ?_ | (apply WO.cr (s52 ?_); (· exact lends); rotate_left 1; (· assumption)))
  refine W.for (fun i T H n => ∃ c, Ag [(2, .c (.ptr (1, 1, 0, 0) [] 0)), (3, .c (.ptr (2, 1, 0, 0) [] 0)), (11, .c (.imm fl 1 m.length (cl fl m))), (12, .c (.int .i64 m.length)), (13, .c (.int .i64 ((i : Nat) : Int)))] T ∧ H (1, 1, 0, 0) = some [.nils] ∧ H (2, 1, 0, 0) = some [c] ∧ RowI H 2 n c (m.take i) ∧ 2 < n) m.length ⟨.nils, ⟨rfl, rfl, rfl, rfl, rfl, trivial⟩, hh, hh, .inl ⟨rfl, rfl⟩, ats⟩ ?_
  rintro i T H n hi ⟨c, hT, hH1, hH2, hc, hn⟩
  obtain ⟨T, rfl⟩ := hT.fix
  simp only [ups]
  clear hT
  repeat (first | refine wk1 ?_ | (apply WO.cr (s52 ?_); (· exact lends); rotate_left 1; (· assumption)))
  refine W.if rfl (fun hb => ?_) (fun hb => ?_)
  · have hlt : i < m.length := by simpa using hb
    have hx : m[i]? = some m[i] := List.getElem?_eq_getElem hlt
    have hcm := (hm.2 m[i] (List.getElem_mem _))
    have hc1 := hcm.1
    repeat (first | refine wk1 ?_ | (apply WO.cr (s52 ?_); (· exact lends); rotate_left 1; (· assumption)))
    refine W.for (fun k T' H' n' => ∃ e6 : Id, Ag [(2, .c (.ptr (1, 1, 0, 0) [] 0)), (3, .c (.ptr (2, 1, 0, 0) [] 0)), (11, .c (.imm fl 1 m.length (cl fl m))), (12, .c (.int .i64 m.length)), (13, .c (.int .i64 ((i : Nat) : Int))), (18, .c (.imm fl 2 m[i].length (cl fl m[i]))), (19, .c (.int .i64 m[i].length)), (20, .c (.int .i64 ((k : Nat) : Int))), (6, .c (.ref e6 [] 2 0 k))] T' ∧
      H' (1, 1, 0, 0) = some [.nils] ∧ H' (2, 1, 0, 0) = some [c] ∧ RowI H' 2 n c (m.take i) ∧ H' e6 = some (co (m[i].take k)) ∧ n ≤ e6.1 ∧ e6.1 < n') m[i].length ⟨_, ⟨rfl, rfl, rfl, rfl, rfl, rfl, rfl, rfl, rfl, trivial⟩, hh, hh, hc.up (Nat.le_refl _) (fun e q1 q2 => hh), hh, ats, ats⟩ ?_
    rintro k T H n' hk ⟨e6, hT, hH1, hH2, hc, hH6, hn1, hn2⟩
    obtain ⟨T, rfl⟩ := hT.fix
    simp only [ups]
    clear hT
    repeat (first | refine wk1 ?_ | (apply WO.cr (s52 ?_); (· exact lends); rotate_left 1; (· assumption)))
    refine W.if rfl (fun hb => ?_) (fun hb => ?_)
    · have hlk : k < m[i].length := by simpa using hb
      have hw : m[i][k]? = some m[i][k] := List.getElem?_eq_getElem hlk
      have hw1 := hcm.2 m[i][k] (List.getElem_mem _)
      repeat (first | refine wk1 ?_ | (apply WO.cr (s52 ?_); (· exact lends); rotate_left 1; (· assumption)))
      refine WO.ap1r m[i][k] rfl hh rfl (len_take hk) (by omega) rfl hh abt ?_
      rw [snoc_take hw]
      repeat (first | refine wk1 ?_ | (apply WO.cr (s52 ?_); (· exact lends); rotate_left 1; (· assumption)))
      exact ⟨hlk, _, ⟨rfl, rfl, rfl, rfl, rfl, rfl, rfl, wrap_c (by omega), rfl, trivial⟩, hh, hh, hc.up (Nat.le_refl _) (fun e q1 q2 => hh), hh, ats, ats⟩
    · have hge : k = m[i].length := by simp at hb; omega
      subst hge
      rw [List.take_length] at hH6
      refine W.exit ?_
      show W _ _ _ _
      rcases hc with ⟨rfl, hcn⟩ | ⟨e, rfl, hce, hc2, hc3⟩
      · repeat (first | refine wk1 ?_ | (apply WO.cr (s52 ?_); (· exact lends); rotate_left 1; (· assumption)))
        refine WO.ap1n m[i] rfl rfl (by omega) rfl hh abt ?_
        rw [show [m[i]] = m.take (i + 1) by rw [← snoc_take hx, hcn]; rfl]
        repeat (first | refine wk1 ?_ | (apply WO.cr (s52 ?_); (· exact lends); rotate_left 1; (· assumption)))
        exact ⟨hlt, _, ⟨rfl, rfl, rfl, rfl, wrap_c (by omega), trivial⟩, hh, hh, .inr ⟨_, by rw [len_take (by omega)]; (have h9 : i = 0 := by (have := congrArg List.length hcn; rw [len_take hi] at this; simpa using this)); subst h9; rfl, hh, ats, ats⟩, ats⟩
      · repeat (first | refine wk1 ?_ | (apply WO.cr (s52 ?_); (· exact lends); rotate_left 1; (· assumption)))
        refine WO.ap1r m[i] rfl hh rfl rfl (by rw [len_take hi]; omega) rfl hh abt ?_
        rw [snoc_take hx]
        repeat (first | refine wk1 ?_ | (apply WO.cr (s52 ?_); (· exact lends); rotate_left 1; (· assumption)))
        exact ⟨hlt, _, ⟨rfl, rfl, rfl, rfl, wrap_c (by omega), trivial⟩, hh, hh, .inr ⟨_, by rw [len_take hi, len_take (by omega)]; rfl, hh, ats, ats⟩, ats⟩
  · have hge : i = m.length := by simp at hb; omega
    subst hge
    rw [List.take_length] at hc
    rcases hc with ⟨rfl, hcn⟩ | ⟨e, rfl, hce, hc2, hc3⟩
    · exact absurd hcn h0
    refine W.exit ?_
    show W _ _ _ _
    repeat (first | refine wk1 ?_ | (apply WO.cr (s52 ?_); (· exact lends); rotate_left 1; (· assumption)))
    exact W.ret (endQ.abt (.inr rfl) rfl hh rfl rfl abt rfl)
end Go.Proofs.Ytgodaiiegcdpcaa.Abs.MC
end
section
set_option linter.unusedVariables false
set_option linter.unusedSimpArgs false
namespace Go.Proofs.Ytgodaiiegcdpcaa.Abs.MC
open Go.Proofs.Ytgodaiiegcdpcaa.Abs
set_option linter.unusedSimpArgs false
set_option linter.unusedVariables false
set_option maxRecDepth 10000
theorem s115 {fl : Bool} {m : Mem} (hm : m.sm) (h0 : m ≠ []) : Runs (gam code) (.fn 115 [.agg (imL fl (memD m))] [] (.agg (owL (memD m))) []) := by
  refine W.is (fn := a115) rfl rfl ?_
  rw [start_im (by repeat (first | exact Pls.nil | refine Pls.c rfl ?_ | refine Pls.agg ?_))]
  simp only [a115]
  have hm1 := hm.1
  refine wk ?_
  refine W.for (fun i T H n => ∃ c, Ag [(1, .c (.ptr (1, 0, 0, 0) [] 0)), (2, .c (.ptr (1, 1, 0, 0) [] 0)), (3, .c (.ptr (2, 1, 0, 0) [] 0)), (4, .c (.int .i64 ((i : Nat) : Int)))] T ∧ H (1, 0, 0, 0) = some (imL fl (memD m)) ∧ H (1, 1, 0, 0) = some [.nils] ∧ H (2, 1, 0, 0) = some [c] ∧ RowI H 2 n c (m.take i) ∧ 2 < n) m.length ⟨.nils, ⟨rfl, rfl, rfl, rfl, trivial⟩, hh, hh, hh, .inl ⟨rfl, rfl⟩, ats⟩ ?_
  rintro i T H n hi ⟨c, hT, hH0, hH1, hH2, hc, hn⟩
  obtain ⟨T, rfl⟩ := hT.fix
  simp only [ups]
  clear hT
  refine wk ?_
  refine W.if rfl (fun hb => ?_) (fun hb => ?_)
  · have hlt : i < m.length := by simpa using hb
    have hx : m[i]? = some m[i] := List.getElem?_eq_getElem hlt
    have hcm := (hm.2 m[i] (List.getElem_mem _))
    have hc1 := hcm.1
    refine wk ?_
    refine W.for (fun k T' H' n' => ∃ e6 : Id, Ag [(1, .c (.ptr (1, 0, 0, 0) [] 0)), (2, .c (.ptr (1, 1, 0, 0) [] 0)), (3, .c (.ptr (2, 1, 0, 0) [] 0)), (4, .c (.int .i64 ((i : Nat) : Int))), (6, .c (.int .i64 ((k : Nat) : Int))), (5, .c (.ref e6 [] 2 0 k))] T' ∧
      H' (1, 0, 0, 0) = some (imL fl (memD m)) ∧ H' (1, 1, 0, 0) = some [.nils] ∧ H' (2, 1, 0, 0) = some [c] ∧ RowI H' 2 n c (m.take i) ∧ H' e6 = some (co (m[i].take k)) ∧ n ≤ e6.1 ∧ e6.1 < n') m[i].length ⟨_, ⟨rfl, rfl, rfl, rfl, rfl, rfl, trivial⟩, hh, hh, hh, hc.up (Nat.le_refl _) (fun e q1 q2 => hh), hh, ats, ats⟩ ?_
    rintro k T H n' hk ⟨e6, hT, hH0, hH1, hH2, hc, hH6, hn1, hn2⟩
    obtain ⟨T, rfl⟩ := hT.fix
    simp only [ups]
    clear hT
    refine wk ?_
    refine W.if rfl (fun hb => ?_) (fun hb => ?_)
    · have hlk : k < m[i].length := by simpa using hb
      have hw : m[i][k]? = some m[i][k] := List.getElem?_eq_getElem hlk
      have hw1 := hcm.2 m[i][k] (List.getElem_mem _)
      refine wk ?_
      refine WO.ap1r m[i][k] rfl hh rfl (len_take hk) (by omega) rfl hh abt ?_
      rw [snoc_take hw]
      refine wk ?_
      exact ⟨hlk, _, ⟨rfl, rfl, rfl, rfl, wrap_c (by omega), rfl, trivial⟩, hh, hh, hh, hc.up (Nat.le_refl _) (fun e q1 q2 => hh), hh, ats, ats⟩
    · have hge : k = m[i].length := by simp at hb; omega
      subst hge
      rw [List.take_length] at hH6
      refine W.exit ?_
      show W _ _ _ _
      rcases hc with ⟨rfl, hcn⟩ | ⟨e, rfl, hce, hc2, hc3⟩
      · refine wk ?_
        refine WO.ap1n m[i] rfl rfl (by omega) rfl hh abt ?_
        rw [show [m[i]] = m.take (i + 1) by rw [← snoc_take hx, hcn]; rfl]
        refine wk ?_
        exact ⟨hlt, _, ⟨rfl, rfl, rfl, wrap_c (by omega), trivial⟩, hh, hh, hh, .inr ⟨_, by rw [len_take (by omega)]; (have h9 : i = 0 := by (have := congrArg List.length hcn; rw [len_take hi] at this; simpa using this)); subst h9; rfl, hh, ats, ats⟩, ats⟩
      · refine wk ?_
        refine WO.ap1r m[i] rfl hh rfl rfl (by rw [len_take hi]; omega) rfl hh abt ?_
        rw [snoc_take hx]
        refine wk ?_
        exact ⟨hlt, _, ⟨rfl, rfl, rfl, wrap_c (by omega), trivial⟩, hh, hh, hh, .inr ⟨_, by rw [len_take hi, len_take (by omega)]; rfl, hh, ats, ats⟩, ats⟩
  · have hge : i = m.length := by simp at hb; omega
    subst hge
    rw [List.take_length] at hc
    rcases hc with ⟨rfl, hcn⟩ | ⟨e, rfl, hce, hc2, hc3⟩
    · exact absurd hcn h0
    refine W.exit ?_
    show W _ _ _ _
    refine wk ?_
    exact W.ret (endQ.abt (.inr rfl) rfl hh rfl rfl abt rfl)
end Go.Proofs.Ytgodaiiegcdpcaa.Abs.MC
end
section
set_option linter.unusedVariables false
set_option linter.unusedSimpArgs false
namespace Go.Proofs.Ytgodaiiegcdpcaa.Abs.MC
open Go.Proofs.Ytgodaiiegcdpcaa.Abs
set_option linter.unusedSimpArgs false
set_option linter.unusedVariables false
set_option maxRecDepth 10000
theorem s64 {fl : Bool} {m : Mach} (hm : m.sm) (h0 : m.mem ≠ []) (h1 : m.cores ≠ []) : Runs (gam code) (.fn 64 [.agg (imL fl m.d)] [] (.agg (owL m.d)) []) := by
  obtain ⟨k1, k2, k3, k4, k5, k6⟩ := hm
  refine W.is (fn := a64) rfl rfl ?_
  rw [start_im (by repeat (first | exact Pls.nil | refine Pls.c rfl ?_ | refine Pls.agg ?_))]
  simp only [a64]
  repeat (first | refine wk1 ?_ | (apply WO.cr (s45 ?_ ?_); (· exact lends); rotate_left 1; (· assumption); (· assumption)) | (apply WO.ca (s115 ?_ ?_); (· exact lends); (· exact brr); rotate_left 1; (· assumption); (· assumption)) | (apply WO.ca (s116 ?_ ?_); (· exact lends); (· exact brr); rotate_left 1; (· assumption); (· assumption)))
  refine W.for (fun i T H n => ∃ c, Ag [(1, .c (.ptr (1, 0, 0, 0) [] 0)), (2, .c (.ptr (1, 1, 0, 0) [] 0)), (3, .c (.ptr (2, 11, 0, 0) [] 0)), (4, .c (.int .i64 ((i : Nat) : Int)))] T ∧ H (1, 0, 0, 0) = some (imL fl m.d) ∧ H (1, 1, 0, 0) = some [.nils, .nils, .nils, .nils] ∧
    H (2, 11, 0, 0) = some [.ref (2, 2, 0, 0) [] 1 0 m.codes.length, c, .ref (2, 5, 0, 0) [] 1 0 m.mem.length, .ref (2, 9, 0, 0) [] 2 0 m.trace.length] ∧ H (2, 2, 0, 0) = some (co m.codes) ∧ H (2, 5, 0, 0) = some (co m.mem) ∧ H (2, 9, 0, 0) = some (co m.trace) ∧ RowI H 2 n c (m.cores.take i) ∧ 2 < n) m.cores.length
    ⟨.nils, ⟨rfl, rfl, rfl, rfl, trivial⟩, hh, hh, hh, hh, hh, hh, .inl ⟨rfl, rfl⟩, ats⟩ ?_
  rintro i T H n hi ⟨c, hT, hH0, hH1, hH2, hH3, hH4, hH5, hc, hn⟩
  obtain ⟨T, rfl⟩ := hT.fix
  simp only [ups]
  clear hT
  repeat (first | refine wk1 ?_ | (apply WO.cr (s45 ?_ ?_); (· exact lends); rotate_left 1; (· assumption); (· assumption)) | (apply WO.ca (s115 ?_ ?_); (· exact lends); (· exact brr); rotate_left 1; (· assumption); (· assumption)) | (apply WO.ca (s116 ?_ ?_); (· exact lends); (· exact brr); rotate_left 1; (· assumption); (· assumption)))
  refine W.if rfl (fun hb => ?_) (fun hb => ?_)
  · have hlt : i < m.cores.length := by simpa using hb
    have hx : m.cores[i]? = some m.cores[i] := List.getElem?_eq_getElem hlt
    have r2 := k4 m.cores[i] (List.getElem_mem _)
    have r3 := r2.1
    have r4 := r2.2
    rcases hc with ⟨rfl, hcn⟩ | ⟨e, rfl, hce, hc2, hc3⟩
    · repeat (first | refine wk1 ?_ | (apply WO.cr (s45 ?_ ?_); (· exact lends); rotate_left 1; (· assumption); (· assumption)) | (apply WO.ca (s115 ?_ ?_); (· exact lends); (· exact brr); rotate_left 1; (· assumption); (· assumption)) | (apply WO.ca (s116 ?_ ?_); (· exact lends); (· exact brr); rotate_left 1; (· assumption); (· assumption)))
      refine WO.ap1n m.cores[i] rfl rfl (by omega) rfl hh abt ?_
      rw [show [m.cores[i]] = m.cores.take (i + 1) by rw [← snoc_take hx, hcn]; rfl]
      repeat (first | refine wk1 ?_ | (apply WO.cr (s45 ?_ ?_); (· exact lends); rotate_left 1; (· assumption); (· assumption)) | (apply WO.ca (s115 ?_ ?_); (· exact lends); (· exact brr); rotate_left 1; (· assumption); (· assumption)) | (apply WO.ca (s116 ?_ ?_); (· exact lends); (· exact brr); rotate_left 1; (· assumption); (· assumption)))
      exact ⟨hlt, _, ⟨rfl, rfl, rfl, wrap_c (by omega), trivial⟩, hh, hh, hh, hh, hh, hh, .inr ⟨_, by rw [len_take (by omega)]; (have h9 : i = 0 := by (have := congrArg List.length hcn; rw [len_take hi] at this; simpa using this)); subst h9; rfl, hh, ats, ats⟩, ats⟩
    · repeat (first | refine wk1 ?_ | (apply WO.cr (s45 ?_ ?_); (· exact lends); rotate_left 1; (· assumption); (· assumption)) | (apply WO.ca (s115 ?_ ?_); (· exact lends); (· exact brr); rotate_left 1; (· assumption); (· assumption)) | (apply WO.ca (s116 ?_ ?_); (· exact lends); (· exact brr); rotate_left 1; (· assumption); (· assumption)))
      refine WO.ap1r m.cores[i] rfl hh rfl rfl (by rw [len_take hi]; omega) rfl hh abt ?_
      rw [snoc_take hx]
      repeat (first | refine wk1 ?_ | (apply WO.cr (s45 ?_ ?_); (· exact lends); rotate_left 1; (· assumption); (· assumption)) | (apply WO.ca (s115 ?_ ?_); (· exact lends); (· exact brr); rotate_left 1; (· assumption); (· assumption)) | (apply WO.ca (s116 ?_ ?_); (· exact lends); (· exact brr); rotate_left 1; (· assumption); (· assumption)))
      exact ⟨hlt, _, ⟨rfl, rfl, rfl, wrap_c (by omega), trivial⟩, hh, hh, hh, hh, hh, hh, .inr ⟨_, by rw [len_take hi, len_take (by omega)]; rfl, hh, ats, ats⟩, ats⟩
  · have hge : i = m.cores.length := by simp at hb; omega
    subst hge
    rw [List.take_length] at hc
    rcases hc with ⟨rfl, hcn⟩ | ⟨e, rfl, hce, hc2, hc3⟩
    · exact absurd hcn h1
    refine W.exit ?_
    show W _ _ _ _
    repeat (first | refine wk1 ?_ | (apply WO.cr (s45 ?_ ?_); (· exact lends); rotate_left 1; (· assumption); (· assumption)) | (apply WO.ca (s115 ?_ ?_); (· exact lends); (· exact brr); rotate_left 1; (· assumption); (· assumption)) | (apply WO.ca (s116 ?_ ?_); (· exact lends); (· exact brr); rotate_left 1; (· assumption); (· assumption)))
    exact W.ret (endQ.abt (.inr rfl) rfl hh rfl rfl abt rfl)
end Go.Proofs.Ytgodaiiegcdpcaa.Abs.MC
end
section
set_option linter.unusedVariables false
set_option linter.unusedSimpArgs false
namespace Go.Proofs.Ytgodaiiegcdpcaa.Abs.MC
open Go.Proofs.Ytgodaiiegcdpcaa.Abs
set_option linter.unusedSimpArgs false
set_option linter.unusedVariables false
set_option maxRecDepth 10000
set_option maxHeartbeats 4000000 in
theorem s47 {fl : Bool} {m : Mach} (hm : m.sm) (h0 : m.mem ≠ []) (h1 : m.cores ≠ []) (h2 : m.codes ≠ []) : Runs (gam code) (.fn 47 [.agg (imL fl m.d)] [] (.agg (owL m.d)) []) := by
  obtain ⟨k1, k2, k3, k4, k5, k6⟩ := hm
  refine W.is (fn := a47) rfl rfl ?_
  rw [start_im (by repeat (first | exact Pls.nil | refine Pls.c rfl ?_ | refine Pls.agg ?_))]
  simp only [a47]
  repeat (first | refine wk1 ?_ | (apply WO.cr (s52 ?_); (· exact lends); rotate_left 1; (· assumption)) | (apply WO.cr (s102 ?_); (· exact lends); rotate_left 1; (· assumption)) | (apply WO.ca (s101 ?_ ?_); (· exact lends); (· exact brr); rotate_left 1; (· assumption); (· assumption)))
  refine W.for (fun i T H n => ∃ c, Ag [(1, .c (.ptr (1, 0, 0, 0) [] 0)), (2, .c (.ptr (1, 1, 0, 0) [] 0)), (3, .c (.ptr (2, 7, 0, 0) [] 0)), (16, .c (.imm fl 1 m.codes.length (cl fl m.codes))), (17, .c (.int .i64 m.codes.length)), (18, .c (.int .i64 ((i : Nat) : Int)))] T ∧ H (1, 0, 0, 0) = some (imL fl m.d) ∧ H (1, 1, 0, 0) = some [.nils, .nils, .nils, .nils] ∧
    H (2, 7, 0, 0) = some [c, .nils, .ref (2, 2, 0, 0) [] 1 0 m.mem.length, .ref (2, 5, 0, 0) [] 2 0 m.trace.length] ∧ H (2, 2, 0, 0) = some (co m.mem) ∧ H (2, 5, 0, 0) = some (co m.trace) ∧ RowI H 2 n c (m.codes.take i) ∧ 2 < n) m.codes.length
    ⟨.nils, ⟨rfl, rfl, rfl, rfl, rfl, rfl, trivial⟩, hh, hh, hh, hh, hh, .inl ⟨rfl, rfl⟩, ats⟩ ?_
  rintro i T H n hi ⟨c, hT, hH0, hH1, hH2, hH3, hH4, hc, hn⟩
  obtain ⟨T, rfl⟩ := hT.fix
  simp only [ups]
  clear hT
  repeat (first | refine wk1 ?_ | (apply WO.cr (s52 ?_); (· exact lends); rotate_left 1; (· assumption)) | (apply WO.cr (s102 ?_); (· exact lends); rotate_left 1; (· assumption)) | (apply WO.ca (s101 ?_ ?_); (· exact lends); (· exact brr); rotate_left 1; (· assumption); (· assumption)))
  refine W.if rfl (fun hb => ?_) (fun hb => ?_)
  · have hlt : i < m.codes.length := by simpa using hb
    have hx : m.codes[i]? = some m.codes[i] := List.getElem?_eq_getElem hlt
    have r2 := k2 m.codes[i] (List.getElem_mem _)
    rcases hc with ⟨rfl, hcn⟩ | ⟨e, rfl, hce, hc2, hc3⟩
    · repeat (first | refine wk1 ?_ | (apply WO.cr (s52 ?_); (· exact lends); rotate_left 1; (· assumption)) | (apply WO.cr (s102 ?_); (· exact lends); rotate_left 1; (· assumption)) | (apply WO.ca (s101 ?_ ?_); (· exact lends); (· exact brr); rotate_left 1; (· assumption); (· assumption)))
      refine WO.ap1n m.codes[i] rfl rfl (by omega) rfl hh abt ?_
      rw [show [m.codes[i]] = m.codes.take (i + 1) by rw [← snoc_take hx, hcn]; rfl]
      repeat (first | refine wk1 ?_ | (apply WO.cr (s52 ?_); (· exact lends); rotate_left 1; (· assumption)) | (apply WO.cr (s102 ?_); (· exact lends); rotate_left 1; (· assumption)) | (apply WO.ca (s101 ?_ ?_); (· exact lends); (· exact brr); rotate_left 1; (· assumption); (· assumption)))
      exact ⟨hlt, _, ⟨rfl, rfl, rfl, rfl, rfl, wrap_c (by omega), trivial⟩, hh, hh, hh, hh, hh, .inr ⟨_, by rw [len_take (by omega)]; (have h9 : i = 0 := by (have := congrArg List.length hcn; rw [len_take hi] at this; simpa using this)); subst h9; rfl, hh, ats, ats⟩, ats⟩
    · repeat (first | refine wk1 ?_ | (apply WO.cr (s52 ?_); (· exact lends); rotate_left 1; (· assumption)) | (apply WO.cr (s102 ?_); (· exact lends); rotate_left 1; (· assumption)) | (apply WO.ca (s101 ?_ ?_); (· exact lends); (· exact brr); rotate_left 1; (· assumption); (· assumption)))
      refine WO.ap1r m.codes[i] rfl hh rfl rfl (by rw [len_take hi]; omega) rfl hh abt ?_
      rw [snoc_take hx]
      repeat (first | refine wk1 ?_ | (apply WO.cr (s52 ?_); (· exact lends); rotate_left 1; (· assumption)) | (apply WO.cr (s102 ?_); (· exact lends); rotate_left 1; (· assumption)) | (apply WO.ca (s101 ?_ ?_); (· exact lends); (· exact brr); rotate_left 1; (· assumption); (· assumption)))
      exact ⟨hlt, _, ⟨rfl, rfl, rfl, rfl, rfl, wrap_c (by omega), trivial⟩, hh, hh, hh, hh, hh, .inr ⟨_, by rw [len_take hi, len_take (by omega)]; rfl, hh, ats, ats⟩, ats⟩
  have hge : i = m.codes.length := by simp at hb; omega
  subst hge
  rw [List.take_length] at hc
  rcases hc with ⟨rfl, hcn⟩ | ⟨e1, rfl, hce1, hd2, hd3⟩
  · exact absurd hcn h2
  refine W.exit ?_
  show W _ _ _ _
  repeat (first | refine wk1 ?_ | (apply WO.cr (s52 ?_); (· exact lends); rotate_left 1; (· assumption)) | (apply WO.cr (s102 ?_); (· exact lends); rotate_left 1; (· assumption)) | (apply WO.ca (s101 ?_ ?_); (· exact lends); (· exact brr); rotate_left 1; (· assumption); (· assumption)))
  refine W.for (fun i T H n' => ∃ c, Ag [(1, .c (.ptr (1, 0, 0, 0) [] 0)), (2, .c (.ptr (1, 1, 0, 0) [] 0)), (3, .c (.ptr (2, 7, 0, 0) [] 0)), (32, .c (.imm fl 4 m.cores.length (cl fl m.cores))), (33, .c (.int .i64 m.cores.length)), (34, .c (.int .i64 ((i : Nat) : Int)))] T ∧ H (1, 0, 0, 0) = some (imL fl m.d) ∧ H (1, 1, 0, 0) = some [.nils, .nils, .nils, .nils] ∧
    H (2, 7, 0, 0) = some [.ref e1 [] 1 0 m.codes.length, c, .ref (2, 2, 0, 0) [] 1 0 m.mem.length, .ref (2, 5, 0, 0) [] 2 0 m.trace.length] ∧ H (2, 2, 0, 0) = some (co m.mem) ∧ H (2, 5, 0, 0) = some (co m.trace) ∧ H e1 = some (co m.codes) ∧ RowI H n n' c (m.cores.take i) ∧ n < n') m.cores.length
    ⟨.nils, ⟨rfl, rfl, rfl, rfl, rfl, rfl, trivial⟩, hh, hh, hh, hh, hh, hh, .inl ⟨rfl, rfl⟩, ats⟩ ?_
  rintro i T H n' hi ⟨c, hT, hH0, hH1, hH2, hH3, hH4, hH5, hc, hn'⟩
  obtain ⟨T, rfl⟩ := hT.fix
  simp only [ups]
  clear hT
  repeat (first | refine wk1 ?_ | (apply WO.cr (s52 ?_); (· exact lends); rotate_left 1; (· assumption)) | (apply WO.cr (s102 ?_); (· exact lends); rotate_left 1; (· assumption)) | (apply WO.ca (s101 ?_ ?_); (· exact lends); (· exact brr); rotate_left 1; (· assumption); (· assumption)))
  refine W.if rfl (fun hb => ?_) (fun hb => ?_)
  · have hlt : i < m.cores.length := by simpa using hb
    have hx : m.cores[i]? = some m.cores[i] := List.getElem?_eq_getElem hlt
    have r2 := k4 m.cores[i] (List.getElem_mem _)
    have r3 := r2.1
    have r4 := r2.2
    rcases hc with ⟨rfl, hcn⟩ | ⟨e, rfl, hce, hc2, hc3⟩
    · repeat (first | refine wk1 ?_ | (apply WO.cr (s52 ?_); (· exact lends); rotate_left 1; (· assumption)) | (apply WO.cr (s102 ?_); (· exact lends); rotate_left 1; (· assumption)) | (apply WO.ca (s101 ?_ ?_); (· exact lends); (· exact brr); rotate_left 1; (· assumption); (· assumption)))
      refine WO.ap1n m.cores[i] rfl rfl (by omega) rfl hh abt ?_
      rw [show [m.cores[i]] = m.cores.take (i + 1) by rw [← snoc_take hx, hcn]; rfl]
      repeat (first | refine wk1 ?_ | (apply WO.cr (s52 ?_); (· exact lends); rotate_left 1; (· assumption)) | (apply WO.cr (s102 ?_); (· exact lends); rotate_left 1; (· assumption)) | (apply WO.ca (s101 ?_ ?_); (· exact lends); (· exact brr); rotate_left 1; (· assumption); (· assumption)))
      exact ⟨hlt, _, ⟨rfl, rfl, rfl, rfl, rfl, wrap_c (by omega), trivial⟩, hh, hh, hh, hh, hh, hh, .inr ⟨_, by rw [len_take (by omega)]; (have h9 : i = 0 := by (have := congrArg List.length hcn; rw [len_take hi] at this; simpa using this)); subst h9; rfl, hh, ats, ats⟩, ats⟩
    · repeat (first | refine wk1 ?_ | (apply WO.cr (s52 ?_); (· exact lends); rotate_left 1; (· assumption)) | (apply WO.cr (s102 ?_); (· exact lends); rotate_left 1; (· assumption)) | (apply WO.ca (s101 ?_ ?_); (· exact lends); (· exact brr); rotate_left 1; (· assumption); (· assumption)))
      refine WO.ap1r m.cores[i] rfl hh rfl rfl (by rw [len_take hi]; omega) rfl hh abt ?_
      rw [snoc_take hx]
      repeat (first | refine wk1 ?_ | (apply WO.cr (s52 ?_); (· exact lends); rotate_left 1; (· assumption)) | (apply WO.cr (s102 ?_); (· exact lends); rotate_left 1; (· assumption)) | (apply WO.ca (s101 ?_ ?_); (· exact lends); (· exact brr); rotate_left 1; (· assumption); (· assumption)))
      exact ⟨hlt, _, ⟨rfl, rfl, rfl, rfl, rfl, wrap_c (by omega), trivial⟩, hh, hh, hh, hh, hh, hh, .inr ⟨_, by rw [len_take hi, len_take (by omega)]; rfl, hh, ats, ats⟩, ats⟩
  · have hge : i = m.cores.length := by simp at hb; omega
    subst hge
    rw [List.take_length] at hc
    rcases hc with ⟨rfl, hcn⟩ | ⟨e, rfl, hce, hc2, hc3⟩
    · exact absurd hcn h1
    refine W.exit ?_
    show W _ _ _ _
    repeat (first | refine wk1 ?_ | (apply WO.cr (s52 ?_); (· exact lends); rotate_left 1; (· assumption)) | (apply WO.cr (s102 ?_); (· exact lends); rotate_left 1; (· assumption)) | (apply WO.ca (s101 ?_ ?_); (· exact lends); (· exact brr); rotate_left 1; (· assumption); (· assumption)))
    exact W.ret (endQ.abt (.inr rfl) rfl hh rfl rfl abt rfl)
end Go.Proofs.Ytgodaiiegcdpcaa.Abs.MC
end
section
set_option linter.unusedVariables false
set_option linter.unusedSimpArgs false
namespace Go.Proofs.Ytgodaiiegcdpcaa.Abs.MC
open Go.Proofs.Ytgodaiiegcdpcaa.Abs
set_option linter.unusedSimpArgs false
set_option linter.unusedVariables false
set_option maxRecDepth 10000
/-- For each the greater one; as many as the shorter has. -/
def join (a b : List Int) : List Int := List.zipWith max a b
theorem join_len {a b : List Int} : (join a b).length = min a.length b.length := by simp [join]
theorem join_get {a b : List Int} {i : Nat} {x y : Int} (hx : a[i]? = some x) (hy : b[i]? = some y) : (join a b)[i]? = some (max x y) := by simp [join, List.getElem?_zipWith, hx, hy]
theorem s171 {fl fl' : Bool} {a b : List Int} (ha : a.length < 2 ^ 40) : Runs (gam code) (.fn 171 [.c (.imm fl 1 a.length (cl fl a)), .c (.imm fl' 1 b.length (cl fl' b))] [] (.c (rS (join a b)).ow) []) := by
  refine W.is (fn := a171) rfl rfl ?_
  rw [start_im (by repeat (first | exact Pls.nil | refine Pls.c rfl ?_ | refine Pls.agg ?_))]
  simp only [a171]
  refine wk ?_
  refine W.for (fun i T H n => ∃ e : Id, Ag [(0, .c (.imm fl 1 a.length (cl fl a))), (1, .c (.imm fl' 1 b.length (cl fl' b))), (5, .c (.ref e [] 1 0 i)), (6, .c (.int .i64 ((i : Nat) : Int)))] T ∧ H e = some (co ((join a b).take i)) ∧ e.1 < n) (join a b).length ⟨_, ⟨rfl, rfl, rfl, rfl, trivial⟩, hh, ats⟩ ?_
  rintro i T H n hi ⟨e, hT, hH, hn⟩
  have hjl := join_len (a := a) (b := b)
  obtain ⟨T, rfl⟩ := hT.fix
  simp only [ups]
  clear hT
  refine wk ?_
  refine WO.gs rfl (fun hb => ?_) (fun hb => ?_)
  · have h1 := of_decide_eq_false (p := (i : Int) < a.length) hb
    have hge : i = (join a b).length := by omega
    rw [hge, List.take_length] at hH
    refine wk ?_
    refine W.exit ?_
    show W _ _ _ _
    refine wk ?_
    exact W.ret (endQ.row (.inr rfl) rfl rfl hge.symm hh rfl)
  have h1 : i < a.length := by have := of_decide_eq_true (p := (i : Int) < a.length) hb; omega
  refine wk ?_
  refine W.if rfl (fun hb => ?_) (fun hb => ?_)
  · have h2 : i < b.length := by simpa using hb
    have hx : a[i]? = some a[i] := List.getElem?_eq_getElem h1
    have hy : b[i]? = some b[i] := List.getElem?_eq_getElem h2
    refine wk ?_
    refine WO.ap1r (max a[i] b[i]) rfl hh rfl (len_take hi) (by omega) rfl hh abt ?_
    rw [snoc_take (join_get hx hy)]
    refine wk ?_
    exact ⟨by omega, _, ⟨rfl, rfl, rfl, wrap_c (by omega), trivial⟩, hh, ats⟩
  · have hge : i = (join a b).length := by simp at hb; omega
    rw [hge, List.take_length] at hH
    refine W.exit ?_
    show W _ _ _ _
    refine wk ?_
    exact W.ret (endQ.row (.inr rfl) rfl rfl hge.symm hh rfl)
theorem s182 {fl fl' : Bool} {a b : List Int} (ha : a.length < 2 ^ 40) : Runs (gam code) (.fn 182 [.c (.imm fl 1 a.length (cl fl a)), .c (.imm fl' 1 b.length (cl fl' b))] [] (.c (rS (join a b)).ow) []) := by
  refine W.is (fn := a182) rfl rfl ?_
  rw [start_im (by repeat (first | exact Pls.nil | refine Pls.c rfl ?_ | refine Pls.agg ?_))]
  simp only [a182]
  repeat (first | refine wk1 ?_ | (apply WO.ci s138; (· exact lends)))
  refine W.for (fun i T H n => ∃ e : Id, Ag [(0, .c (.imm fl 1 a.length (cl fl a))), (1, .c (.imm fl' 1 b.length (cl fl' b))), (5, .c (.ref e [] 1 0 i)), (6, .c (.int .i64 ((i : Nat) : Int)))] T ∧ H e = some (co ((join a b).take i)) ∧ e.1 < n) (join a b).length ⟨_, ⟨rfl, rfl, rfl, rfl, trivial⟩, hh, ats⟩ ?_
  rintro i T H n hi ⟨e, hT, hH, hn⟩
  have hjl := join_len (a := a) (b := b)
  obtain ⟨T, rfl⟩ := hT.fix
  simp only [ups]
  clear hT
  repeat (first | refine wk1 ?_ | (apply WO.ci s138; (· exact lends)))
  refine WO.gs rfl (fun hb => ?_) (fun hb => ?_)
  · have h1 := of_decide_eq_false (p := (i : Int) < a.length) hb
    have hge : i = (join a b).length := by omega
    rw [hge, List.take_length] at hH
    repeat (first | refine wk1 ?_ | (apply WO.ci s138; (· exact lends)))
    refine W.exit ?_
    show W _ _ _ _
    repeat (first | refine wk1 ?_ | (apply WO.ci s138; (· exact lends)))
    exact W.ret (endQ.row (.inr rfl) rfl rfl hge.symm hh rfl)
  have h1 : i < a.length := by have := of_decide_eq_true (p := (i : Int) < a.length) hb; omega
  repeat (first | refine wk1 ?_ | (apply WO.ci s138; (· exact lends)))
  refine W.if rfl (fun hb => ?_) (fun hb => ?_)
  · have h2 : i < b.length := by simpa using hb
    have hx : a[i]? = some a[i] := List.getElem?_eq_getElem h1
    have hy : b[i]? = some b[i] := List.getElem?_eq_getElem h2
    repeat (first | refine wk1 ?_ | (apply WO.ci s138; (· exact lends)))
    refine WO.ap1r (max a[i] b[i]) rfl hh rfl (len_take hi) (by omega) rfl hh abt ?_
    rw [snoc_take (join_get hx hy)]
    repeat (first | refine wk1 ?_ | (apply WO.ci s138; (· exact lends)))
    exact ⟨by omega, _, ⟨rfl, rfl, rfl, wrap_c (by omega), trivial⟩, hh, ats⟩
  · have hge : i = (join a b).length := by simp at hb; omega
    rw [hge, List.take_length] at hH
    refine W.exit ?_
    show W _ _ _ _
    repeat (first | refine wk1 ?_ | (apply WO.ci s138; (· exact lends)))
    exact W.ret (endQ.row (.inr rfl) rfl rfl hge.symm hh rfl)
end Go.Proofs.Ytgodaiiegcdpcaa.Abs.MC
end
section
set_option linter.unusedVariables false
set_option linter.unusedSimpArgs false
namespace Go.Proofs.Ytgodaiiegcdpcaa.Abs.MC
open Go.Proofs.Ytgodaiiegcdpcaa.Abs
set_option linter.unusedSimpArgs false
set_option linter.unusedVariables false
set_option maxRecDepth 10000
/-- The first write of each cell. -/
def memNew : Mem := List.replicate 24 [⟨0, List.replicate 24 0⟩]
def cell0 : List D := [rS [(⟨0, List.replicate 24 0⟩ : Write)]]
theorem own_cell {H : Heap} {e : Id} (hH : H e = some (co (List.replicate 24 (0 : Int)))) : Owns H [e] [.inl 2 1 [.int .i64 0, .ref e [] 1 0 24]] cell0 := by
  have h1 : Own H [e] (.ref e [] 1 0 24) (rS (List.replicate 24 (0 : Int))) := Own.ref (es := []) hH (by rw [dlen]; rfl) (by simp) (Owns.ow H _)
  have h2 : Owns H [e] [.int .i64 0, .ref e [] 1 0 24] [.int .i64 0, rS (List.replicate 24 (0 : Int))] := h1.one.con0 _ (.int .i64 0) rfl
  exact (Own.inl (sz := 2) (n := 1) h2).one
theorem flat_snoc {α : Type} {f : α → List D} {L : List α} {i : Nat} {x : α} (h : L[i]? = some x) : (L.take (i + 1)).flatMap f = (L.take i).flatMap f ++ f x := by rw [← snoc_take h]; simp
def RowN (H : Heap) (n : Nat) (c : C) (i : Nat) : Prop := (c = .nils ∧ i = 0) ∨ ∃ (e : Id) (es : List Id) (xs : List C), c = .ref e [] 1 0 i ∧ H e = some xs ∧ xs.length = i * 1 ∧ Owns H es xs ((memNew.take i).flatMap Enc.d) ∧ e.1 < n ∧ 2 < e.1 ∧ e ∉ es ∧ ∀ e' ∈ es, e'.1 < n ∧ 2 < e'.1
theorem s46 : Runs (gam code) (.fn 46 [] [] (.agg (owL (memD memNew))) []) := by
  refine W.is (fn := a46) rfl rfl ?_
  rw [start_im (by repeat (first | exact Pls.nil | refine Pls.c rfl ?_ | refine Pls.agg ?_))]
  simp only [a46]
  refine wk ?_
  refine W.for (fun i T H n => ∃ c, Ag [(0, .c (.ptr (1, 0, 0, 0) [] 0)), (1, .c (.ptr (2, 1, 0, 0) [] 0)), (2, .c (.int .i64 ((i : Nat) : Int)))] T ∧ H (1, 0, 0, 0) = some [.nils] ∧ H (2, 1, 0, 0) = some [c] ∧ RowN H n c i ∧ 2 < n) memNew.length ⟨.nils, ⟨rfl, rfl, rfl, trivial⟩, hh, hh, .inl ⟨rfl, rfl⟩, ats⟩ ?_
  rintro i T H n hi ⟨c, hT, hH0, hH2, hc, hn⟩
  have hl : memNew.length = 24 := by simp [memNew]
  obtain ⟨T, rfl⟩ := hT.fix
  simp only [ups]
  clear hT
  refine wk ?_
  refine W.if rfl (fun hb => ?_) (fun hb => ?_)
  · have hlt : i < memNew.length := by simp at hb; omega
    have hx : memNew[i]? = some [⟨0, List.replicate 24 0⟩] := by rw [memNew, List.getElem?_replicate, if_pos (by omega)]
    rcases hc with ⟨rfl, hcn⟩ | ⟨e, es, xs, rfl, hce, hxl, ho, hc2, hc3, hc4, hc5⟩
    · refine wk ?_
      refine WO.apgn rfl (by omega) rfl hh rfl rfl rfl (absorb_ref hh rfl) ?_
      refine wk ?_
      refine ⟨hlt, _, ⟨rfl, rfl, wrap_c (by omega), trivial⟩, hh, hh, .inr ⟨_, [(n + 1, 2, 0, 0)], _, by subst hcn; rfl, hh, by subst hcn; rfl, ?_, ats, ats, by simp, by intro e' he'; simp only [List.mem_singleton] at he'; subst he'; exact ⟨ats, ats⟩⟩, ats⟩
      subst hcn
      exact own_cell hh
    · refine wk ?_
      refine WO.apg rfl hh hxl (by omega) rfl hh rfl rfl rfl (absorb_ref hh rfl) ?_
      refine wk ?_
      refine ⟨hlt, _, ⟨rfl, rfl, wrap_c (by omega), trivial⟩, hh, hh, .inr ⟨_, es ++ [(n + 1, 2, 0, 0)], _, rfl, hh, by simp [hxl], ?_, ats, ats, ?_, ?_⟩, ats⟩
      · rw [flat_snoc hx]
        refine Owns.append (ho.mono fun e' he' => ?_) (own_cell hh) ?_
        · have h5 := hc5 e' he'
          have h6 : e' ≠ e := fun h => hc4 (h ▸ he')
          rw [up_ne (ne_id (by dsimp only; omega)) rfl, up_ne (ne_id (by dsimp only; omega)) rfl, up_ne (ne_id (by dsimp only; omega)) rfl, upd_ne _ _ h6, up_ne (ne_id (by dsimp only; omega)) rfl, up_ne (ne_id (by dsimp only; omega)) rfl, up_ne (ne_id (by dsimp only; omega)) rfl]
        · intro e' he' hm
          have h5 := hc5 e' he'
          simp only [List.mem_singleton] at hm
          subst hm
          dsimp only at h5
          omega
      · intro hm
        rcases List.mem_append.1 hm with hm | hm
        · have h5 := hc5 _ hm
          dsimp only at h5
          omega
        · simp at hm
      · intro e' hm
        rcases List.mem_append.1 hm with hm | hm
        · have h5 := hc5 _ hm
          exact ⟨ats, h5.2⟩
        · simp only [List.mem_singleton] at hm
          subst hm
          exact ⟨ats, ats⟩
  · have hge : i = memNew.length := by simp at hb; omega
    subst hge
    rcases hc with ⟨rfl, hcn⟩ | ⟨e, es, xs, rfl, hce, hxl, ho, hc2, hc3, hc4, hc5⟩
    · omega
    refine W.exit ?_
    show W _ _ _ _
    refine wk ?_
    rw [List.take_length] at ho
    have hown : Own (upd H (1, 0, 0, 0) (some [C.ref e [] 1 0 memNew.length])) (e :: es) (.ref e [] 1 0 memNew.length) (rS memNew) := by
      refine Own.ref hh (dlen _) hc4 (ho.mono fun e' he' => ?_)
      have h5 := hc5 e' he'
      exact up_ne (ne_id (by dsimp only; omega)) rfl
    exact W.ret (endQ.owns (.inr rfl) rfl hh rfl rfl hown.one rfl)
end Go.Proofs.Ytgodaiiegcdpcaa.Abs.MC
end
