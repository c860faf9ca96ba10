/- The program's functions, told in that language, and what each of them answers; each theorem bears its own conditions. -/
import Derived.Test.YtgodaiiegcdpcaaB2
section
set_option linter.unusedVariables false
set_option linter.unusedSimpArgs false
namespace Go.Proofs.Ytgodaiiegcdpcaa.Abs.MC
open Go.Proofs.Ytgodaiiegcdpcaa.Abs
set_option linter.unusedSimpArgs false
set_option linter.unusedVariables false
set_option maxRecDepth 10000
theorem s103 {fl : Bool} {m : Mach} {w : Int} (h : m.cores.length < 2 ^ 40) : Runs (gam code) (.fn 103 [.c (.iptr fl (imL fl m.d) 0), .c (.int .i64 w)] [] (.c (.bool (inn 0 ((m.cores.length : Int) - 1) w))) []) := by
  refine W.is (fn := a103) rfl rfl ?_
  rw [start_im (by repeat (first | exact Pls.nil | refine Pls.c rfl ?_ | refine Pls.agg ?_))]
  simp only [a103]
  repeat (first | refine wk1 ?_ | (apply WO.cb s50; (· exact lends)))
  rw [len1 h]
  exact W.ret (endQ.sc (.inr rfl) rfl rfl rfl)
theorem s106 {fl : Bool} {ds : List D} {m : Mem} {o i : Nat} (hd : ds[o]? = some (rS m)) (hi : i < m.length) : Runs (gam code) (.fn 106 [.c (.iptr fl (imL fl ds) o), .c (.int .i64 (i : Nat))] [] (.c (.bool (decide ((m[i].length : Int) < 4000)))) []) := by
  have hx : m[i]? = some m[i] := List.getElem?_eq_getElem hi
  have hc : (imL fl ds)[o]? = some ((rS m).im fl) := by rw [imL_map, List.getElem?_map, hd]; rfl
  refine W.is (fn := a106) rfl rfl ?_
  rw [start_im (by repeat (first | exact Pls.nil | refine Pls.c rfl ?_ | refine Pls.agg ?_))]
  simp only [a106]
  repeat (first | refine wk1 ?_ | (apply WO.cb s50; (· exact lends)))
  exact W.ret (endQ.sc (.inr rfl) rfl rfl rfl)
/-- A cell of a step of a core. -/
def cellAt (c : Core) (s : Step) : Int := if s.op ≠ 8 ∧ 0 ≤ s.a then IntKind.i64.wrap (s.n + c.regs.getD s.a.toNat 0) else s.n
theorem s105 {fl fl' : Bool} {L : List Core} {i : Nat} {c : Core} {s : Step} (hL : L[i]? = some c) (hr : c.regs.length = 8) (ha : s.a < 8) : Runs (gam code) (.fn 105 [.c (.iptr fl (cl fl L) (i * 4)), .agg (imL fl' (Enc.d s))] [] (.tup [.c (.int .i64 (cellAt c s)), .c (.bool (inn 0 23 (cellAt c s)))]) []) := by
  obtain ⟨op, r, a, b, n⟩ := s
  refine W.is (fn := a105) rfl rfl ?_
  rw [start_im (by repeat (first | exact Pls.nil | refine Pls.c rfl ?_ | refine Pls.agg ?_))]
  simp only [a105]
  dsimp only [Enc.d, imL, D.im]
  repeat (first | refine wk1 ?_ | (apply WO.cb s144; (· exact lends)))
  refine WO.gs rfl (fun hb => ?_) (fun hb => ?_)
  · have h1 : op = 8 := by simpa using hb
    repeat (first | refine wk1 ?_ | (apply WO.cb s144; (· exact lends)))
    exact W.ret (endQ.many (.inr rfl) ansr (by simp [cellAt, h1, inn]; rfl))
  have h1 : op ≠ 8 := by simpa using hb
  repeat (first | refine wk1 ?_ | (apply WO.cb s144; (· exact lends)))
  refine W.if rfl (fun hb => ?_) (fun hb => ?_)
  · have h2 : 0 ≤ a := by simpa using hb
    obtain ⟨a, rfl⟩ := Int.eq_ofNat_of_zero_le h2
    have h3 : a < c.regs.length := by dsimp only at ha; omega
    have h4 : c.regs[a]? = some c.regs[a] := List.getElem?_eq_getElem h3
    repeat (first | refine wk1 ?_ | (apply WO.cb s144; (· exact lends)))
    exact W.ret (endQ.many (.inr rfl) ansr (by simp [cellAt, h1, inn, h4]; rfl))
  · have h2 : ¬ 0 ≤ a := by simpa using hb
    repeat (first | refine wk1 ?_ | (apply WO.cb s144; (· exact lends)))
    exact W.ret (endQ.many (.inr rfl) ansr (by simp [cellAt, h1, h2, inn]; rfl))
end Go.Proofs.Ytgodaiiegcdpcaa.Abs.MC
end
section
set_option linter.unusedVariables false
set_option linter.unusedSimpArgs false
namespace Go.Proofs.Ytgodaiiegcdpcaa.Abs.MC
open Go.Proofs.Ytgodaiiegcdpcaa.Abs
set_option linter.unusedSimpArgs false
set_option linter.unusedVariables false
set_option maxRecDepth 10000
/-- Which write is read. -/
def ldAt (m : Mem) (view : List Int) (cell : Nat) (late : Int) : Nat := (max (((m.getD cell []).length : Int) - 1 - max late 0) (view.getD cell 0)).toNat
def mload (m : Mem) (view : List Int) (cell : Nat) (late : Int) (hold : Bool) : Int × List Int :=
  let w := (m.getD cell []).getD (ldAt m view cell late) default
  let out := view.set cell (ldAt m view cell late)
  (w.v, if hold then join out w.view else out)
theorem viewOk_get {m : Mem} {v : List Int} (h : viewOk m v = true) : v.length = m.length ∧ ∀ i (h1 : i < v.length) (h2 : i < m.length), 0 ≤ v[i] ∧ v[i] ≤ (m[i].length : Int) - 1 := by
  simp only [viewOk, Bool.and_eq_true, decide_eq_true_eq, List.all_eq_true] at h
  refine ⟨h.1, fun i h1 h2 => ?_⟩
  have h3 := h.2 (v[i], m[i]) (List.mem_of_getElem? (zip_get (List.getElem?_eq_getElem h1) (List.getElem?_eq_getElem h2)))
  simpa [inn] using h3
theorem s145 {fl fl' : Bool} {ds : List D} {m : Mem} {o : Nat} {view : List Int} {cell : Nat} {late : Int} {hold : Bool} (hd : ds[o]? = some (rS m)) (hm : m.sm) (hv : viewOk m view = true) (hc : cell < m.length) (hl1 : -(2 ^ 63) ≤ late) (hl2 : late < 2 ^ 63) :
    Runs (gam code) (.fn 145 [.c (.iptr fl (imL fl ds) o), .c (.imm fl' 1 view.length (cl fl' view)), .c (.int .i64 (cell : Nat)), .c (.int .i64 late), .c (.bool hold)] [] (.tup [.c (.int .i64 (mload m view cell late hold).1), .c (rS (mload m view cell late hold).2).ow]) []) := by
  have hx : m[cell]? = some m[cell] := List.getElem?_eq_getElem hc
  have hcs : (imL fl ds)[o]? = some ((rS m).im fl) := by rw [imL_map, List.getElem?_map, hd]; rfl
  obtain ⟨hvl, hvg⟩ := viewOk_get hv
  have hcv : cell < view.length := by omega
  have hy : view[cell]? = some view[cell] := List.getElem?_eq_getElem hcv
  have hg := hvg cell hcv hc
  have hcl := (hm.2 m[cell] (List.getElem_mem _)).1
  have hm1 := hm.1
  have hvl2 : view.length < 2 ^ 40 := by omega
  have hg1 : m.getD cell [] = m[cell] := by simp [List.getD, hx]
  have hg2 : view.getD cell 0 = view[cell] := by simp [List.getD, hy]
  have hat : max (IntKind.i64.wrap (IntKind.i64.wrap ((m[cell].length : Int) - 1) - max late 0)) view[cell] = ((ldAt m view cell late : Nat) : Int) := by
    rw [len1 hcl, wrap_in (by omega)]
    simp only [ldAt, hg1, hg2]
    omega
  have hlt : ldAt m view cell late < m[cell].length := by simp only [ldAt, hg1, hg2]; omega
  have hw : m[cell][ldAt m view cell late]? = some m[cell][ldAt m view cell late] := List.getElem?_eq_getElem hlt
  have hres : mload m view cell late hold = (m[cell][ldAt m view cell late].v, if hold then join (view.set cell (ldAt m view cell late)) m[cell][ldAt m view cell late].view else view.set cell (ldAt m view cell late)) := by
    simp only [mload, hg1, List.getD_eq_getElem?_getD, hw, Option.getD_some]
  rw [hres]
  generalize ldAt m view cell late = at' at *
  refine W.is (fn := a145) rfl rfl ?_
  rw [start_im (by repeat (first | exact Pls.nil | refine Pls.c rfl ?_ | refine Pls.agg ?_))]
  simp only [a145]
  repeat (first | refine wk1 ?_ | (apply WO.cr (s52 ?_); (· exact lends); rotate_left 1; (· assumption)) | (apply WO.cr (s171 ?_); (· exact lends); rotate_left 1; (· assumption)))
  rw [hat]
  have hs : (view.set cell (at' : Int)).length < 2 ^ 40 := by rw [List.length_set]; exact hvl2
  repeat (first | refine wk1 ?_ | (apply WO.cr (s52 ?_); (· exact lends); rotate_left 1; (· assumption)) | (apply WO.cr (s171 ?_); (· exact lends); rotate_left 1; (· assumption)))
  refine W.if rfl (fun hb => ?_) (fun hb => ?_)
  · subst hb
    repeat (first | refine wk1 ?_ | (apply WO.cr (s52 ?_); (· exact lends); rotate_left 1; (· assumption)) | (apply WO.cr (s171 ?_); (· exact lends); rotate_left 1; (· assumption)))
    repeat (first | refine wk1 ?_ | (apply WO.cr (s52 ?_); (· exact lends); rotate_left 1; (· assumption)) | (apply WO.cr (s171 ?_); (· exact lends); rotate_left 1; (· assumption)))
    exact W.ret (endQ.many (.inr rfl) (Ans.sc rfl rfl (Ans.row rfl rfl rfl hh Ans.nil)) rfl)
  · subst hb
    repeat (first | refine wk1 ?_ | (apply WO.cr (s52 ?_); (· exact lends); rotate_left 1; (· assumption)) | (apply WO.cr (s171 ?_); (· exact lends); rotate_left 1; (· assumption)))
    exact W.ret (endQ.many (.inr rfl) (Ans.sc rfl rfl (Ans.row rfl rfl (by simp) hh Ans.nil)) rfl)
theorem s155 {fl fl' : Bool} {m : Mem} {view : List Int} {cell : Nat} {late : Int} {hold : Bool} (hm : m.sm) (hv : viewOk m view = true) (hc : cell < m.length) (hl1 : -(2 ^ 63) ≤ late) (hl2 : late < 2 ^ 63) :
    Runs (gam code) (.fn 155 [.agg (imL fl (memD m)), .c (.imm fl' 1 view.length (cl fl' view)), .c (.int .i64 (cell : Nat)), .c (.int .i64 late), .c (.bool hold)] [] (.tup [.c (.int .i64 (mload m view cell late hold).1), .c (rS (mload m view cell late hold).2).ow]) []) := by
  have hx : m[cell]? = some m[cell] := List.getElem?_eq_getElem hc
  obtain ⟨hvl, hvg⟩ := viewOk_get hv
  have hcv : cell < view.length := by omega
  have hy : view[cell]? = some view[cell] := List.getElem?_eq_getElem hcv
  have hg := hvg cell hcv hc
  have hcl := (hm.2 m[cell] (List.getElem_mem _)).1
  have hm1 := hm.1
  have hvl2 : view.length < 2 ^ 40 := by omega
  have hg1 : m.getD cell [] = m[cell] := by simp [List.getD, hx]
  have hg2 : view.getD cell 0 = view[cell] := by simp [List.getD, hy]
  have hat : max (IntKind.i64.wrap (IntKind.i64.wrap ((m[cell].length : Int) - 1) - max late 0)) view[cell] = ((ldAt m view cell late : Nat) : Int) := by
    rw [len1 hcl, wrap_in (by omega)]
    simp only [ldAt, hg1, hg2]
    omega
  have hlt : ldAt m view cell late < m[cell].length := by simp only [ldAt, hg1, hg2]; omega
  have hw : m[cell][ldAt m view cell late]? = some m[cell][ldAt m view cell late] := List.getElem?_eq_getElem hlt
  have hres : mload m view cell late hold = (m[cell][ldAt m view cell late].v, if hold then join (view.set cell (ldAt m view cell late)) m[cell][ldAt m view cell late].view else view.set cell (ldAt m view cell late)) := by
    simp only [mload, hg1, List.getD_eq_getElem?_getD, hw, Option.getD_some]
  rw [hres]
  generalize ldAt m view cell late = at' at *
  refine W.is (fn := a155) rfl rfl ?_
  rw [start_im (by repeat (first | exact Pls.nil | refine Pls.c rfl ?_ | refine Pls.agg ?_))]
  simp only [a155]
  repeat (first | refine wk1 ?_ | (apply WO.ci s138; (· exact lends)) | (apply WO.cr (s182 ?_); (· exact lends); rotate_left 1; (· assumption)))
  rw [hat]
  have hs : (view.set cell (at' : Int)).length < 2 ^ 40 := by rw [List.length_set]; exact hvl2
  refine W.if rfl (fun hb => ?_) (fun hb => ?_)
  · subst hb
    repeat (first | refine wk1 ?_ | (apply WO.ci s138; (· exact lends)) | (apply WO.cr (s182 ?_); (· exact lends); rotate_left 1; (· assumption)))
    repeat (first | refine wk1 ?_ | (apply WO.ci s138; (· exact lends)) | (apply WO.cr (s182 ?_); (· exact lends); rotate_left 1; (· assumption)))
    exact W.ret (endQ.many (.inr rfl) (Ans.sc rfl rfl (Ans.row rfl rfl rfl hh Ans.nil)) rfl)
  · subst hb
    repeat (first | refine wk1 ?_ | (apply WO.ci s138; (· exact lends)) | (apply WO.cr (s182 ?_); (· exact lends); rotate_left 1; (· assumption)))
    exact W.ret (endQ.many (.inr rfl) (Ans.sc rfl rfl (Ans.row rfl rfl (by simp) hh Ans.nil)) rfl)
end Go.Proofs.Ytgodaiiegcdpcaa.Abs.MC
end
section
set_option linter.unusedVariables false
set_option linter.unusedSimpArgs false
namespace Go.Proofs.Ytgodaiiegcdpcaa.Abs.MC
open Go.Proofs.Ytgodaiiegcdpcaa.Abs
set_option linter.unusedSimpArgs false
set_option linter.unusedVariables false
set_option maxRecDepth 10000
def core0 : Core := ⟨0, List.replicate 8 0, List.replicate 24 0, 0⟩
def machNew (codes : List (List Step)) : Mach := ⟨codes, List.replicate codes.length core0, memNew, []⟩
/-- As it is answered. -/
def machNewD (codes : List (List Step)) : List D := if machOk (machNew codes) then [rS codes, rS (machNew codes).cores, rS memNew, .nil] else [.nil, .nil, .nil, .nil]
theorem memNew_sm : memNew.sm := by
  refine ⟨by simp [memNew], fun c hc => ?_⟩
  have h1 := List.eq_of_mem_replicate hc
  subst h1
  refine ⟨by simp, fun w hw => ?_⟩
  simp only [List.mem_singleton] at hw
  subst hw
  simp
theorem machNew_sm {codes : List (List Step)} (h1 : codes.length < 2 ^ 40) (h2 : ∀ L ∈ codes, L.length < 2 ^ 40) : (machNew codes).sm where
  codes := h1
  code := h2
  cores := by simpa [machNew] using h1
  core := fun c hc => by
    have h3 := List.eq_of_mem_replicate hc
    subst h3
    simp [core0]
  mem := memNew_sm
  trace := by simp [machNew]
theorem erl_last {a b c : D} {α : Type} [Enc α] : erL [a, b, c, .nil] [a, b, c, rS ([] : List α)] := by
  simp only [erL]
  exact ⟨_, _, rfl, er.refl _, _, _, rfl, er.refl _, _, _, rfl, er.refl _, _, _, rfl, .inr ⟨_, rfl⟩, rfl⟩
theorem s12 {fl : Bool} {codes : List (List Step)} (h1 : codes.length < 2 ^ 40) (h2 : ∀ L ∈ codes, L.length < 2 ^ 40) (h0 : codes ≠ []) :
    Runs (gam code) (.fn 12 [.c (.imm fl 1 codes.length (cl fl codes))] [] (.tup [.agg (owL (machNewD codes)), .c (.bool (machOk (machNew codes)))]) []) := by
  refine W.is (fn := a12) rfl rfl ?_
  rw [start_im (by repeat (first | exact Pls.nil | refine Pls.c rfl ?_ | refine Pls.agg ?_))]
  simp only [a12]
  repeat (first | refine wk1 ?_ | (apply WO.cr (s45 ?_ ?_); (· exact lends); rotate_left 1; (· assumption); (· assumption)) | (apply WO.ca s46; (· exact lends); (· exact brr)))
  refine W.for (fun i T H n => ∃ c, Ag [(0, .c (.imm fl 1 codes.length (cl fl codes))), (2, .c (.ptr (1, 0, 0, 0) [] 0)), (3, .c (.bool false)), (4, .c (.ptr (2, 4, 0, 0) [] 0)), (5, .c (.int .i64 ((i : Nat) : Int)))] T ∧ H (1, 0, 0, 0) = some [.nils, .nils, .nils, .nils] ∧
    H (2, 4, 0, 0) = some [.ref (2, 1, 0, 0) [] 1 0 codes.length, c, .ref (2, 2, 0, 0) [] 1 0 memNew.length, .nils] ∧ H (2, 1, 0, 0) = some (co codes) ∧ H (2, 2, 0, 0) = some (co memNew) ∧ RowI H 2 n c ((machNew codes).cores.take i) ∧ 2 < n) codes.length
    ⟨.nils, ⟨rfl, rfl, rfl, rfl, rfl, trivial⟩, hh, hh, hh, hh, .inl ⟨rfl, rfl⟩, ats⟩ ?_
  rintro i T H n hi ⟨c, hT, hH0, hH1, hH2, hH3, hc, hn⟩
  have hcl : (machNew codes).cores.length = codes.length := by simp [machNew]
  obtain ⟨T, rfl⟩ := hT.fix
  simp only [ups]
  clear hT
  repeat (first | refine wk1 ?_ | (apply WO.cr (s45 ?_ ?_); (· exact lends); rotate_left 1; (· assumption); (· assumption)) | (apply WO.ca s46; (· exact lends); (· exact brr)))
  refine W.if rfl (fun hb => ?_) (fun hb => ?_)
  · have hlt : i < codes.length := by simpa using hb
    have hx : (machNew codes).cores[i]? = some core0 := by rw [machNew, List.getElem?_replicate, if_pos hlt]
    rcases hc with ⟨rfl, hcn⟩ | ⟨e, rfl, hce, hc2, hc3⟩
    · repeat (first | refine wk1 ?_ | (apply WO.cr (s45 ?_ ?_); (· exact lends); rotate_left 1; (· assumption); (· assumption)) | (apply WO.ca s46; (· exact lends); (· exact brr)))
      refine WO.ap1n core0 rfl rfl (by omega) rfl hh abt ?_
      rw [show [core0] = (machNew codes).cores.take (i + 1) by rw [← snoc_take hx, hcn]; rfl]
      repeat (first | refine wk1 ?_ | (apply WO.cr (s45 ?_ ?_); (· exact lends); rotate_left 1; (· assumption); (· assumption)) | (apply WO.ca s46; (· exact lends); (· exact brr)))
      exact ⟨hlt, _, ⟨rfl, rfl, rfl, rfl, wrap_c (by omega), trivial⟩, hh, hh, hh, hh, .inr ⟨_, by rw [len_take (by omega)]; (have h9 : i = 0 := by (have := congrArg List.length hcn; rw [len_take (by omega)] at this; simpa using this)); subst h9; rfl, hh, ats, ats⟩, ats⟩
    · repeat (first | refine wk1 ?_ | (apply WO.cr (s45 ?_ ?_); (· exact lends); rotate_left 1; (· assumption); (· assumption)) | (apply WO.ca s46; (· exact lends); (· exact brr)))
      refine WO.ap1r core0 rfl hh rfl rfl (by rw [len_take (by omega)]; omega) rfl hh abt ?_
      rw [snoc_take hx]
      repeat (first | refine wk1 ?_ | (apply WO.cr (s45 ?_ ?_); (· exact lends); rotate_left 1; (· assumption); (· assumption)) | (apply WO.ca s46; (· exact lends); (· exact brr)))
      exact ⟨hlt, _, ⟨rfl, rfl, rfl, rfl, wrap_c (by omega), trivial⟩, hh, hh, hh, hh, .inr ⟨_, by rw [len_take (by omega), len_take (by omega)]; rfl, hh, ats, ats⟩, ats⟩
  have hge : i = codes.length := by simp at hb; omega
  subst hge
  rw [← hcl, List.take_length] at hc
  rcases hc with ⟨rfl, hcn⟩ | ⟨e, rfl, hce, hc2, hc3⟩
  · rw [hcn] at hcl; simp at hcl; exact absurd hcl.symm (by simpa using h0)
  refine W.exit ?_
  show W _ _ _ _
  repeat (first | refine wk1 ?_ | (apply WO.cr (s45 ?_ ?_); (· exact lends); rotate_left 1; (· assumption); (· assumption)) | (apply WO.ca s46; (· exact lends); (· exact brr)))
  refine WO.cb (s24 (fl := true) (m := machNew codes) (machNew_sm h1 h2)) (LA.cons (show Lend _ (.agg _) _ from Lend.abtE abt erl_last) LA.nil) ?_
  repeat (first | refine wk1 ?_ | (apply WO.cr (s45 ?_ ?_); (· exact lends); rotate_left 1; (· assumption); (· assumption)) | (apply WO.ca s46; (· exact lends); (· exact brr)))
  refine W.if rfl (fun hb => ?_) (fun hb => ?_)
  · have hk := not_t hb
    rw [machNewD, if_neg (by simp [hk]), hk]
    repeat (first | refine wk1 ?_ | (apply WO.cr (s45 ?_ ?_); (· exact lends); rotate_left 1; (· assumption); (· assumption)) | (apply WO.ca s46; (· exact lends); (· exact brr)))
    exact W.ret (endQ.many (.inr rfl) ansr rfl)
  · have hk := not_f hb
    rw [machNewD, if_pos hk, hk]
    repeat (first | refine wk1 ?_ | (apply WO.cr (s45 ?_ ?_); (· exact lends); rotate_left 1; (· assumption); (· assumption)) | (apply WO.ca s46; (· exact lends); (· exact brr)))
    exact W.ret (endQ.many (.inr rfl) ansr rfl)
end Go.Proofs.Ytgodaiiegcdpcaa.Abs.MC
end
section
set_option linter.unusedVariables false
set_option linter.unusedSimpArgs false
namespace Go.Proofs.Ytgodaiiegcdpcaa.Abs.MC
open Go.Proofs.Ytgodaiiegcdpcaa.Abs
set_option linter.unusedSimpArgs false
set_option linter.unusedVariables false
set_option maxRecDepth 10000
/-- A write behind all of a cell. -/
def mstore (m : Mem) (view : List Int) (cell : Nat) (v : Int) (letGo : Bool) : Mem × List Int :=
  let out := view.set cell ((m.getD cell []).length : Int)
  (m.set cell (m.getD cell [] ++ [⟨v, if letGo then out else (List.replicate 24 0).set cell ((m.getD cell []).length : Int)⟩]), out)
theorem mstore_eq {m : Mem} {view : List Int} {cell : Nat} {v : Int} {letGo : Bool} (hx : m[cell]? = some m[cell]!) : mstore m view cell v letGo =
    (m.set cell (m[cell]! ++ [⟨v, if letGo then view.set cell (m[cell]!.length : Int) else (List.replicate 24 0).set cell (m[cell]!.length : Int)⟩]), view.set cell (m[cell]!.length : Int)) := by
  simp only [mstore, List.getD_eq_getElem?_getD, hx, Option.getD_some]
theorem s146 {fl : Bool} {m : Mem} {view : List Int} {cell : Nat} {v : Int} {letGo : Bool} (hm : m.sm) (hml : m.length = 24) (hvl : view.length = 24) (hc : cell < 24) :
    Runs (gam code) (.fn 146 [.c (.ptr (0, 0, 0, 0) [] 0), .c (.imm fl 1 view.length (cl fl view)), .c (.int .i64 (cell : Nat)), .c (.int .i64 v), .c (.bool letGo)] [owL (memD m)] (.c (rS (mstore m view cell v letGo).2).ow) [owL (memD (mstore m view cell v letGo).1)]) := by
  have hcm : cell < m.length := by omega
  have hx : m[cell]? = some m[cell] := List.getElem?_eq_getElem hcm
  have hx0 : m[cell]! = m[cell] := by simp [List.getElem!_eq_getElem?_getD, hx]
  have hvl2 : view.length < 2 ^ 40 := by omega
  have hcv : cell < view.length := by omega
  rw [mstore_eq (by rw [hx0]; exact hx), hx0]
  have hb1 := (hm.2 m[cell] (List.getElem_mem _)).1
  generalize hrow : m[cell] = row at *
  suffices h : ∃ v' ds, (v' = .c (rS (view.set cell (row.length : Int))).ow ∧ ds = memD (m.set cell (row ++ [⟨v, if letGo then view.set cell (row.length : Int) else (List.replicate 24 0).set cell (row.length : Int)⟩]))) ∧ Runs (gam code) (.fn 146 [.c (.ptr (0, 0, 0, 0) [] 0), .c (.imm fl 1 view.length (cl fl view)), .c (.int .i64 (cell : Nat)), .c (.int .i64 v), .c (.bool letGo)] [owL (memD m)] v' [owL ds]) by
    obtain ⟨_, _, ⟨rfl, rfl⟩, h2⟩ := h
    exact h2
  refine W.root (fn := a146) rfl rfl ?_
  rw [start_im (by repeat (first | exact Pls.nil | refine Pls.c rfl ?_ | refine Pls.agg ?_))]
  simp only [a146]
  refine W.det0 (e := (0, 0, 0, 0)) (j := 0) (ys := co m) (zs := [.ref (1, 0, 0, 0) [] 1 0 m.length]) hh rfl rfl ?_
  rw [seg_co hx]
  refine W.detS (e := (1, 0, 0, 0)) (q := cell) (j := 0) (L := m) (ys := co row) (zs := [.ref (2, 0, 0, 0) [] 2 0 row.length]) hh rfl hcm rfl rfl rfl rfl ?_
  repeat (first | refine wk1 ?_ | (apply WO.cr (s52 ?_); (· exact lends); rotate_left 1; (· assumption)))
  have hvs : (view.set cell (row.length : Int))[cell]? = some (row.length : Int) := by rw [List.getElem?_set_self hcv]
  repeat (first | refine wk1 ?_ | (apply WO.cr (s52 ?_); (· exact lends); rotate_left 1; (· assumption)))
  have hvl3 : (view.set cell (row.length : Int)).length < 2 ^ 40 := by rw [List.length_set]; exact hvl2
  refine W.if rfl (fun hb => ?_) (fun hb => ?_)
  · subst hb
    repeat (first | refine wk1 ?_ | (apply WO.cr (s52 ?_); (· exact lends); rotate_left 1; (· assumption)))
    refine WO.ap1r (⟨v, view.set cell (row.length : Int)⟩ : Write) rfl hh rfl rfl (by omega) rfl hh abt ?_
    repeat (first | refine wk1 ?_ | (apply WO.cr (s52 ?_); (· exact lends); rotate_left 1; (· assumption)))
    exact W.ret ⟨.inr rfl, _, _, _, _, _, Ans.row (L := view.set cell (row.length : Int)) rfl rfl (by simp) hh Ans.nil, hh, (own_seg (x' := row ++ [⟨v, view.set cell (row.length : Int)⟩]) hh rfl rfl hcm (by simp) (own_row hh rfl (by simp)).one).one, rfl, rfl⟩
  · subst hb
    repeat (first | refine wk1 ?_ | (apply WO.cr (s52 ?_); (· exact lends); rotate_left 1; (· assumption)))
    refine WO.ap1r (⟨v, (List.replicate 24 0).set cell (row.length : Int)⟩ : Write) rfl hh rfl rfl (by omega) rfl hh (AbT.int (AbT.row hh rfl (by simp) AbT.nil)) ?_
    repeat (first | refine wk1 ?_ | (apply WO.cr (s52 ?_); (· exact lends); rotate_left 1; (· assumption)))
    exact W.ret ⟨.inr rfl, _, _, _, _, _, Ans.row (L := view.set cell (row.length : Int)) rfl rfl (by simp) hh Ans.nil, hh, (own_seg (x' := row ++ [⟨v, (List.replicate 24 0).set cell (row.length : Int)⟩]) hh rfl rfl hcm (by simp) (own_row hh rfl (by simp)).one).one, rfl, rfl⟩
end Go.Proofs.Ytgodaiiegcdpcaa.Abs.MC
end
section
set_option linter.unusedVariables false
set_option linter.unusedSimpArgs false
namespace Go.Proofs.Ytgodaiiegcdpcaa.Abs.MC
open Go.Proofs.Ytgodaiiegcdpcaa.Abs
set_option linter.unusedSimpArgs false
set_option linter.unusedVariables false
set_option maxRecDepth 10000
theorem s156 {fl : Bool} {m : Mem} {view : List Int} {cell : Nat} {v : Int} {letGo : Bool} (hm : m.sm) (hml : m.length = 24) (hvl : view.length = 24) (hc : cell < 24) :
    Runs (gam code) (.fn 156 [.agg (owL (memD m)), .c (.imm fl 1 view.length (cl fl view)), .c (.int .i64 (cell : Nat)), .c (.int .i64 v), .c (.bool letGo)] [] (.tup [.agg (owL (memD (mstore m view cell v letGo).1)), .c (rS (mstore m view cell v letGo).2).ow]) []) := by
  have hcm : cell < m.length := by omega
  have hx : m[cell]? = some m[cell] := List.getElem?_eq_getElem hcm
  have hx0 : m[cell]! = m[cell] := by simp [List.getElem!_eq_getElem?_getD, hx]
  have hvl2 : view.length < 2 ^ 40 := by omega
  have hcv : cell < view.length := by omega
  rw [mstore_eq (by rw [hx0]; exact hx), hx0]
  have hb1 := (hm.2 m[cell] (List.getElem_mem _)).1
  generalize hrow : m[cell] = row at *
  refine W.is (fn := a156) rfl rfl ?_
  rw [show start [.agg (owL (memD m)), .c (.imm fl 1 view.length (cl fl view)), .c (.int .i64 (cell : Nat)), .c (.int .i64 v), .c (.bool letGo)] [] = ⟨fun t => [.agg [.ref (0, 1, 0, 0) [] 1 0 m.length], .c (.imm fl 1 view.length (cl fl view)), .c (.int .i64 (cell : Nat)), .c (.int .i64 v), .c (.bool letGo)].getD t (.c .dead), upd (fun _ => none) (0, 1, 0, 0) (some (co m)), 1⟩ from rfl]
  simp only [a156]
  rw [seg_co hx]
  refine W.detS (e := (0, 1, 0, 0)) (q := cell) (j := 0) (L := m) (ys := co row) (zs := [.ref (1, 0, 0, 0) [] 2 0 row.length]) hh rfl hcm rfl rfl rfl rfl ?_
  refine wk ?_
  have hvs : (view.set cell (row.length : Int))[cell]? = some (row.length : Int) := by rw [List.getElem?_set_self hcv]
  refine wk ?_
  have hvl3 : (view.set cell (row.length : Int)).length < 2 ^ 40 := by rw [List.length_set]; exact hvl2
  refine W.if rfl (fun hb => ?_) (fun hb => ?_)
  · subst hb
    refine wk ?_
    refine WO.ap1r (⟨v, view.set cell (row.length : Int)⟩ : Write) rfl hh rfl rfl (by omega) rfl hh (AbT.int (AbT.row (L := view.set cell (row.length : Int)) hh rfl (by simp) AbT.nil)) ?_
    refine wk ?_
    exact W.ret (endQ.many (.inr rfl) (Ans.cello rfl hh rfl rfl (own_seg (x' := row ++ [⟨v, view.set cell (row.length : Int)⟩]) hh rfl rfl hcm (by simp) (own_row hh rfl (by simp)).one).one (Ans.row (L := view.set cell (row.length : Int)) rfl rfl (by simp) hh Ans.nil)) rfl)
  · subst hb
    refine wk ?_
    refine WO.ap1r (⟨v, (List.replicate 24 0).set cell (row.length : Int)⟩ : Write) rfl hh rfl rfl (by omega) rfl hh (AbT.int (AbT.row (L := (List.replicate 24 0).set cell (row.length : Int)) hh rfl (by simp) AbT.nil)) ?_
    refine wk ?_
    exact W.ret (endQ.many (.inr rfl) (Ans.cello rfl hh rfl rfl (own_seg (x' := row ++ [⟨v, (List.replicate 24 0).set cell (row.length : Int)⟩]) hh rfl rfl hcm (by simp) (own_row hh rfl (by simp)).one).one (Ans.row (L := view.set cell (row.length : Int)) rfl rfl (by simp) hh Ans.nil)) rfl)
end Go.Proofs.Ytgodaiiegcdpcaa.Abs.MC
end
section
set_option linter.unusedVariables false
set_option linter.unusedSimpArgs false
namespace Go.Proofs.Ytgodaiiegcdpcaa.Abs.MC
open Go.Proofs.Ytgodaiiegcdpcaa.Abs
set_option linter.unusedSimpArgs false
set_option linter.unusedVariables false
set_option maxRecDepth 10000
/-! ### one step of a machine -/
def wr64 (n : Int) : Int := IntKind.i64.wrap n
/-- On to a step, or over the end. -/
def goOn (m : Mach) (who : Nat) (c : Core) (next : Int) : Mach × Int :=
  (⟨m.codes, m.cores.set who (if ((m.codes.getD who []).length : Int) ≤ next then ⟨c.at', c.regs, c.view, 2⟩ else ⟨next, c.regs, c.view, c.state⟩), m.mem, m.trace⟩, 0)
def rest (m : Mach) (who : Nat) (c : Core) (st : Int) : Mach × Int := (⟨m.codes, m.cores.set who ⟨c.at', c.regs, c.view, st⟩, m.mem, m.trace⟩, 0)
def rg (c : Core) (r : Int) : Int := c.regs.getD r.toNat 0
def rset (c : Core) (r v : Int) : Core := ⟨c.at', c.regs.set r.toNat v, c.view, c.state⟩
/-- A step that reads or writes memory. -/
def mmem (m : Mach) (who : Nat) (late : Int) (c : Core) (s : Step) : Mach × Int :=
  if inn 0 23 (cellAt c s) = false then rest m who c 2 else
  if s.op ≠ 5 ∧ ¬ ((m.mem.getD (cellAt c s).toNat []).length : Int) < 4000 then (m, 3) else
  if s.op = 5 then let r := mload m.mem c.view (cellAt c s).toNat late false; goOn m who ⟨c.at', c.regs.set s.r.toNat r.1, r.2, c.state⟩ (c.at' + 1) else
  if s.op = 8 then
    let r := mload m.mem c.view (cellAt c s).toNat 0 true
    let w := mstore m.mem r.2 (cellAt c s).toNat (rg c s.b) true
    goOn ⟨m.codes, m.cores, w.1, m.trace⟩ who ⟨c.at', c.regs.set s.r.toNat r.1, w.2, c.state⟩ (c.at' + 1)
  else
    let w := mstore m.mem c.view (cellAt c s).toNat (rg c s.b) (s.op == 7)
    goOn ⟨m.codes, m.cores, w.1, m.trace⟩ who ⟨c.at', c.regs, w.2, c.state⟩ (c.at' + 1)
def mdo (m : Mach) (who : Nat) (late : Int) (c : Core) (s : Step) : Mach × Int :=
  if s.op = 1 then goOn m who (rset c s.r s.n) (c.at' + 1)
  else if s.op = 2 then goOn m who (rset c s.r (wr64 (rg c s.a + rg c s.b))) (c.at' + 1)
  else if s.op = 3 then goOn m who (rset c s.r (wr64 (rg c s.a - rg c s.b))) (c.at' + 1)
  else if s.op = 4 then goOn m who (rset c s.r (bit (decide (rg c s.a < rg c s.b)))) (c.at' + 1)
  else if s.op = 5 ∨ s.op = 6 ∨ s.op = 7 ∨ s.op = 8 then mmem m who late c s
  else if s.op = 9 then (if m.trace.length = 4000 then (m, 3) else goOn ⟨m.codes, m.cores, m.mem, m.trace ++ [⟨who, rg c s.a⟩]⟩ who c (c.at' + 1))
  else if s.op = 10 then goOn m who c s.n
  else if s.op = 11 then goOn m who c (if rg c s.a = 0 then s.n else c.at' + 1)
  else if s.op = 12 then rest m who c 1 else rest m who c 2
def mstep (m : Mach) (x : Pick) : Mach × Int :=
  if inn 0 ((m.cores.length : Int) - 1) x.who = false then (m, 2) else
  let c := m.cores.getD x.who.toNat ⟨0, [], [], 0⟩
  if c.state ≠ 0 then (m, 3) else mdo m x.who.toNat x.late c ((m.codes.getD x.who.toNat []).getD c.at'.toNat default)

/-- What is known of a core that steps. -/
structure Ready (m : Mach) (who : Nat) (c : Core) (L : List Step) (s : Step) : Prop where
  hc : m.cores[who]? = some c
  hL : m.codes[who]? = some L
  at0 : 0 ≤ c.at'
  hs : L[c.at'.toNat]? = some s
  regs : c.regs.length = 8
  view : viewOk m.mem c.view = true
  mem : m.mem.length = 24
  r : 0 ≤ s.r ∧ s.r ≤ 7
  a : (if 5 ≤ s.op ∧ s.op ≤ 7 then -1 else 0) ≤ s.a ∧ s.a ≤ 7
  b : 0 ≤ s.b ∧ s.b ≤ 7
  op : 1 ≤ s.op ∧ s.op ≤ 13
theorem machOk_ready {m : Mach} (h : machOk m = true) {who : Nat} (hw : who < m.cores.length) : ∃ c L s, Ready m who c L s := by
  simp only [machOk, Bool.and_eq_true, decide_eq_true_eq, List.all_eq_true] at h
  obtain ⟨⟨⟨⟨h1, h2⟩, h3⟩, h4⟩, h5⟩ := h
  have hw2 : who < m.codes.length := by omega
  have hx : m.cores[who]? = some m.cores[who] := List.getElem?_eq_getElem hw
  have hy : m.codes[who]? = some m.codes[who] := List.getElem?_eq_getElem hw2
  have h6 := h5 (m.cores[who], m.codes[who]) (List.mem_of_getElem? (zip_get hx hy))
  simp only [coreOk, codeOk', inn, Bool.and_eq_true, decide_eq_true_eq, List.all_eq_true] at h6
  obtain ⟨⟨⟨⟨⟨⟨q1, q2⟩, q3⟩, q4⟩, q5⟩, q6⟩, q7⟩ := h6
  have q8 : m.cores[who].at'.toNat < m.codes[who].length := by omega
  have q9 := q2 m.codes[who][m.cores[who].at'.toNat] (List.getElem_mem _)
  simp only [stepOk, inn, Bool.and_eq_true, decide_eq_true_eq] at q9
  obtain ⟨⟨⟨⟨⟨p1, p2⟩, p3⟩, p4⟩, p5⟩, p6⟩ := q9
  simp only [memOk, Bool.and_eq_true, decide_eq_true_eq] at h3
  exact ⟨_, _, _, hx, hy, q5.1, List.getElem?_eq_getElem q8, q4, q7, h3.1, p3, p4, p5, p1⟩
theorem getD_some {α : Type} {L : List α} {i : Nat} {x d : α} (h : L[i]? = some x) : L.getD i d = x := by simp [List.getD_eq_getElem?_getD, h]
/-- What the root of a step holds at its end. -/
theorem root_own {H : Heap} {m : Mach} {q kc kk lL lr lv : Nat} {L : List Step} {e6 e7 e3 er ev' : Id} {a s : Int} {regs view : List Int} {mem : Mem} {trace : List Note} {em et : List Id} {cm ct : C}
    (h6 : H e6 = some (seg m.codes q [.ref e7 [] 5 0 lL])) (h7 : H e7 = some (co L)) (hL : m.codes[q]? = some L) (hlL : L.length = lL) (hkc : m.codes.length = kc)
    (h3 : H e3 = some (seg m.cores q [.int .i64 a, .ref er [] 1 0 lr, .ref ev' [] 1 0 lv, .int .i64 s])) (hr : H er = some (co regs)) (hlr : regs.length = lr) (hv : H ev' = some (co view)) (hlv : view.length = lv) (hkk : m.cores.length = kk) (hq : q < m.cores.length)
    (hm : Own H em cm (rS mem)) (ht : Own H et ct (rS trace)) (hn : (([e6, e7] ++ ([e3, er, ev'] ++ em)) ++ et).Nodup) :
    Owns H ([e6, e7] ++ ([e3, er, ev'] ++ (em ++ et))) [.ref e6 [] 1 0 kc, .ref e3 [] 4 0 kk, cm, ct] (⟨m.codes, m.cores.set q ⟨a, regs, view, s⟩, mem, trace⟩ : Mach).d := by
  subst hlr hlv hlL
  have n1 := List.nodup_append.1 hn
  have n2 := List.nodup_append.1 n1.1
  have n3 := List.nodup_append.1 n2.2.1
  have n4 := n2.1
  have n5 := n3.1
  simp only [List.nodup_cons, List.mem_cons, List.not_mem_nil, or_false, not_or, List.nodup_nil, and_true, not_false_eq_true] at n4 n5
  have k6 : Own H [e6, e7] (.ref e6 [] 1 0 kc) (rS m.codes) := by
    have h := own_seg (L := m.codes) (q := q) (x' := L) h6 rfl hkc (List.getElem?_eq_some_iff.1 hL).1 (by simpa using n4) (own_row h7 rfl rfl).one
    have e : m.codes.set q L = m.codes := by
      obtain ⟨hlt, rfl⟩ := List.getElem?_eq_some_iff.1 hL
      exact List.set_getElem_self hlt
    rwa [e] at h
  have kr : Owns H [er, ev'] [.int .i64 a, .ref er [] 1 0 regs.length, .ref ev' [] 1 0 view.length, .int .i64 s] (Enc.d (⟨a, regs, view, s⟩ : Core)) := by
    have t1 : Owns H [] [.int .i64 s] [.int .i64 s] := Owns.con0 _ (.int .i64 s) rfl .nil
    have t2 : Owns H [ev'] [.ref ev' [] 1 0 view.length, .int .i64 s] [rS view, .int .i64 s] := by
      have := owns_con (own_row (sz := 1) hv rfl rfl) t1 (by simp)
      rwa [List.append_nil] at this
    have t3 := owns_con (own_row hr rfl rfl) t2 (by simpa using n5.2)
    exact Owns.con0 _ (.int .i64 a) rfl t3
  have k3 : Own H [e3, er, ev'] (.ref e3 [] 4 0 kk) (rS (m.cores.set q ⟨a, regs, view, s⟩)) := own_seg h3 rfl hkk hq (by simpa using n5.1) kr
  have t1 : Owns H (em ++ et) [cm, ct] [rS mem, rS trace] := owns_con hm ht.one fun e he he2 => n1.2.2 e (by simp [he]) e he2 rfl
  have t2 := owns_con k3 t1 fun e he he2 => by
    rcases List.mem_append.1 he2 with h | h
    · exact n3.2.2 e he e h rfl
    · exact n1.2.2 e (by simp only [List.mem_append]; exact .inr (.inl he)) e h rfl
  exact owns_con k6 t2 fun e he he2 => by
    rcases List.mem_append.1 he2 with h | h
    · exact n2.2.2 e he e (List.mem_append.2 (.inl h)) rfl
    · rcases List.mem_append.1 h with h | h
      · exact n2.2.2 e he e (List.mem_append.2 (.inr h)) rfl
      · exact n1.2.2 e (List.mem_append.2 (.inl he)) e h rfl
theorem set_self {α : Type} {L : List α} {q : Nat} {x : α} (h : L[q]? = some x) : L.set q x = L := by
  obtain ⟨hlt, rfl⟩ := List.getElem?_eq_some_iff.1 h
  exact List.set_getElem_self hlt
theorem core_owns {H : Heap} {er ev' : Id} {a s : Int} {regs view : List Int} {lr lv : Nat} (hr : H er = some (co regs)) (hlr : regs.length = lr) (hv : H ev' = some (co view)) (hlv : view.length = lv) (hn : er ≠ ev') :
    Owns H [er, ev'] [.int .i64 a, .ref er [] 1 0 lr, .ref ev' [] 1 0 lv, .int .i64 s] (Enc.d (⟨a, regs, view, s⟩ : Core)) := by
  subst hlr hlv
  have t1 : Owns H [] [.int .i64 s] [.int .i64 s] := Owns.con0 _ (.int .i64 s) rfl .nil
  have t2 : Owns H [ev'] [.ref ev' [] 1 0 view.length, .int .i64 s] [rS view, .int .i64 s] := by
    have := owns_con (own_row (sz := 1) hv rfl rfl) t1 (by simp)
    rwa [List.append_nil] at this
  have t3 := owns_con (own_row hr rfl rfl) t2 (by simpa using hn)
  exact Owns.con0 _ (.int .i64 a) rfl t3
theorem root_same {H : Heap} {m : Mach} {q kc kk lL lr lv : Nat} {L : List Step} {e6 e7 e3 er ev' : Id} {a s : Int} {regs view : List Int} {em et : List Id} {cm ct : C} (hc : m.cores[q]? = some ⟨a, regs, view, s⟩)
    (h6 : H e6 = some (seg m.codes q [.ref e7 [] 5 0 lL])) (h7 : H e7 = some (co L)) (hL : m.codes[q]? = some L) (hlL : L.length = lL) (hkc : m.codes.length = kc)
    (h3 : H e3 = some (seg m.cores q [.int .i64 a, .ref er [] 1 0 lr, .ref ev' [] 1 0 lv, .int .i64 s])) (hr : H er = some (co regs)) (hlr : regs.length = lr) (hv : H ev' = some (co view)) (hlv : view.length = lv) (hkk : m.cores.length = kk)
    (hm : Own H em cm (rS m.mem)) (ht : Own H et ct (rS m.trace)) (hn : (([e6, e7] ++ ([e3, er, ev'] ++ em)) ++ et).Nodup) :
    Owns H ([e6, e7] ++ ([e3, er, ev'] ++ (em ++ et))) [.ref e6 [] 1 0 kc, .ref e3 [] 4 0 kk, cm, ct] m.d := by
  have h := root_own h6 h7 hL hlL hkc h3 hr hlr hv hlv hkk (List.getElem?_eq_some_iff.1 hc).1 hm ht hn
  rw [set_self hc] at h
  exact h
theorem goOn_end {m : Mach} {q : Nat} {c : Core} {L : List Step} {next : Int} (hL : m.codes[q]? = some L) (h : (L.length : Int) ≤ next) : goOn m q c next = (⟨m.codes, m.cores.set q ⟨c.at', c.regs, c.view, 2⟩, m.mem, m.trace⟩, 0) := by
  rw [goOn, getD_some hL, if_pos h]
theorem goOn_go {m : Mach} {q : Nat} {c : Core} {L : List Step} {next : Int} (hL : m.codes[q]? = some L) (h : ¬ (L.length : Int) ≤ next) : goOn m q c next = (⟨m.codes, m.cores.set q ⟨next, c.regs, c.view, c.state⟩, m.mem, m.trace⟩, 0) := by
  rw [goOn, getD_some hL, if_neg h]
theorem memOk_view {m : Mem} (h : memOk m = true) : ∀ c ∈ m, ∀ w ∈ c, w.view.length = 24 := by
  intro c hc w hw
  simp only [memOk, Bool.and_eq_true, decide_eq_true_eq, List.all_eq_true] at h
  have h1 := h.2 c hc
  simp only [cellOk, Bool.and_eq_true, List.all_eq_true] at h1
  have h2 := (viewOk_get (h1.2 w hw)).1
  omega
theorem machOk_mem {m : Mach} (h : machOk m = true) : memOk m.mem = true := by
  simp only [machOk, Bool.and_eq_true] at h
  exact h.1.1.2
theorem mload_len {m : Mem} {view : List Int} {cell : Nat} {late : Int} {hold : Bool} (hm : memOk m = true) (hv : view.length = 24) (hc : cell < m.length) (hlt : ldAt m view cell late < m[cell].length) : (mload m view cell late hold).2.length = 24 := by
  have hx : m[cell]? = some m[cell] := List.getElem?_eq_getElem hc
  have hw : m[cell][ldAt m view cell late]? = some m[cell][ldAt m view cell late] := List.getElem?_eq_getElem hlt
  have h1 := memOk_view hm m[cell] (List.getElem_mem _) m[cell][ldAt m view cell late] (List.getElem_mem _)
  simp only [mload, List.getD_eq_getElem?_getD, hx, Option.getD_some, hw]
  cases hold
  · simp [hv]
  · simp [join_len, hv, h1]
theorem ldAt_lt {m : Mem} {view : List Int} {cell : Nat} {late : Int} (hv : viewOk m view = true) (hc : cell < m.length) : ldAt m view cell late < m[cell].length := by
  have hx : m[cell]? = some m[cell] := List.getElem?_eq_getElem hc
  obtain ⟨hvl, hvg⟩ := viewOk_get hv
  have hcv : cell < view.length := by omega
  have hy : view[cell]? = some view[cell] := List.getElem?_eq_getElem hcv
  have hg := hvg cell hcv hc
  simp only [ldAt, List.getD_eq_getElem?_getD, hx, hy, Option.getD_some]
  omega
theorem mem_cell {m : Mach} {cell : Nat} (hc : cell < m.mem.length) : (m.mem.getD cell []) = m.mem[cell] := by simp [List.getD_eq_getElem?_getD, List.getElem?_eq_getElem hc]
end Go.Proofs.Ytgodaiiegcdpcaa.Abs.MC
end
