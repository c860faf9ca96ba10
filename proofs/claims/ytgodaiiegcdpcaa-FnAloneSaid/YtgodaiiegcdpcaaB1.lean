/- The program's functions, told in that language, and what each of them answers; each theorem bears its own conditions. -/
import Derived.Test.YtgodaiiegcdpcaaB0
section
set_option linter.unusedVariables false
set_option linter.unusedSimpArgs false
namespace Go.Proofs.Ytgodaiiegcdpcaa.Abs.MC
open Go.Proofs.Ytgodaiiegcdpcaa.Abs
set_option linter.unusedSimpArgs false
set_option linter.unusedVariables false
set_option maxRecDepth 10000
theorem s50 {n lo hi : Int} : Runs (gam code) (.fn 50 [.c (.int .i64 n), .c (.int .i64 lo), .c (.int .i64 hi)] [] (.c (.bool (decide (lo ≤ n) && decide (n ≤ hi)))) []) := by
  refine W.is (fn := a50) rfl rfl ?_
  rw [start_im (by repeat (first | exact Pls.nil | refine Pls.c rfl ?_ | refine Pls.agg ?_))]
  simp only [a50]
  refine wk ?_
  generalize decide (lo ≤ n) = b
  cases b
  · refine wk ?_
    exact W.ret (endQ.sc (.inr rfl) rfl rfl rfl)
  · refine wk ?_
    exact W.ret (endQ.sc (.inr rfl) rfl rfl rfl)
theorem s63 {n lo hi : Int} : Runs (gam code) (.fn 63 [.c (.int .i64 n), .c (.int .i64 lo), .c (.int .i64 hi)] [] (.c (.bool (decide (lo ≤ n) && decide (n ≤ hi)))) []) := by
  refine W.is (fn := a63) rfl rfl ?_
  rw [start_im (by repeat (first | exact Pls.nil | refine Pls.c rfl ?_ | refine Pls.agg ?_))]
  simp only [a63]
  refine wk ?_
  generalize decide (lo ≤ n) = b
  cases b
  · refine wk ?_
    exact W.ret (endQ.sc (.inr rfl) rfl rfl rfl)
  · refine wk ?_
    exact W.ret (endQ.sc (.inr rfl) rfl rfl rfl)
theorem s144 {n : Int} : Runs (gam code) (.fn 144 [.c (.int .i64 n)] [] (.c (.bool (decide (0 ≤ n) && decide (n ≤ 23)))) []) := by
  refine W.is (fn := a144) rfl rfl ?_
  rw [start_im (by repeat (first | exact Pls.nil | refine Pls.c rfl ?_ | refine Pls.agg ?_))]
  simp only [a144]
  repeat (first | refine wk1 ?_ | (apply WO.cb s50; (· exact lends)) | (apply WO.cb s63; (· exact lends)))
  exact W.ret (endQ.sc (.inr rfl) rfl rfl rfl)
theorem s158 {n : Int} : Runs (gam code) (.fn 158 [.c (.int .i64 n)] [] (.c (.bool (decide (0 ≤ n) && decide (n ≤ 7)))) []) := by
  refine W.is (fn := a158) rfl rfl ?_
  rw [start_im (by repeat (first | exact Pls.nil | refine Pls.c rfl ?_ | refine Pls.agg ?_))]
  simp only [a158]
  repeat (first | refine wk1 ?_ | (apply WO.cb s50; (· exact lends)) | (apply WO.cb s63; (· exact lends)))
  exact W.ret (endQ.sc (.inr rfl) rfl rfl rfl)
/-- 1 or 0. -/
def bit (b : Bool) : Int := if b then 1 else 0
theorem s104 {b : Bool} : Runs (gam code) (.fn 104 [.c (.bool b)] [] (.c (.int .i64 (bit b))) []) := by
  refine W.is (fn := a104) rfl rfl ?_
  rw [start_im (by repeat (first | exact Pls.nil | refine Pls.c rfl ?_ | refine Pls.agg ?_))]
  simp only [a104]
  refine wk ?_
  refine W.cond b rfl ?_
  cases b
  · simp only [Bool.false_eq_true, if_false]
    refine W.skip ?_
    refine wk ?_
    exact W.ret (endQ.sc (.inr rfl) rfl rfl rfl)
  · simp only [if_true]
    refine wk ?_
    exact W.ret (endQ.sc (.inr rfl) rfl rfl rfl)
theorem s117 {b : Bool} : Runs (gam code) (.fn 117 [.c (.bool b)] [] (.c (.int .i64 (bit b))) []) := by
  refine W.is (fn := a117) rfl rfl ?_
  rw [start_im (by repeat (first | exact Pls.nil | refine Pls.c rfl ?_ | refine Pls.agg ?_))]
  simp only [a117]
  refine wk ?_
  refine W.cond b rfl ?_
  cases b
  · simp only [Bool.false_eq_true, if_false]
    refine W.skip ?_
    refine wk ?_
    exact W.ret (endQ.sc (.inr rfl) rfl rfl rfl)
  · simp only [if_true]
    refine wk ?_
    exact W.ret (endQ.sc (.inr rfl) rfl rfl rfl)
theorem s138 {a b : Int} : Runs (gam code) (.fn 138 [.c (.int .i64 a), .c (.int .i64 b)] [] (.c (.int .i64 (max a b))) []) := by
  refine W.is (fn := a138) rfl rfl ?_
  rw [start_im (by repeat (first | exact Pls.nil | refine Pls.c rfl ?_ | refine Pls.agg ?_))]
  simp only [a138]
  refine wk ?_
  refine W.cond (decide (b < a)) rfl ?_
  by_cases h : b < a
  · rw [if_pos (by simpa using h), show max a b = a by omega]
    refine wk ?_
    exact W.ret (endQ.sc (.inr rfl) rfl rfl rfl)
  · rw [if_neg (by simpa using h), show max a b = b by omega]
    refine W.skip ?_
    refine wk ?_
    exact W.ret (endQ.sc (.inr rfl) rfl rfl rfl)
theorem s10 {fl : Bool} {sz n : Nat} {xs : List C} : Runs (gam code) (.fn 10 [.c (.imm fl sz n xs)] [] (.c (.bool (decide ((1048576 : Int) < n)))) []) := by
  refine W.is (fn := a10) rfl rfl ?_
  rw [start_im (by repeat (first | exact Pls.nil | refine Pls.c rfl ?_ | refine Pls.agg ?_))]
  simp only [a10]
  refine wk ?_
  exact W.ret (endQ.sc (.inr rfl) rfl rfl rfl)
end Go.Proofs.Ytgodaiiegcdpcaa.Abs.MC
end
section
set_option linter.unusedVariables false
set_option linter.unusedSimpArgs false
namespace Go.Proofs.Ytgodaiiegcdpcaa.Abs.MC
open Go.Proofs.Ytgodaiiegcdpcaa.Abs
set_option linter.unusedSimpArgs false
set_option linter.unusedVariables false
set_option maxRecDepth 10000
/-! ### data -/
structure Step where
  op : Int
  r : Int
  a : Int
  b : Int
  n : Int
  deriving DecidableEq, Inhabited
structure Write where
  v : Int
  view : List Int
  deriving Inhabited
structure Note where
  who : Int
  v : Int
  deriving DecidableEq, Inhabited
structure Core where
  at' : Int
  regs : List Int
  view : List Int
  state : Int
  deriving Inhabited
structure Pick where
  who : Int
  late : Int
abbrev Mem := List (List Write)
structure Mach where
  codes : List (List Step)
  cores : List Core
  mem : Mem
  trace : List Note
instance : Enc Step := ⟨5, fun s => [.int .i64 s.op, .int .i64 s.r, .int .i64 s.a, .int .i64 s.b, .int .i64 s.n], fun _ => rfl⟩
instance : Enc Write := ⟨2, fun w => [.int .i64 w.v, rS w.view], fun _ => rfl⟩
instance : Enc Note := ⟨2, fun w => [.int .i64 w.who, .int .i64 w.v], fun _ => rfl⟩
instance : Enc Core := ⟨4, fun c => [.int .i64 c.at', rS c.regs, rS c.view, .int .i64 c.state], fun _ => rfl⟩
instance : Enc Pick := ⟨2, fun c => [.int .i64 c.who, .int .i64 c.late], fun _ => rfl⟩
instance : FlatE Step := ⟨fun _ _ => rfl⟩
instance : FlatE Note := ⟨fun _ _ => rfl⟩
instance : FlatE Pick := ⟨fun _ _ => rfl⟩
def memD (m : Mem) : List D := [rS m]
def Mach.d (m : Mach) : List D := [rS m.codes, rS m.cores, rS m.mem, rS m.trace]

def inn (lo hi n : Int) : Bool := decide (lo ≤ n) && decide (n ≤ hi)
/-- No row is too long to be counted. -/
def Mem.sm (m : Mem) : Prop := m.length < 2 ^ 40 ∧ ∀ c ∈ m, c.length < 2 ^ 40 ∧ ∀ w ∈ c, w.view.length < 2 ^ 40
theorem len1 {n : Nat} (h : n < 2 ^ 40) : IntKind.i64.wrap ((n : Int) - 1) = (n : Int) - 1 := wrap_in (by omega)

theorem all_step {α : Type} {p : α → Bool} {L : List α} {i : Nat} {x : α} (h : (L.take i).all p = true) (hx : L[i]? = some x) (hp : p x = true) : (L.take (i + 1)).all p = true := by
  rw [List.take_add_one, hx]
  simp only [List.all_append, h, Option.toList_some, List.all_cons, hp, List.all_nil, Bool.and_self]
theorem all_no {α : Type} {p : α → Bool} {L : List α} {i : Nat} {x : α} (hx : L[i]? = some x) (hp : p x = false) : L.all p = false := by
  rw [List.all_eq_false]
  exact ⟨x, List.mem_of_getElem? hx, by simp [hp]⟩
theorem zip_get {α β : Type} {a : List α} {b : List β} {i : Nat} {x : α} {y : β} (hx : a[i]? = some x) (hy : b[i]? = some y) : (a.zip b)[i]? = some (x, y) := by
  rw [List.getElem?_zip_eq_some]
  exact ⟨hx, hy⟩
theorem vb {x y : Bool} (h : x = y) : V.c (.bool x) = V.c (.bool y) := by rw [h]
theorem ne_bool {a b : Nat} : (((a : Nat) : Int) != ((b : Nat) : Int)) = !decide (a = b) := by
  by_cases h : a = b
  · subst h; simp
  · have : ((a : Int) == (b : Int)) = false := by simp; omega
    simp only [bne, this, h, decide_false]
theorem s25 {fl fl' : Bool} {a b : List Int} (ha : a.length < 2 ^ 40) : Runs (gam code) (.fn 25 [.c (.imm fl 1 a.length (cl fl a)), .c (.imm fl' 1 b.length (cl fl' b))] [] (.c (.bool (decide (a = b)))) []) := by
  refine W.is (fn := a25) rfl rfl ?_
  rw [start_im (by repeat (first | exact Pls.nil | refine Pls.c rfl ?_ | refine Pls.agg ?_))]
  simp only [a25]
  refine wk ?_
  refine W.if rfl (fun hb => ?_) (fun hb => ?_)
  · rw [ne_bool] at hb
    have hne : a ≠ b := fun h => by subst h; simp at hb
    refine wk ?_
    exact W.ret (endQ.sc (.inr rfl) rfl rfl (by simp [hne]))
  · rw [ne_bool] at hb
    have hl : a.length = b.length := by simpa using hb
    refine W.skip ?_
    refine wk ?_
    refine W.for (fun i T H n => Ag [(0, .c (.imm fl 1 a.length (cl fl a))), (1, .c (.imm fl' 1 b.length (cl fl' b))), (5, .c (.int .i64 ((i : Nat) : Int)))] T ∧ a.take i = b.take i) a.length ⟨⟨rfl, rfl, rfl, trivial⟩, by simp⟩ ?_
    rintro i T H n hi ⟨hT, he⟩
    obtain ⟨T, rfl⟩ := hT.fix
    simp only [ups]
    clear hT
    refine wk ?_
    refine W.if rfl (fun hb => ?_) (fun hb => ?_)
    · have hlt : i < a.length := by simpa using hb
      have hlt' : i < b.length := by omega
      have hx : a[i]? = some a[i] := List.getElem?_eq_getElem hlt
      have hy : b[i]? = some b[i] := List.getElem?_eq_getElem hlt'
      refine W.skip ?_
      refine wk ?_
      refine W.if rfl (fun hb => ?_) (fun hb => ?_)
      · have hne : a ≠ b := fun h => by subst h; simp at hb
        refine wk ?_
        exact W.ret (endQ.sc (.inr rfl) rfl rfl (by simp [hne]))
      · have hxy : a[i] = b[i] := by simpa using hb
        refine W.skip ?_
        refine wk ?_
        refine ⟨hlt, ⟨rfl, rfl, wrap_c (by omega), trivial⟩, ?_⟩
        rw [List.take_add_one, List.take_add_one, he, hx, hy, hxy]
    · have hge : i = a.length := by simp at hb; omega
      subst hge
      have hab : a = b := by rw [List.take_length, hl, List.take_length] at he; exact he
      refine W.exit ?_
      show W _ _ _ _
      refine wk ?_
      exact W.ret (endQ.sc (.inr rfl) rfl rfl (by simp [hab]))
/-- Nowhere less. -/
def knows (a b : List Int) : Bool := decide (a.length = b.length) && (a.zip b).all fun p => !decide (p.1 < p.2)
theorem s26 {fl fl' : Bool} {a b : List Int} (ha : a.length < 2 ^ 40) : Runs (gam code) (.fn 26 [.c (.imm fl 1 a.length (cl fl a)), .c (.imm fl' 1 b.length (cl fl' b))] [] (.c (.bool (knows a b))) []) := by
  refine W.is (fn := a26) rfl rfl ?_
  rw [start_im (by repeat (first | exact Pls.nil | refine Pls.c rfl ?_ | refine Pls.agg ?_))]
  simp only [a26]
  refine wk ?_
  refine W.if rfl (fun hb => ?_) (fun hb => ?_)
  · rw [ne_bool] at hb
    refine wk ?_
    exact W.ret (endQ.sc (.inr rfl) rfl rfl (by simp at hb; simp [knows, hb]))
  · rw [ne_bool] at hb
    have hl : a.length = b.length := by simpa using hb
    refine W.skip ?_
    refine wk ?_
    refine W.for (fun i T H n => Ag [(0, .c (.imm fl 1 a.length (cl fl a))), (12, .c (.imm fl' 1 b.length (cl fl' b))), (13, .c (.int .i64 b.length)), (14, .c (.int .i64 ((i : Nat) : Int)))] T ∧ ((a.zip b).take i).all (fun p => !decide (p.1 < p.2)) = true) a.length ⟨⟨rfl, rfl, rfl, rfl, trivial⟩, by simp⟩ ?_
    rintro i T H n hi ⟨hT, he⟩
    obtain ⟨T, rfl⟩ := hT.fix
    simp only [ups]
    clear hT
    refine wk ?_
    refine W.if rfl (fun hb => ?_) (fun hb => ?_)
    · have hlt' : i < b.length := by simpa using hb
      have hlt : i < a.length := by omega
      have hx : a[i]? = some a[i] := List.getElem?_eq_getElem hlt
      have hy : b[i]? = some b[i] := List.getElem?_eq_getElem hlt'
      refine W.skip ?_
      refine wk ?_
      refine W.if rfl (fun hb => ?_) (fun hb => ?_)
      · refine wk ?_
        exact W.ret (endQ.sc (.inr rfl) rfl rfl (by simp only [knows]; rw [all_no (zip_get hx hy) (by simpa using hb), Bool.and_false]))
      · refine W.skip ?_
        refine wk ?_
        exact ⟨hlt, ⟨rfl, rfl, rfl, wrap_c (by omega), trivial⟩, all_step he (zip_get hx hy) (by simpa using hb)⟩
    · have hge : i = a.length := by simp at hb; omega
      subst hge
      rw [List.take_of_length_le (by rw [List.length_zip]; omega)] at he
      refine W.exit ?_
      show W _ _ _ _
      refine wk ?_
      exact W.ret (endQ.sc (.inr rfl) rfl rfl (by simp [knows, he, hl]))
/-- As many as cells, each the number of a write that there is. -/
def viewOk (m : Mem) (v : List Int) : Bool := decide (v.length = m.length) && (v.zip m).all fun p => inn 0 ((p.2.length : Int) - 1) p.1
theorem s69 {fl fl' : Bool} {m : Mem} {v : List Int} (hm : m.sm) : Runs (gam code) (.fn 69 [.agg (imL fl (memD m)), .c (.imm fl' 1 v.length (cl fl' v))] [] (.c (.bool (viewOk m v))) []) := by
  refine W.is (fn := a69) rfl rfl ?_
  rw [start_im (by repeat (first | exact Pls.nil | refine Pls.c rfl ?_ | refine Pls.agg ?_))]
  simp only [a69]
  repeat (first | refine wk1 ?_ | (apply WO.cb s50; (· exact lends)))
  refine W.if rfl (fun hb => ?_) (fun hb => ?_)
  · rw [ne_bool] at hb
    repeat (first | refine wk1 ?_ | (apply WO.cb s50; (· exact lends)))
    exact W.ret (endQ.sc (.inr rfl) rfl rfl (by simp at hb; simp [viewOk, hb]))
  · rw [ne_bool] at hb
    have hl : v.length = m.length := by simpa using hb
    have hm1 := hm.1
    refine W.skip ?_
    repeat (first | refine wk1 ?_ | (apply WO.cb s50; (· exact lends)))
    refine W.for (fun i T H n => Ag [(2, .c (.ptr (1, 0, 0, 0) [] 0)), (13, .c (.imm fl' 1 v.length (cl fl' v))), (14, .c (.int .i64 v.length)), (15, .c (.int .i64 ((i : Nat) : Int)))] T ∧ H (1, 0, 0, 0) = some (imL fl (memD m)) ∧ ((v.zip m).take i).all (fun p => inn 0 ((p.2.length : Int) - 1) p.1) = true) v.length ⟨⟨rfl, rfl, rfl, rfl, trivial⟩, rfl, by simp⟩ ?_
    rintro i T H n hi ⟨hT, hH, he⟩
    obtain ⟨T, rfl⟩ := hT.fix
    simp only [ups]
    clear hT
    repeat (first | refine wk1 ?_ | (apply WO.cb s50; (· exact lends)))
    refine W.if rfl (fun hb => ?_) (fun hb => ?_)
    · have hlt : i < v.length := by simpa using hb
      have hlt' : i < m.length := by omega
      have hx : v[i]? = some v[i] := List.getElem?_eq_getElem hlt
      have hy : m[i]? = some m[i] := List.getElem?_eq_getElem hlt'
      refine W.skip ?_
      repeat (first | refine wk1 ?_ | (apply WO.cb s50; (· exact lends)))
      have hw := len1 (hm.2 m[i] (List.getElem_mem _)).1
      rw [hw]
      refine W.if rfl (fun hb => ?_) (fun hb => ?_)
      · repeat (first | refine wk1 ?_ | (apply WO.cb s50; (· exact lends)))
        exact W.ret (endQ.sc (.inr rfl) rfl rfl (by simp only [viewOk]; rw [all_no (zip_get hx hy) (not_t hb), Bool.and_false]))
      · refine W.skip ?_
        repeat (first | refine wk1 ?_ | (apply WO.cb s50; (· exact lends)))
        exact ⟨hlt, ⟨rfl, rfl, rfl, wrap_c (by omega), trivial⟩, hH, all_step he (zip_get hx hy) (not_f hb)⟩
    · have hge : i = v.length := by simp at hb; omega
      subst hge
      rw [List.take_of_length_le (by rw [List.length_zip]; omega)] at he
      refine W.exit ?_
      show W _ _ _ _
      repeat (first | refine wk1 ?_ | (apply WO.cb s50; (· exact lends)))
      exact W.ret (endQ.sc (.inr rfl) rfl rfl (by simp [viewOk, he, hl]))
end Go.Proofs.Ytgodaiiegcdpcaa.Abs.MC
end
section
set_option linter.unusedVariables false
set_option linter.unusedSimpArgs false
namespace Go.Proofs.Ytgodaiiegcdpcaa.Abs.MC
open Go.Proofs.Ytgodaiiegcdpcaa.Abs
set_option linter.unusedSimpArgs false
set_option linter.unusedVariables false
set_option maxRecDepth 10000
theorem s72 {fl fl' : Bool} {m : Mem} {v : List Int} (hm : m.sm) (hv : v.length < 2 ^ 40) : Runs (gam code) (.fn 72 [.agg (imL fl (memD m)), .c (.imm fl' 1 v.length (cl fl' v))] [] (.c (.bool (viewOk m v))) []) := by
  refine W.is (fn := a72) rfl rfl ?_
  rw [start_im (by repeat (first | exact Pls.nil | refine Pls.c rfl ?_ | refine Pls.agg ?_))]
  simp only [a72]
  repeat (first | refine wk1 ?_ | (apply WO.cb s63; (· exact lends)))
  refine W.if rfl (fun hb => ?_) (fun hb => ?_)
  · rw [ne_bool] at hb
    repeat (first | refine wk1 ?_ | (apply WO.cb s63; (· exact lends)))
    exact W.ret (endQ.sc (.inr rfl) rfl rfl (by simp at hb; simp [viewOk, hb]))
  · rw [ne_bool] at hb
    have hl : v.length = m.length := by simpa using hb
    have hm1 := hm.1
    repeat (first | refine wk1 ?_ | (apply WO.cb s63; (· exact lends)))
    refine W.for (fun i T H n => Ag [(2, .c (.ptr (1, 0, 0, 0) [] 0)), (1, .c (.imm fl' 1 v.length (cl fl' v))), (5, .c (.int .i64 ((i : Nat) : Int)))] T ∧ H (1, 0, 0, 0) = some (imL fl (memD m)) ∧ ((v.zip m).take i).all (fun p => inn 0 ((p.2.length : Int) - 1) p.1) = true) v.length ⟨⟨rfl, rfl, rfl, trivial⟩, rfl, by simp⟩ ?_
    rintro i T H n hi ⟨hT, hH, he⟩
    obtain ⟨T, rfl⟩ := hT.fix
    simp only [ups]
    clear hT
    repeat (first | refine wk1 ?_ | (apply WO.cb s63; (· exact lends)))
    refine W.if rfl (fun hb => ?_) (fun hb => ?_)
    · have hlt : i < v.length := by simpa using hb
      have hlt' : i < m.length := by omega
      have hx : v[i]? = some v[i] := List.getElem?_eq_getElem hlt
      have hy : m[i]? = some m[i] := List.getElem?_eq_getElem hlt'
      repeat (first | refine wk1 ?_ | (apply WO.cb s63; (· exact lends)))
      rw [len1 (hm.2 m[i] (List.getElem_mem _)).1]
      refine W.if rfl (fun hb => ?_) (fun hb => ?_)
      · repeat (first | refine wk1 ?_ | (apply WO.cb s63; (· exact lends)))
        exact W.ret (endQ.sc (.inr rfl) rfl rfl (by simp only [viewOk]; rw [all_no (zip_get hx hy) (not_t hb), Bool.and_false]))
      · repeat (first | refine wk1 ?_ | (apply WO.cb s63; (· exact lends)))
        exact ⟨hlt, ⟨rfl, rfl, wrap_c (by omega), trivial⟩, hH, all_step he (zip_get hx hy) (not_f hb)⟩
    · have hge : i = v.length := by simp at hb; omega
      subst hge
      rw [List.take_of_length_le (by rw [List.length_zip]; omega)] at he
      refine W.exit ?_
      show W _ _ _ _
      repeat (first | refine wk1 ?_ | (apply WO.cb s63; (· exact lends)))
      exact W.ret (endQ.sc (.inr rfl) rfl rfl (by simp [viewOk, he, hl]))
/-- A cell is right. -/
def cellOk (m : Mem) (c : List Write) : Bool := inn 1 4000 c.length && c.all fun w => viewOk m w.view
def memOk (m : Mem) : Bool := decide (m.length = 24) && m.all (cellOk m)
theorem ne_bool24 {a : Nat} {k : Nat} : (((a : Nat) : Int) != (OfNat.ofNat k : Int)) = !decide (a = k) := ne_bool
theorem s41 {fl : Bool} {m : Mem} (hm : m.sm) : Runs (gam code) (.fn 41 [.agg (imL fl (memD m))] [] (.c (.bool (memOk m))) []) := by
  refine W.is (fn := a41) rfl rfl ?_
  rw [start_im (by repeat (first | exact Pls.nil | refine Pls.c rfl ?_ | refine Pls.agg ?_))]
  simp only [a41]
  have hm1 := hm.1
  repeat (first | refine wk1 ?_ | (apply WO.cb s50; (· exact lends)) | (apply WO.cb (s69 ?_); (· exact lends); rotate_left 1; (· assumption)))
  refine W.for (fun i T H n => Ag [(1, .c (.ptr (1, 0, 0, 0) [] 0)), (8, .c (.imm fl 1 m.length (cl fl m))), (9, .c (.int .i64 m.length)), (10, .c (.int .i64 ((i : Nat) : Int)))] T ∧ H (1, 0, 0, 0) = some (imL fl (memD m)) ∧ 1 < n ∧ (m.take i).all (cellOk m) = true) m.length ⟨⟨rfl, rfl, rfl, rfl, trivial⟩, rfl, ats, by simp⟩ ?_
  rintro i T H n hi ⟨hT, hH, hn, he⟩
  obtain ⟨T, rfl⟩ := hT.fix
  simp only [ups]
  clear hT
  repeat (first | refine wk1 ?_ | (apply WO.cb s50; (· exact lends)) | (apply WO.cb (s69 ?_); (· exact lends); rotate_left 1; (· assumption)))
  refine W.if rfl (fun hb => ?_) (fun hb => ?_)
  · have hlt : i < m.length := by simpa using hb
    have hx : m[i]? = some m[i] := List.getElem?_eq_getElem hlt
    have hc := (hm.2 m[i] (List.getElem_mem _))
    have hc1 := hc.1
    repeat (first | refine wk1 ?_ | (apply WO.cb s50; (· exact lends)) | (apply WO.cb (s69 ?_); (· exact lends); rotate_left 1; (· assumption)))
    refine W.if rfl (fun hb => ?_) (fun hb => ?_)
    · repeat (first | refine wk1 ?_ | (apply WO.cb s50; (· exact lends)) | (apply WO.cb (s69 ?_); (· exact lends); rotate_left 1; (· assumption)))
      exact W.ret (endQ.sc (.inr rfl) rfl rfl (by simp only [memOk]; rw [all_no hx (by simp only [cellOk, inn, not_t hb, Bool.false_and]), Bool.and_false]))
    · have h1 := not_f hb
      repeat (first | refine wk1 ?_ | (apply WO.cb s50; (· exact lends)) | (apply WO.cb (s69 ?_); (· exact lends); rotate_left 1; (· assumption)))
      refine W.for (fun k T H n => Ag [(1, .c (.ptr (1, 0, 0, 0) [] 0)), (8, .c (.imm fl 1 m.length (cl fl m))), (9, .c (.int .i64 m.length)), (10, .c (.int .i64 ((i : Nat) : Int))), (18, .c (.imm fl 2 m[i].length (cl fl m[i]))), (19, .c (.int .i64 m[i].length)), (20, .c (.int .i64 ((k : Nat) : Int)))] T ∧ H (1, 0, 0, 0) = some (imL fl (memD m)) ∧ 1 < n ∧ (m[i].take k).all (fun w => viewOk m w.view) = true) m[i].length ⟨⟨rfl, rfl, rfl, rfl, rfl, rfl, rfl, trivial⟩, hH, ats, by simp⟩ ?_
      rintro k T H n hk ⟨hT, hH, hn, hek⟩
      obtain ⟨T, rfl⟩ := hT.fix
      simp only [ups]
      clear hT
      repeat (first | refine wk1 ?_ | (apply WO.cb s50; (· exact lends)) | (apply WO.cb (s69 ?_); (· exact lends); rotate_left 1; (· assumption)))
      refine W.if rfl (fun hb => ?_) (fun hb => ?_)
      · have hlk : k < m[i].length := by simpa using hb
        have hw : m[i][k]? = some m[i][k] := List.getElem?_eq_getElem hlk
        repeat (first | refine wk1 ?_ | (apply WO.cb s50; (· exact lends)) | (apply WO.cb (s69 ?_); (· exact lends); rotate_left 1; (· assumption)))
        refine W.if rfl (fun hb => ?_) (fun hb => ?_)
        · repeat (first | refine wk1 ?_ | (apply WO.cb s50; (· exact lends)) | (apply WO.cb (s69 ?_); (· exact lends); rotate_left 1; (· assumption)))
          exact W.ret (endQ.sc (.inr rfl) rfl rfl (by simp only [memOk]; rw [all_no hx (by simp only [cellOk]; rw [all_no hw (not_t hb), Bool.and_false]), Bool.and_false]))
        · repeat (first | refine wk1 ?_ | (apply WO.cb s50; (· exact lends)) | (apply WO.cb (s69 ?_); (· exact lends); rotate_left 1; (· assumption)))
          exact ⟨hlk, ⟨rfl, rfl, rfl, rfl, rfl, rfl, wrap_c (by omega), trivial⟩, hh, ats, all_step hek hw (not_f hb)⟩
      · have hge : k = m[i].length := by simp at hb; omega
        subst hge
        rw [List.take_length] at hek
        refine W.exit ?_
        show W _ _ _ _
        repeat (first | refine wk1 ?_ | (apply WO.cb s50; (· exact lends)) | (apply WO.cb (s69 ?_); (· exact lends); rotate_left 1; (· assumption)))
        exact ⟨hlt, ⟨rfl, rfl, rfl, wrap_c (by omega), trivial⟩, hh, ats, all_step he hx (by simp only [cellOk, inn, h1, hek, Bool.and_self])⟩
  · have hge : i = m.length := by simp at hb; omega
    subst hge
    rw [List.take_length] at he
    refine W.exit ?_
    show W _ _ _ _
    repeat (first | refine wk1 ?_ | (apply WO.cb s50; (· exact lends)) | (apply WO.cb (s69 ?_); (· exact lends); rotate_left 1; (· assumption)))
    exact W.ret (endQ.sc (.inr rfl) rfl rfl (by simp [memOk, he]; by_cases h : m.length = 24 <;> simp [h]; omega))
theorem s70 {fl : Bool} {m : Mem} (hm : m.sm) : Runs (gam code) (.fn 70 [.agg (imL fl (memD m))] [] (.c (.bool (memOk m))) []) := by
  refine W.is (fn := a70) rfl rfl ?_
  rw [start_im (by repeat (first | exact Pls.nil | refine Pls.c rfl ?_ | refine Pls.agg ?_))]
  simp only [a70]
  have hm1 := hm.1
  repeat (first | refine wk1 ?_ | (apply WO.cb s63; (· exact lends)) | (apply WO.cb (s72 ?_ ?_); (· exact lends); rotate_left 1; (· assumption); (· assumption)))
  refine W.if rfl (fun hb => ?_) (fun hb => ?_)
  · repeat (first | refine wk1 ?_ | (apply WO.cb s63; (· exact lends)) | (apply WO.cb (s72 ?_ ?_); (· exact lends); rotate_left 1; (· assumption); (· assumption)))
    exact W.ret (endQ.sc (.inr rfl) rfl rfl (by have : m.length ≠ 24 := (by intro h; rw [h] at hb; simp at hb); simp [memOk, this]))
  have hl : m.length = 24 := by
    by_cases h : m.length = 24
    · exact h
    · have : (((m.length : Nat) : Int) != 24) = true := by simp; omega
      rw [this] at hb; cases hb
  repeat (first | refine wk1 ?_ | (apply WO.cb s63; (· exact lends)) | (apply WO.cb (s72 ?_ ?_); (· exact lends); rotate_left 1; (· assumption); (· assumption)))
  refine W.for (fun i T H n => Ag [(1, .c (.ptr (1, 0, 0, 0) [] 0)), (3, .c (.int .i64 ((i : Nat) : Int)))] T ∧ H (1, 0, 0, 0) = some (imL fl (memD m)) ∧ 1 < n ∧ (m.take i).all (cellOk m) = true) m.length ⟨⟨rfl, rfl, trivial⟩, rfl, ats, by simp⟩ ?_
  rintro i T H n hi ⟨hT, hH, hn, he⟩
  obtain ⟨T, rfl⟩ := hT.fix
  simp only [ups]
  clear hT
  repeat (first | refine wk1 ?_ | (apply WO.cb s63; (· exact lends)) | (apply WO.cb (s72 ?_ ?_); (· exact lends); rotate_left 1; (· assumption); (· assumption)))
  refine W.if rfl (fun hb => ?_) (fun hb => ?_)
  · have hlt : i < m.length := by simp at hb; omega
    have hx : m[i]? = some m[i] := List.getElem?_eq_getElem hlt
    have hc := (hm.2 m[i] (List.getElem_mem _))
    have hc1 := hc.1
    repeat (first | refine wk1 ?_ | (apply WO.cb s63; (· exact lends)) | (apply WO.cb (s72 ?_ ?_); (· exact lends); rotate_left 1; (· assumption); (· assumption)))
    refine W.if rfl (fun hb => ?_) (fun hb => ?_)
    · repeat (first | refine wk1 ?_ | (apply WO.cb s63; (· exact lends)) | (apply WO.cb (s72 ?_ ?_); (· exact lends); rotate_left 1; (· assumption); (· assumption)))
      exact W.ret (endQ.sc (.inr rfl) rfl rfl (by simp only [memOk]; rw [all_no hx (by simp only [cellOk, inn, not_t hb, Bool.false_and]), Bool.and_false]))
    · have h1 := not_f hb
      repeat (first | refine wk1 ?_ | (apply WO.cb s63; (· exact lends)) | (apply WO.cb (s72 ?_ ?_); (· exact lends); rotate_left 1; (· assumption); (· assumption)))
      refine W.for (fun k T H n => Ag [(1, .c (.ptr (1, 0, 0, 0) [] 0)), (3, .c (.int .i64 ((i : Nat) : Int))), (4, .c (.int .i64 ((k : Nat) : Int)))] T ∧ H (1, 0, 0, 0) = some (imL fl (memD m)) ∧ 1 < n ∧ (m[i].take k).all (fun w => viewOk m w.view) = true) m[i].length ⟨⟨rfl, rfl, rfl, trivial⟩, hH, ats, by simp⟩ ?_
      rintro k T H n hk ⟨hT, hH, hn, hek⟩
      obtain ⟨T, rfl⟩ := hT.fix
      simp only [ups]
      clear hT
      repeat (first | refine wk1 ?_ | (apply WO.cb s63; (· exact lends)) | (apply WO.cb (s72 ?_ ?_); (· exact lends); rotate_left 1; (· assumption); (· assumption)))
      refine W.if rfl (fun hb => ?_) (fun hb => ?_)
      · have hlk : k < m[i].length := by simpa using hb
        have hw : m[i][k]? = some m[i][k] := List.getElem?_eq_getElem hlk
        have hw1 := hc.2 m[i][k] (List.getElem_mem _)
        repeat (first | refine wk1 ?_ | (apply WO.cb s63; (· exact lends)) | (apply WO.cb (s72 ?_ ?_); (· exact lends); rotate_left 1; (· assumption); (· assumption)))
        refine W.if rfl (fun hb => ?_) (fun hb => ?_)
        · repeat (first | refine wk1 ?_ | (apply WO.cb s63; (· exact lends)) | (apply WO.cb (s72 ?_ ?_); (· exact lends); rotate_left 1; (· assumption); (· assumption)))
          exact W.ret (endQ.sc (.inr rfl) rfl rfl (by simp only [memOk]; rw [all_no hx (by simp only [cellOk]; rw [all_no hw (not_t hb), Bool.and_false]), Bool.and_false]))
        · repeat (first | refine wk1 ?_ | (apply WO.cb s63; (· exact lends)) | (apply WO.cb (s72 ?_ ?_); (· exact lends); rotate_left 1; (· assumption); (· assumption)))
          exact ⟨hlk, ⟨rfl, rfl, wrap_c (by omega), trivial⟩, hh, ats, all_step hek hw (not_f hb)⟩
      · have hge : k = m[i].length := by simp at hb; omega
        subst hge
        rw [List.take_length] at hek
        refine W.exit ?_
        show W _ _ _ _
        repeat (first | refine wk1 ?_ | (apply WO.cb s63; (· exact lends)) | (apply WO.cb (s72 ?_ ?_); (· exact lends); rotate_left 1; (· assumption); (· assumption)))
        exact ⟨hlt, ⟨rfl, wrap_c (by omega), trivial⟩, hh, ats, all_step he hx (by simp only [cellOk, inn, h1, hek, Bool.and_self])⟩
  · have hge : i = m.length := by simp at hb; omega
    subst hge
    rw [List.take_length] at he
    refine W.exit ?_
    show W _ _ _ _
    repeat (first | refine wk1 ?_ | (apply WO.cb s63; (· exact lends)) | (apply WO.cb (s72 ?_ ?_); (· exact lends); rotate_left 1; (· assumption); (· assumption)))
    exact W.ret (endQ.sc (.inr rfl) rfl rfl (by simp [memOk, he, hl]))
end Go.Proofs.Ytgodaiiegcdpcaa.Abs.MC
end
section
set_option linter.unusedVariables false
set_option linter.unusedSimpArgs false
namespace Go.Proofs.Ytgodaiiegcdpcaa.Abs.MC
open Go.Proofs.Ytgodaiiegcdpcaa.Abs
set_option linter.unusedSimpArgs false
set_option linter.unusedVariables false
set_option maxRecDepth 10000
theorem eqs_int {ks : List Bool} {k : IntKind} {a b : Int} {xs ys : List C} : eqsC (true :: ks) (.int k a :: xs) (.int k b :: ys) = if a = b then eqsC ks xs ys else some false := by
  by_cases h : a = b
  · subst h; simp [eqsC, eqC]
  · have : (a == b) = false := by simpa using h
    simp [eqsC, eqC, this, h]
theorem eqs_nil : eqsC [] [] [] = some true := rfl
theorem eqs_note {fl fl' : Bool} {a b : Note} : eqsC [true, true] (imL fl (Enc.d a)) (imL fl' (Enc.d b)) = some (decide (a = b)) := by
  obtain ⟨w, v⟩ := a
  obtain ⟨w', v'⟩ := b
  simp only [Enc.d, imL, D.im, eqs_int, eqs_nil, Note.mk.injEq]
  by_cases h1 : w = w' <;> by_cases h2 : v = v' <;> simp [h1, h2]
theorem eqs_step {fl fl' : Bool} {s t : Step} : eqsC [true, true, true, true, true] (imL fl (Enc.d s)) (imL fl' (Enc.d t)) = some (decide (s = t)) := by
  obtain ⟨o, r, a, b, n⟩ := s
  obtain ⟨o', r', a', b', n'⟩ := t
  simp only [Enc.d, imL, D.im, eqs_int, eqs_nil, Step.mk.injEq]
  by_cases h1 : o = o' <;> by_cases h2 : r = r' <;> by_cases h3 : a = a' <;> by_cases h4 : b = b' <;> by_cases h5 : n = n' <;> simp [h1, h2, h3, h4, h5]
theorem s66 {fl fl' : Bool} {a b : List Note} (ha : a.length < 2 ^ 40) : Runs (gam code) (.fn 66 [.c (.imm fl 2 a.length (cl fl a)), .c (.imm fl' 2 b.length (cl fl' b))] [] (.c (.bool (decide (a = b)))) []) := by
  refine W.is (fn := a66) rfl rfl ?_
  rw [start_im (by repeat (first | exact Pls.nil | refine Pls.c rfl ?_ | refine Pls.agg ?_))]
  simp only [a66]
  refine wk ?_
  refine W.if rfl (fun hb => ?_) (fun hb => ?_)
  · rw [ne_bool] at hb
    have hne : a ≠ b := fun h => by subst h; simp at hb
    refine wk ?_
    exact W.ret (endQ.sc (.inr rfl) rfl rfl (by simp [hne]))
  · rw [ne_bool] at hb
    have hl : a.length = b.length := by simpa using hb
    refine wk ?_
    refine W.for (fun i T H n => Ag [(0, .c (.imm fl 2 a.length (cl fl a))), (1, .c (.imm fl' 2 b.length (cl fl' b))), (5, .c (.int .i64 ((i : Nat) : Int)))] T ∧ a.take i = b.take i) a.length ⟨⟨rfl, rfl, rfl, trivial⟩, by simp⟩ ?_
    rintro i T H n hi ⟨hT, he⟩
    obtain ⟨T, rfl⟩ := hT.fix
    simp only [ups]
    clear hT
    refine wk ?_
    refine W.if rfl (fun hb => ?_) (fun hb => ?_)
    · have hlt : i < a.length := by simpa using hb
      have hlt' : i < b.length := by omega
      have hx : a[i]? = some a[i] := List.getElem?_eq_getElem hlt
      have hy : b[i]? = some b[i] := List.getElem?_eq_getElem hlt'
      repeat (first | refine wk1 ?_ | refine WO.eqs rfl rfl eqs_note ?_)
      refine W.if rfl (fun hb => ?_) (fun hb => ?_)
      · have hne : a ≠ b := fun h => by subst h; simp at hb
        refine wk ?_
        exact W.ret (endQ.sc (.inr rfl) rfl rfl (by simp [hne]))
      · have hxy : a[i] = b[i] := by simpa using hb
        refine wk ?_
        refine ⟨hlt, ⟨rfl, rfl, wrap_c (by omega), trivial⟩, ?_⟩
        rw [List.take_add_one, List.take_add_one, he, hx, hy, hxy]
    · have hge : i = a.length := by simp at hb; omega
      subst hge
      have hab : a = b := by rw [List.take_length, hl, List.take_length] at he; exact he
      refine W.exit ?_
      show W _ _ _ _
      refine wk ?_
      exact W.ret (endQ.sc (.inr rfl) rfl rfl (by simp [hab]))
/-- Not too many notes, each of one of so many. -/
def notesOk (L : List Note) (k : Nat) : Bool := L.all (fun x => inn 0 ((k : Int) - 1) x.who) && decide (L.length ≤ 4000)
theorem s67 {fl : Bool} {L : List Note} {k : Nat} (hL : L.length < 2 ^ 40) (hk : k < 2 ^ 40) : Runs (gam code) (.fn 67 [.c (.imm fl 2 L.length (cl fl L)), .c (.int .i64 k)] [] (.c (.bool (notesOk L k))) []) := by
  refine W.is (fn := a67) rfl rfl ?_
  rw [start_im (by repeat (first | exact Pls.nil | refine Pls.c rfl ?_ | refine Pls.agg ?_))]
  simp only [a67]
  repeat (first | refine wk1 ?_ | (apply WO.cb s50; (· exact lends)))
  refine W.for (fun i T H n => Ag [(0, .c (.imm fl 2 L.length (cl fl L))), (1, .c (.int .i64 k)), (7, .c (.imm fl 2 L.length (cl fl L))), (8, .c (.int .i64 L.length)), (9, .c (.int .i64 ((i : Nat) : Int)))] T ∧ (L.take i).all (fun x => inn 0 ((k : Int) - 1) x.who) = true) L.length ⟨⟨rfl, rfl, rfl, rfl, rfl, trivial⟩, by simp⟩ ?_
  rintro i T H n hi ⟨hT, he⟩
  obtain ⟨T, rfl⟩ := hT.fix
  simp only [ups]
  clear hT
  repeat (first | refine wk1 ?_ | (apply WO.cb s50; (· exact lends)))
  refine W.if rfl (fun hb => ?_) (fun hb => ?_)
  · have hlt : i < L.length := by simpa using hb
    have hx : L[i]? = some L[i] := List.getElem?_eq_getElem hlt
    repeat (first | refine wk1 ?_ | (apply WO.cb s50; (· exact lends)))
    rw [len1 hk]
    refine W.if rfl (fun hb => ?_) (fun hb => ?_)
    · repeat (first | refine wk1 ?_ | (apply WO.cb s50; (· exact lends)))
      exact W.ret (endQ.sc (.inr rfl) rfl rfl (by simp only [notesOk]; rw [all_no hx (not_t hb), Bool.false_and]))
    · repeat (first | refine wk1 ?_ | (apply WO.cb s50; (· exact lends)))
      exact ⟨hlt, ⟨rfl, rfl, rfl, rfl, wrap_c (by omega), trivial⟩, all_step he hx (not_f hb)⟩
  · have hge : i = L.length := by simp at hb; omega
    subst hge
    rw [List.take_length] at he
    refine W.exit ?_
    show W _ _ _ _
    repeat (first | refine wk1 ?_ | (apply WO.cb s50; (· exact lends)))
    exact W.ret (endQ.sc (.inr rfl) rfl rfl (by simp only [notesOk, he, Bool.true_and]; congr 2; simp only [decide_eq_decide]; omega))
/-- A step with what its op names alone. -/
def stepNamed (s : Step) : Step :=
  if s.op = 1 then ⟨s.op, s.r, 0, 0, s.n⟩ else if s.op = 2 ∨ s.op = 3 ∨ s.op = 4 then ⟨s.op, s.r, s.a, s.b, 0⟩ else if s.op = 5 then ⟨s.op, s.r, s.a, 0, s.n⟩
  else if s.op = 6 ∨ s.op = 7 then ⟨s.op, 0, s.a, s.b, s.n⟩ else if s.op = 8 then ⟨s.op, s.r, 0, s.b, s.n⟩ else if s.op = 9 then ⟨s.op, 0, s.a, 0, 0⟩ else if s.op = 10 then ⟨s.op, 0, 0, 0, s.n⟩
  else if s.op = 11 then ⟨s.op, 0, s.a, 0, s.n⟩ else ⟨s.op, 0, 0, 0, 0⟩
theorem ops13 (op : Int) : op = 1 ∨ op = 2 ∨ op = 3 ∨ op = 4 ∨ op = 5 ∨ op = 6 ∨ op = 7 ∨ op = 8 ∨ op = 9 ∨ op = 10 ∨ op = 11 ∨ op = 12 ∨ op = 13 ∨ (op ≠ 1 ∧ op ≠ 2 ∧ op ≠ 3 ∧ op ≠ 4 ∧ op ≠ 5 ∧ op ≠ 6 ∧ op ≠ 7 ∧ op ≠ 8 ∧ op ≠ 9 ∧ op ≠ 10 ∧ op ≠ 11 ∧ op ≠ 12 ∧ op ≠ 13) := by omega
theorem beq_no {a b : Int} (h : a ≠ b) : (a == b) = false := by simpa using h
theorem beq_c {a b : Int} (h : a ≠ b) : V.c (.bool (a == b)) = .c (.bool false) := by rw [beq_no h]
set_option maxHeartbeats 4000000 in
theorem s157 {fl : Bool} {s : Step} : Runs (gam code) (.fn 157 [.agg (imL fl (Enc.d s))] [] (.agg (imL true (Enc.d (stepNamed s)))) []) := by
  obtain ⟨op, r, a, b, n⟩ := s
  refine W.is (fn := a157) rfl rfl ?_
  rw [start_im (by repeat (first | exact Pls.nil | refine Pls.c rfl ?_ | refine Pls.agg ?_))]
  simp only [a157]
  dsimp only [Enc.d, imL, D.im]
  rcases ops13 op with h | h | h | h | h | h | h | h | h | h | h | h | h | ⟨h1, h2, h3, h4, h5, h6, h7, h8, h9, h10, h11, h12, h13⟩
  all_goals
    first
    | subst h
    | skip
    repeat (first | refine wk1 ?_ | refine W.ifF (beq_c (by assumption)) ?_)
    refine W.ret (endQ.agg (.inr rfl) rfl rfl rfl rfl (by first | rfl | (simp only [stepNamed, h1, h2, h3, h4, h5, h6, h7, h8, h9, h10, h11, or_self, if_false] <;> rfl)))
end Go.Proofs.Ytgodaiiegcdpcaa.Abs.MC
end
section
set_option linter.unusedVariables false
set_option linter.unusedSimpArgs false
namespace Go.Proofs.Ytgodaiiegcdpcaa.Abs.MC
open Go.Proofs.Ytgodaiiegcdpcaa.Abs
set_option linter.unusedSimpArgs false
set_option linter.unusedVariables false
set_option maxRecDepth 10000
/-- A step is right for so many places. -/
def stepOk (s : Step) (places : Int) : Bool :=
  inn 1 13 s.op && decide (s = stepNamed s) && inn 0 7 s.r && inn (if 5 ≤ s.op ∧ s.op ≤ 7 then -1 else 0) 7 s.a && inn 0 7 s.b &&
  (if s.op = 1 then inn (-1000000000) 1000000000 s.n else if 5 ≤ s.op ∧ s.op ≤ 8 then inn 0 23 s.n else if s.op = 10 ∨ s.op = 11 then decide (0 ≤ s.n) && decide (s.n < places) else true)
theorem eqs_five {k : IntKind} {o r a b n o' r' a' b' n' : Int} : eqsC [true, true, true, true, true] [.int k o, .int k r, .int k a, .int k b, .int k n] [.int k o', .int k r', .int k a', .int k b', .int k n'] = some (decide (o = o') && decide (r = r') && decide (a = a') && decide (b = b') && decide (n = n')) := by
  simp only [eqs_int, eqs_nil]
  by_cases h1 : o = o' <;> by_cases h2 : r = r' <;> by_cases h3 : a = a' <;> by_cases h4 : b = b' <;> by_cases h5 : n = n' <;> simp [h1, h2, h3, h4, h5]
end Go.Proofs.Ytgodaiiegcdpcaa.Abs.MC
end
section
set_option linter.unusedVariables false
set_option linter.unusedSimpArgs false
namespace Go.Proofs.Ytgodaiiegcdpcaa.Abs.MC
open Go.Proofs.Ytgodaiiegcdpcaa.Abs
set_option linter.unusedSimpArgs false
set_option linter.unusedVariables false
set_option maxRecDepth 10000
set_option maxHeartbeats 8000000 in
theorem s119 {fl : Bool} {s : Step} {places : Int} : Runs (gam code) (.fn 119 [.agg (imL fl (Enc.d s)), .c (.int .i64 places)] [] (.c (.bool (stepOk s places))) []) := by
  obtain ⟨op, r, a, b, n⟩ := s
  refine W.is (fn := a119) rfl rfl ?_
  rw [start_im (by repeat (first | exact Pls.nil | refine Pls.c rfl ?_ | refine Pls.agg ?_))]
  simp only [a119]
  rcases ops13 op with h | h | h | h | h | h | h | h | h | h | h | h | h | ⟨h1, h2, h3, h4, h5, h6, h7, h8, h9, h10, h11, h12, h13⟩
  all_goals
    first
    | subst h
    | skip
  rotate_right 1
  · have hop : inn 1 13 op = false := by simp [inn]; omega
    have hop' : (!(decide (1 ≤ op) && decide (op ≤ 13))) = true := by rw [show (decide (1 ≤ op) && decide (op ≤ 13)) = inn 1 13 op from rfl, hop]; rfl
    repeat (first | refine wk1 ?_ | (apply WO.cb s50; (· exact lends)) | (apply WO.cb s144; (· exact lends)) | (apply WO.cs s157; (· exact lends); (· rfl)) | refine WO.eqs rfl rfl eqs_step ?_)
    refine W.if rfl (fun hb => ?_) (fun hb => ?_)
    · repeat (first | refine wk1 ?_ | (apply WO.cb s50; (· exact lends)) | (apply WO.cb s144; (· exact lends)) | (apply WO.cs s157; (· exact lends); (· rfl)) | refine WO.eqs rfl rfl eqs_step ?_)
      generalize hg : (!(decide (1 ≤ op) && decide (op ≤ 13))) = g
      cases g
      · rw [hop'] at hg; cases hg
      repeat (first | refine wk1 ?_ | (apply WO.cb s50; (· exact lends)) | (apply WO.cb s144; (· exact lends)) | (apply WO.cs s157; (· exact lends); (· rfl)) | refine WO.eqs rfl rfl eqs_step ?_)
      exact W.ret (endQ.sc (.inr rfl) rfl rfl (vb (by simp [stepOk, hop])))
    · repeat (first | refine wk1 ?_ | (apply WO.cb s50; (· exact lends)) | (apply WO.cb s144; (· exact lends)) | (apply WO.cs s157; (· exact lends); (· rfl)) | refine WO.eqs rfl rfl eqs_step ?_)
      generalize hg : (!(decide (1 ≤ op) && decide (op ≤ 13))) = g
      cases g
      · rw [hop'] at hg; cases hg
      repeat (first | refine wk1 ?_ | (apply WO.cb s50; (· exact lends)) | (apply WO.cb s144; (· exact lends)) | (apply WO.cs s157; (· exact lends); (· rfl)) | refine WO.eqs rfl rfl eqs_step ?_)
      exact W.ret (endQ.sc (.inr rfl) rfl rfl (vb (by simp [stepOk, hop])))
  all_goals
    repeat (first | refine wk1 ?_ | (apply WO.cb s50; (· exact lends)) | (apply WO.cb s144; (· exact lends)) | (apply WO.cs s157; (· exact lends); (· rfl)) | refine WO.eqs rfl rfl eqs_step ?_ | refine WO.gs rfl (fun hb => by (repeat (first | refine wk1 ?_ | (apply WO.cb s50; (· exact lends)) | (apply WO.cb s144; (· exact lends)) | (apply WO.cs s157; (· exact lends); (· rfl)) | refine WO.eqs rfl rfl eqs_step ?_)); exact W.ret (endQ.sc (.inr rfl) rfl rfl (by (rw [show stepOk _ _ = false from by (first | (simp [stepOk, stepNamed, inn] at hb ⊢; omega) | (simp [stepOk, stepNamed, inn] at hb ⊢; done))])))) (fun hb => ?_))
    refine W.if rfl (fun hb => ?_) (fun hb => ?_)
    · repeat (first | refine wk1 ?_ | (apply WO.cb s50; (· exact lends)) | (apply WO.cb s144; (· exact lends)) | (apply WO.cs s157; (· exact lends); (· rfl)) | refine WO.eqs rfl rfl eqs_step ?_)
      exact W.ret (endQ.sc (.inr rfl) rfl rfl (by (rw [show stepOk _ _ = false from by (first | (simp [stepOk, stepNamed, inn] at hb ⊢; omega) | (simp [stepOk, stepNamed, inn] at hb ⊢; done))])))
    repeat (first | refine wk1 ?_ | (apply WO.cb s50; (· exact lends)) | (apply WO.cb s144; (· exact lends)) | (apply WO.cs s157; (· exact lends); (· rfl)) | refine WO.eqs rfl rfl eqs_step ?_ | refine WO.gs rfl (fun hb => by (repeat (first | refine wk1 ?_ | (apply WO.cb s50; (· exact lends)) | (apply WO.cb s144; (· exact lends)) | (apply WO.cs s157; (· exact lends); (· rfl)) | refine WO.eqs rfl rfl eqs_step ?_)); exact W.ret (endQ.sc (.inr rfl) rfl rfl (by (rw [show stepOk _ _ = false from by (first | (simp [stepOk, stepNamed, inn] at hb ⊢; omega) | (simp [stepOk, stepNamed, inn] at hb ⊢; done))])))) (fun hb => ?_))
    exact W.ret (endQ.sc (.inr rfl) rfl rfl (vb (by rw [Bool.eq_iff_iff]; first | (simp [stepOk, stepNamed, inn] at *; omega) | (simp [stepOk, stepNamed, inn] at *; done))))
end Go.Proofs.Ytgodaiiegcdpcaa.Abs.MC
end
section
set_option linter.unusedVariables false
set_option linter.unusedSimpArgs false
namespace Go.Proofs.Ytgodaiiegcdpcaa.Abs.MC
open Go.Proofs.Ytgodaiiegcdpcaa.Abs
set_option linter.unusedSimpArgs false
set_option linter.unusedVariables false
set_option maxRecDepth 10000
set_option maxHeartbeats 8000000 in
theorem s120 {fl : Bool} {s : Step} {places : Int} : Runs (gam code) (.fn 120 [.agg (imL fl (Enc.d s)), .c (.int .i64 places)] [] (.c (.bool (stepOk s places))) []) := by
  obtain ⟨op, r, a, b, n⟩ := s
  refine W.is (fn := a120) rfl rfl ?_
  rw [start_im (by repeat (first | exact Pls.nil | refine Pls.c rfl ?_ | refine Pls.agg ?_))]
  simp only [a120]
  dsimp only [Enc.d, imL, D.im]
  rcases ops13 op with h | h | h | h | h | h | h | h | h | h | h | h | h | ⟨h1, h2, h3, h4, h5, h6, h7, h8, h9, h10, h11, h12, h13⟩
  all_goals
    first
    | subst h
    | skip
  rotate_right 1
  · have hop : inn 1 13 op = false := by simp [inn]; omega
    repeat (first | refine wk1 ?_ | (apply WO.cb s63; (· exact lends)) | (apply WO.cb s158; (· exact lends)) | refine WO.eqs rfl rfl eqs_five ?_ | refine W.ifF (beq_c (by assumption)) ?_)
    rw [beq_no h5]
    repeat (first | refine wk1 ?_ | (apply WO.cb s63; (· exact lends)) | (apply WO.cb s158; (· exact lends)) | refine WO.eqs rfl rfl eqs_five ?_ | refine W.ifF (beq_c (by assumption)) ?_)
    rw [beq_no h6]
    repeat (first | refine wk1 ?_ | (apply WO.cb s63; (· exact lends)) | (apply WO.cb s158; (· exact lends)) | refine WO.eqs rfl rfl eqs_five ?_ | refine W.ifF (beq_c (by assumption)) ?_)
    rw [beq_no h7]
    repeat' (first | refine wk1 ?_ | (apply WO.cb s63; (· exact lends)) | (apply WO.cb s158; (· exact lends)) | refine WO.eqs rfl rfl eqs_five ?_ | refine W.ifF (beq_c (by assumption)) ?_ | exact W.ret (endQ.sc (.inr rfl) rfl rfl (vb (by simp only [stepOk, hop, Bool.false_and]))) | refine WO.gs rfl (fun hb => ?_) (fun hb => ?_) | refine W.if rfl (fun hb => ?_) (fun hb => ?_))
  all_goals
    repeat' (first | refine wk1 ?_ | (apply WO.cb s63; (· exact lends)) | (apply WO.cb s158; (· exact lends)) | refine WO.eqs rfl rfl eqs_five ?_ | refine W.ifF (beq_c (by assumption)) ?_ | exact W.ret (endQ.sc (.inr rfl) rfl rfl (vb (by rw [Bool.eq_iff_iff]; first | (simp [stepOk, stepNamed, inn] at *; omega) | (simp [stepOk, stepNamed, inn] at *; done)))) | refine WO.gs rfl (fun hb => ?_) (fun hb => ?_) | refine W.if rfl (fun hb => ?_) (fun hb => ?_))
end Go.Proofs.Ytgodaiiegcdpcaa.Abs.MC
end
section
set_option linter.unusedVariables false
set_option linter.unusedSimpArgs false
namespace Go.Proofs.Ytgodaiiegcdpcaa.Abs.MC
open Go.Proofs.Ytgodaiiegcdpcaa.Abs
set_option linter.unusedSimpArgs false
set_option linter.unusedVariables false
set_option maxRecDepth 10000
/-- Code is right. -/
def codeOk' (L : List Step) : Bool := inn 1 800 L.length && (L.all fun s => stepOk s L.length) && (match L.getLast? with | some s => (s.op == 10) || (s.op == 12) || (s.op == 13) | none => false)
theorem last_get {α : Type} {L : List α} (h : 0 < L.length) : L[L.length - 1]? = L.getLast? := by rw [List.getLast?_eq_getElem?]
theorem ofNat_sub {n : Nat} (h : 0 < n) : ((n : Int) - 1) = ((n - 1 : Nat) : Int) := by omega
theorem s68 {fl : Bool} {L : List Step} (hL : L.length < 2 ^ 40) : Runs (gam code) (.fn 68 [.c (.imm fl 5 L.length (cl fl L))] [] (.c (.bool (codeOk' L))) []) := by
  refine W.is (fn := a68) rfl rfl ?_
  rw [start_im (by repeat (first | exact Pls.nil | refine Pls.c rfl ?_ | refine Pls.agg ?_))]
  simp only [a68]
  repeat (first | refine wk1 ?_ | (apply WO.cb s50; (· exact lends)) | (apply WO.cb s119; (· exact lends)))
  refine W.if rfl (fun hb => ?_) (fun hb => ?_)
  · repeat (first | refine wk1 ?_ | (apply WO.cb s50; (· exact lends)) | (apply WO.cb s119; (· exact lends)))
    exact W.ret (endQ.sc (.inr rfl) rfl rfl (vb (by simp only [codeOk', inn, not_t hb, Bool.false_and])))
  have h1 := not_f hb
  repeat (first | refine wk1 ?_ | (apply WO.cb s50; (· exact lends)) | (apply WO.cb s119; (· exact lends)))
  refine W.for (fun i T H n => Ag [(0, .c (.imm fl 5 L.length (cl fl L))), (10, .c (.imm fl 5 L.length (cl fl L))), (11, .c (.int .i64 L.length)), (12, .c (.int .i64 ((i : Nat) : Int)))] T ∧ (L.take i).all (fun s => stepOk s L.length) = true) L.length ⟨⟨rfl, rfl, rfl, rfl, trivial⟩, by simp⟩ ?_
  rintro i T H n hi ⟨hT, he⟩
  obtain ⟨T, rfl⟩ := hT.fix
  simp only [ups]
  clear hT
  repeat (first | refine wk1 ?_ | (apply WO.cb s50; (· exact lends)) | (apply WO.cb s119; (· exact lends)))
  refine W.if rfl (fun hb => ?_) (fun hb => ?_)
  · have hlt : i < L.length := by simpa using hb
    have hx : L[i]? = some L[i] := List.getElem?_eq_getElem hlt
    repeat (first | refine wk1 ?_ | (apply WO.cb s50; (· exact lends)) | (apply WO.cb s119; (· exact lends)))
    refine W.if rfl (fun hb => ?_) (fun hb => ?_)
    · repeat (first | refine wk1 ?_ | (apply WO.cb s50; (· exact lends)) | (apply WO.cb s119; (· exact lends)))
      exact W.ret (endQ.sc (.inr rfl) rfl rfl (vb (by simp only [codeOk']; rw [all_no hx (not_t hb), Bool.and_false, Bool.false_and])))
    · repeat (first | refine wk1 ?_ | (apply WO.cb s50; (· exact lends)) | (apply WO.cb s119; (· exact lends)))
      exact ⟨hlt, ⟨rfl, rfl, rfl, wrap_c (by omega), trivial⟩, all_step he hx (not_f hb)⟩
  · have hge : i = L.length := by simp at hb; omega
    subst hge
    rw [List.take_length] at he
    have h0 : 0 < L.length := by simp [inn] at h1; omega
    have hx : L[L.length - 1]? = some L[L.length - 1] := List.getElem?_eq_getElem (by omega)
    have hlast := last_get h0
    rw [hx] at hlast
    refine W.exit ?_
    show W _ _ _ _
    repeat (first | refine wk1 ?_ | (apply WO.cb s50; (· exact lends)) | (apply WO.cb s119; (· exact lends)))
    rw [len1 hL, ofNat_sub h0]
    repeat' (first | refine wk1 ?_ | (apply WO.cb s50; (· exact lends)) | (apply WO.cb s119; (· exact lends)) | exact W.ret (endQ.sc (.inr rfl) rfl rfl (vb (by simp only [codeOk', inn, h1, he, ← hlast, Bool.true_and]; simp_all))) | refine WO.gs rfl (fun hb => ?_) (fun hb => ?_) | refine W.if rfl (fun hb => ?_) (fun hb => ?_))
theorem s71 {fl : Bool} {L : List Step} (hL : L.length < 2 ^ 40) : Runs (gam code) (.fn 71 [.c (.imm fl 5 L.length (cl fl L))] [] (.c (.bool (codeOk' L))) []) := by
  refine W.is (fn := a71) rfl rfl ?_
  rw [start_im (by repeat (first | exact Pls.nil | refine Pls.c rfl ?_ | refine Pls.agg ?_))]
  simp only [a71]
  repeat (first | refine wk1 ?_ | (apply WO.cb s63; (· exact lends)) | (apply WO.cb s120; (· exact lends)))
  refine W.if rfl (fun hb => ?_) (fun hb => ?_)
  · repeat (first | refine wk1 ?_ | (apply WO.cb s63; (· exact lends)) | (apply WO.cb s120; (· exact lends)))
    exact W.ret (endQ.sc (.inr rfl) rfl rfl (vb (by simp only [codeOk', inn, not_t hb, Bool.false_and])))
  have h1 := not_f hb
  repeat (first | refine wk1 ?_ | (apply WO.cb s63; (· exact lends)) | (apply WO.cb s120; (· exact lends)))
  refine W.for (fun i T H n => Ag [(0, .c (.imm fl 5 L.length (cl fl L))), (3, .c (.int .i64 L.length)), (4, .c (.int .i64 ((i : Nat) : Int)))] T ∧ (L.take i).all (fun s => stepOk s L.length) = true) L.length ⟨⟨rfl, rfl, rfl, trivial⟩, by simp⟩ ?_
  rintro i T H n hi ⟨hT, he⟩
  obtain ⟨T, rfl⟩ := hT.fix
  simp only [ups]
  clear hT
  repeat (first | refine wk1 ?_ | (apply WO.cb s63; (· exact lends)) | (apply WO.cb s120; (· exact lends)))
  refine W.if rfl (fun hb => ?_) (fun hb => ?_)
  · have hlt : i < L.length := by simpa using hb
    have hx : L[i]? = some L[i] := List.getElem?_eq_getElem hlt
    repeat (first | refine wk1 ?_ | (apply WO.cb s63; (· exact lends)) | (apply WO.cb s120; (· exact lends)))
    refine W.if rfl (fun hb => ?_) (fun hb => ?_)
    · repeat (first | refine wk1 ?_ | (apply WO.cb s63; (· exact lends)) | (apply WO.cb s120; (· exact lends)))
      exact W.ret (endQ.sc (.inr rfl) rfl rfl (vb (by simp only [codeOk']; rw [all_no hx (not_t hb), Bool.and_false, Bool.false_and])))
    · repeat (first | refine wk1 ?_ | (apply WO.cb s63; (· exact lends)) | (apply WO.cb s120; (· exact lends)))
      exact ⟨hlt, ⟨rfl, rfl, wrap_c (by omega), trivial⟩, all_step he hx (not_f hb)⟩
  · have hge : i = L.length := by simp at hb; omega
    subst hge
    rw [List.take_length] at he
    have h0 : 0 < L.length := by simp [inn] at h1; omega
    have hx : L[L.length - 1]? = some L[L.length - 1] := List.getElem?_eq_getElem (by omega)
    have hlast := last_get h0
    rw [hx] at hlast
    refine W.exit ?_
    show W _ _ _ _
    repeat (first | refine wk1 ?_ | (apply WO.cb s63; (· exact lends)) | (apply WO.cb s120; (· exact lends)))
    rw [len1 hL, ofNat_sub h0]
    repeat' (first | refine wk1 ?_ | (apply WO.cb s63; (· exact lends)) | (apply WO.cb s120; (· exact lends)) | exact W.ret (endQ.sc (.inr rfl) rfl rfl (vb (by simp only [codeOk', inn, h1, he, ← hlast, Bool.true_and]; simp_all))) | refine WO.gs rfl (fun hb => ?_) (fun hb => ?_) | refine W.if rfl (fun hb => ?_) (fun hb => ?_))
end Go.Proofs.Ytgodaiiegcdpcaa.Abs.MC
end
section
set_option linter.unusedVariables false
set_option linter.unusedSimpArgs false
namespace Go.Proofs.Ytgodaiiegcdpcaa.Abs.MC
open Go.Proofs.Ytgodaiiegcdpcaa.Abs
set_option linter.unusedSimpArgs false
set_option linter.unusedVariables false
set_option maxRecDepth 10000
/-- A core is right, of its code. -/
def coreOk (m : Mem) (c : Core) (L : List Step) : Bool := codeOk' L && decide (c.regs.length = 8) && inn 0 ((L.length : Int) - 1) c.at' && inn 0 2 c.state && viewOk m c.view
def machOk (m : Mach) : Bool := inn 1 4 m.codes.length && decide (m.cores.length = m.codes.length) && memOk m.mem && notesOk m.trace m.cores.length && (m.cores.zip m.codes).all fun p => coreOk m.mem p.1 p.2
structure Mach.sm (m : Mach) : Prop where
  codes : m.codes.length < 2 ^ 40
  code : ∀ L ∈ m.codes, L.length < 2 ^ 40
  cores : m.cores.length < 2 ^ 40
  core : ∀ c ∈ m.cores, c.regs.length < 2 ^ 40 ∧ c.view.length < 2 ^ 40
  mem : m.mem.sm
  trace : m.trace.length < 2 ^ 40
theorem ne_bool8 {a : Nat} : (((a : Nat) : Int) != 8) = !decide (a = 8) := ne_bool (b := 8)
theorem s23 {fl : Bool} {m : Mach} (hm : m.sm) : Runs (gam code) (.fn 23 [.agg (imL fl m.d)] [] (.c (.bool (machOk m))) []) := by
  obtain ⟨k1, k2, k3, k4, k5, k6⟩ := hm
  refine W.is (fn := a23) rfl rfl ?_
  rw [start_im (by repeat (first | exact Pls.nil | refine Pls.c rfl ?_ | refine Pls.agg ?_))]
  simp only [a23]
  repeat (first | refine wk1 ?_ | (apply WO.cb s50; (· exact lends)) | (apply WO.cb (s41 ?_); (· exact lends); rotate_left 1; (· assumption)) | (apply WO.cb (s67 ?_ ?_); (· exact lends); rotate_left 1; (· assumption); (· assumption)) | (apply WO.cb (s68 ?_); (· exact lends); rotate_left 1; (· assumption)) | (apply WO.cb (s69 ?_); (· exact lends); rotate_left 1; (· assumption)) | refine WO.gs rfl (fun hb => by (repeat (first | refine wk1 ?_ | (apply WO.cb s50; (· exact lends)) | (apply WO.cb (s41 ?_); (· exact lends); rotate_left 1; (· assumption)) | (apply WO.cb (s67 ?_ ?_); (· exact lends); rotate_left 1; (· assumption); (· assumption)) | (apply WO.cb (s68 ?_); (· exact lends); rotate_left 1; (· assumption)) | (apply WO.cb (s69 ?_); (· exact lends); rotate_left 1; (· assumption)))); exact W.ret (endQ.sc (.inr rfl) rfl rfl (by (rw [show machOk m = false from by (first | (simp only [machOk, inn, not_t hb, Bool.false_and, Bool.and_false]; done) | (rw [ne_bool] at hb; simp [machOk]; intros; simp_all; done))])))) (fun hb => ?_))
  refine W.if rfl (fun hb => ?_) (fun hb => ?_)
  · repeat (first | refine wk1 ?_ | (apply WO.cb s50; (· exact lends)) | (apply WO.cb (s41 ?_); (· exact lends); rotate_left 1; (· assumption)) | (apply WO.cb (s67 ?_ ?_); (· exact lends); rotate_left 1; (· assumption); (· assumption)) | (apply WO.cb (s68 ?_); (· exact lends); rotate_left 1; (· assumption)) | (apply WO.cb (s69 ?_); (· exact lends); rotate_left 1; (· assumption)))
    exact W.ret (endQ.sc (.inr rfl) rfl rfl (vb (by simp only [machOk, not_t hb, Bool.false_and, Bool.and_false])))
  rename_i q1 q2 q3
  have c1 := not_f q1
  rw [ne_bool] at q2
  have c2 := not_f q2
  have c3 := not_f q3
  have c4 := not_f hb
  clear q1 q2 q3 hb
  have hl : m.cores.length = m.codes.length := by simpa using c2
  repeat (first | refine wk1 ?_ | (apply WO.cb s50; (· exact lends)) | (apply WO.cb (s41 ?_); (· exact lends); rotate_left 1; (· assumption)) | (apply WO.cb (s67 ?_ ?_); (· exact lends); rotate_left 1; (· assumption); (· assumption)) | (apply WO.cb (s68 ?_); (· exact lends); rotate_left 1; (· assumption)) | (apply WO.cb (s69 ?_); (· exact lends); rotate_left 1; (· assumption)))
  refine W.for (fun i T H n => Ag [(1, .c (.ptr (1, 0, 0, 0) [] 0)), (35, .c (.imm fl 4 m.cores.length (cl fl m.cores))), (36, .c (.int .i64 m.cores.length)), (37, .c (.int .i64 ((i : Nat) : Int)))] T ∧ H (1, 0, 0, 0) = some (imL fl m.d) ∧ 1 < n ∧ ((m.cores.zip m.codes).take i).all (fun p => coreOk m.mem p.1 p.2) = true) m.cores.length ⟨⟨rfl, rfl, rfl, rfl, trivial⟩, rfl, ats, by simp⟩ ?_
  rintro i T H n hi ⟨hT, hH, hn, he⟩
  obtain ⟨T, rfl⟩ := hT.fix
  simp only [ups]
  clear hT
  repeat (first | refine wk1 ?_ | (apply WO.cb s50; (· exact lends)) | (apply WO.cb (s41 ?_); (· exact lends); rotate_left 1; (· assumption)) | (apply WO.cb (s67 ?_ ?_); (· exact lends); rotate_left 1; (· assumption); (· assumption)) | (apply WO.cb (s68 ?_); (· exact lends); rotate_left 1; (· assumption)) | (apply WO.cb (s69 ?_); (· exact lends); rotate_left 1; (· assumption)))
  refine W.if rfl (fun hb => ?_) (fun hb => ?_)
  · have hlt : i < m.cores.length := by simpa using hb
    have hlt' : i < m.codes.length := by omega
    have hx : m.cores[i]? = some m.cores[i] := List.getElem?_eq_getElem hlt
    have hy : m.codes[i]? = some m.codes[i] := List.getElem?_eq_getElem hlt'
    have r1 := k2 m.codes[i] (List.getElem_mem _)
    have r2 := k4 m.cores[i] (List.getElem_mem _)
    have r3 := r2.1
    have r4 := r2.2
    repeat (first | refine wk1 ?_ | (apply WO.cb s50; (· exact lends)) | (apply WO.cb (s41 ?_); (· exact lends); rotate_left 1; (· assumption)) | (apply WO.cb (s67 ?_ ?_); (· exact lends); rotate_left 1; (· assumption); (· assumption)) | (apply WO.cb (s68 ?_); (· exact lends); rotate_left 1; (· assumption)) | (apply WO.cb (s69 ?_); (· exact lends); rotate_left 1; (· assumption)) | refine WO.gs rfl (fun hb => by (repeat (first | refine wk1 ?_ | (apply WO.cb s50; (· exact lends)) | (apply WO.cb (s41 ?_); (· exact lends); rotate_left 1; (· assumption)) | (apply WO.cb (s67 ?_ ?_); (· exact lends); rotate_left 1; (· assumption); (· assumption)) | (apply WO.cb (s68 ?_); (· exact lends); rotate_left 1; (· assumption)) | (apply WO.cb (s69 ?_); (· exact lends); rotate_left 1; (· assumption)))); exact W.ret (endQ.sc (.inr rfl) rfl rfl (by (rw [show machOk m = false from by (simp only [machOk]; rw [all_no (zip_get hx hy), Bool.and_false]; first | (simp only [coreOk, inn, not_t hb, Bool.false_and, Bool.and_false]; done) | (rw [ne_bool8] at hb; simp [coreOk]; intros; simp_all; done))])))) (fun hb => ?_))
    rw [len1 r1]
    refine W.if rfl (fun hb => ?_) (fun hb => ?_)
    · repeat (first | refine wk1 ?_ | (apply WO.cb s50; (· exact lends)) | (apply WO.cb (s41 ?_); (· exact lends); rotate_left 1; (· assumption)) | (apply WO.cb (s67 ?_ ?_); (· exact lends); rotate_left 1; (· assumption); (· assumption)) | (apply WO.cb (s68 ?_); (· exact lends); rotate_left 1; (· assumption)) | (apply WO.cb (s69 ?_); (· exact lends); rotate_left 1; (· assumption)))
      exact W.ret (endQ.sc (.inr rfl) rfl rfl (vb (by simp only [machOk]; rw [all_no (zip_get hx hy), Bool.and_false]; simp only [coreOk, inn, not_t hb, Bool.false_and, Bool.and_false])))
    rename_i q1 q2
    have d1 := not_f q1
    rw [ne_bool8] at q2
    have d2 := not_f q2
    have d3 := not_f hb
    clear q1 q2 hb
    repeat (first | refine wk1 ?_ | (apply WO.cb s50; (· exact lends)) | (apply WO.cb (s41 ?_); (· exact lends); rotate_left 1; (· assumption)) | (apply WO.cb (s67 ?_ ?_); (· exact lends); rotate_left 1; (· assumption); (· assumption)) | (apply WO.cb (s68 ?_); (· exact lends); rotate_left 1; (· assumption)) | (apply WO.cb (s69 ?_); (· exact lends); rotate_left 1; (· assumption)) | refine WO.gs rfl (fun hb => by (repeat (first | refine wk1 ?_ | (apply WO.cb s50; (· exact lends)) | (apply WO.cb (s41 ?_); (· exact lends); rotate_left 1; (· assumption)) | (apply WO.cb (s67 ?_ ?_); (· exact lends); rotate_left 1; (· assumption); (· assumption)) | (apply WO.cb (s68 ?_); (· exact lends); rotate_left 1; (· assumption)) | (apply WO.cb (s69 ?_); (· exact lends); rotate_left 1; (· assumption)))); exact W.ret (endQ.sc (.inr rfl) rfl rfl (by (rw [show machOk m = false from by (simp only [machOk]; rw [all_no (zip_get hx hy), Bool.and_false]; simp only [coreOk, inn, not_t hb, Bool.false_and, Bool.and_false])])))) (fun hb => ?_))
    refine W.if rfl (fun hb => ?_) (fun hb => ?_)
    · repeat (first | refine wk1 ?_ | (apply WO.cb s50; (· exact lends)) | (apply WO.cb (s41 ?_); (· exact lends); rotate_left 1; (· assumption)) | (apply WO.cb (s67 ?_ ?_); (· exact lends); rotate_left 1; (· assumption); (· assumption)) | (apply WO.cb (s68 ?_); (· exact lends); rotate_left 1; (· assumption)) | (apply WO.cb (s69 ?_); (· exact lends); rotate_left 1; (· assumption)))
      exact W.ret (endQ.sc (.inr rfl) rfl rfl (vb (by simp only [machOk]; rw [all_no (zip_get hx hy), Bool.and_false]; simp only [coreOk, inn, not_t hb, Bool.false_and, Bool.and_false])))
    rename_i q1
    have d4 := not_f q1
    have d5 := not_f hb
    repeat (first | refine wk1 ?_ | (apply WO.cb s50; (· exact lends)) | (apply WO.cb (s41 ?_); (· exact lends); rotate_left 1; (· assumption)) | (apply WO.cb (s67 ?_ ?_); (· exact lends); rotate_left 1; (· assumption); (· assumption)) | (apply WO.cb (s68 ?_); (· exact lends); rotate_left 1; (· assumption)) | (apply WO.cb (s69 ?_); (· exact lends); rotate_left 1; (· assumption)))
    exact ⟨hlt, ⟨rfl, rfl, rfl, wrap_c (by omega), trivial⟩, hh, ats, all_step he (zip_get hx hy) (by simp only [coreOk, inn, d1, d2, d3, d4, d5, Bool.and_self])⟩
  · have hge : i = m.cores.length := by simp at hb; omega
    subst hge
    rw [List.take_of_length_le (by rw [List.length_zip]; omega)] at he
    refine W.exit ?_
    show W _ _ _ _
    repeat (first | refine wk1 ?_ | (apply WO.cb s50; (· exact lends)) | (apply WO.cb (s41 ?_); (· exact lends); rotate_left 1; (· assumption)) | (apply WO.cb (s67 ?_ ?_); (· exact lends); rotate_left 1; (· assumption); (· assumption)) | (apply WO.cb (s68 ?_); (· exact lends); rotate_left 1; (· assumption)) | (apply WO.cb (s69 ?_); (· exact lends); rotate_left 1; (· assumption)))
    exact W.ret (endQ.sc (.inr rfl) rfl rfl (vb (by simp only [machOk, inn, c1, c2, c3, c4, he, Bool.and_self])))
end Go.Proofs.Ytgodaiiegcdpcaa.Abs.MC
end
