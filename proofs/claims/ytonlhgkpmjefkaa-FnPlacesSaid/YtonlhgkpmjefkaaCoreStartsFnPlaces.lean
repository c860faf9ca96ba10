/- Where each place's steps begin: the program's and the reference's sums are alike, for all bodies. -/
import Derived.Test.YtonlhgkpmjefkaaXFnPlacesx13
import Derived.Test.YtonlhgkpmjefkaaLib
import Derived.Test.YtonlhgkpmjefkaaCoreProgFnPlaces
namespace Go.Proofs.Ytonlhgkpmjefkaa.CoreStartsFnPlaces
open Go.RowKit Go.Proofs.Ytonlhgkpmjefkaa.XFnPlaces Go.Proofs.Ytonlhgkpmjefkaa.Lib Go.Proofs.Ytonlhgkpmjefkaa.CoreInsFnPlaces Go.Proofs.Ytonlhgkpmjefkaa.CoreBodyFnPlaces Go.Proofs.YtonlhgkpmjefkaaW.PrintWords Go.Proofs.YtonlhgkpmjefkaaW.PrintLast Go.Proofs.YtonlhgkpmjefkaaW.PrintMore
set_option linter.unusedVariables false
set_option linter.unusedSimpArgs false

/-- How many steps a place's code has. -/
def size (op : Int) : Int := if op = 5 then 29 else if op = 7 then 31 else if op = 6 then 30 else if op = 8 then 32 else if op = 9 then 13 else if 1 ≤ op ∧ op ≤ 13 then 1 else 0
theorem size_range (op : Int) : 0 ≤ size op ∧ size op ≤ 32 := by
  unfold size
  repeat' split
  all_goals omega
theorem spec_size (op r a b n : Int) : spec_EmitSize.f op r a b n = some (size op) := by
  unfold spec_EmitSize.f size
  by_cases c1 : op = 5
  · rw [if_pos c1, if_pos c1]
  rw [if_neg c1, if_neg c1]
  by_cases c2 : op = 7
  · rw [if_pos c2, if_pos c2]
  rw [if_neg c2, if_neg c2]
  by_cases c3 : op = 6
  · rw [if_pos c3, if_pos c3]
  rw [if_neg c3, if_neg c3]
  by_cases c4 : op = 8
  · rw [if_pos c4, if_pos c4]
  rw [if_neg c4, if_neg c4]
  by_cases c5 : op = 9
  · rw [if_pos c5, if_pos c5]
  rw [if_neg c5, if_neg c5, in_eq]
  by_cases c6 : 1 ≤ op ∧ op ≤ 13
  · rw [if_pos c6, decide_eq_true c6]
    rfl
  · rw [if_neg c6, decide_eq_false c6]
    rfl
theorem impl_size (op r a b n : Int) : impl_EmitSize.f op r a b n = some (size op) := spec_size op r a b n
/-- Where place i's steps begin. -/
def first (l : List S37) : Nat → Int
  | 0 => 0
  | i + 1 => first l i + size (l.getD i z37).f0
theorem first_range (l : List S37) (i : Nat) : 0 ≤ first l i ∧ first l i ≤ 32 * (i : Int) := by
  induction i with
  | zero => simp [first]
  | succ i ih =>
    have := size_range (l.getD i z37).f0
    unfold first
    omega
def firsts (l : List S37) (n : Nat) : List Int := (List.range n).map (first l)
theorem firsts_length (l : List S37) (n : Nat) : (firsts l n).length = n := by simp [firsts]
theorem firsts_get (l : List S37) (n i : Nat) (h : i < n) : (firsts l n).getD i 0 = first l i := by
  simp [firsts, List.getD_eq_getElem?_getD, h]
theorem firsts_succ (l : List S37) (n : Nat) : firsts l (n + 1) = firsts l n ++ [first l n] := by
  simp [firsts, List.range_succ]
theorem impl_starts (l : List S37) (hl : l.length ≤ 1048576) : ∀ (n i : Nat), i + n = l.length → Ev (fun k => impl_startsOf.l0 k (firsts l i) (first l i) l (l.length : Int) i) (firsts l l.length) := by
  intro n
  induction n with
  | zero =>
    intro i hi
    refine Ev.step (f := fun _ => some (firsts l i)) (fun k => ?_) (ev_some (by rw [show i = l.length by omega]))
    rw [impl_startsOf.l0, if_neg (by omega)]
  | succ n ih =>
    intro i hi
    have h1 := first_range l i
    have h2 := size_range (l.getD i z37).f0
    refine Ev.step (fun k => ?_) (ih (i + 1) (by omega))
    rw [impl_startsOf.l0, if_pos (by omega), if_pos (by omega), if_pos (by omega), firsts_length, if_pos (by omega), rdIns_nat, impl_size]
    simp only [Option.bind_some]
    rw [w64 (by omega) (by omega), w64_nat (by omega), firsts_succ]
    rfl
theorem impl_starts_ev (l : List S37) (hl : l.length ≤ 1048576) : Ev (fun k => impl_startsOf.f k l) (firsts l l.length) := impl_starts l hl l.length 0 (by omega)
theorem spec_starts (l : List S37) (hl : l.length ≤ 1048576) : ∀ (n i : Nat), i + n = l.length → Ev (fun k => spec_l11Starts.l0 k l (firsts l (i + 1)) i) (firsts l (l.length + 1)) := by
  intro n
  induction n with
  | zero =>
    intro i hi
    refine Ev.step (f := fun _ => some (firsts l (i + 1))) (fun k => ?_) (ev_some (by rw [show i = l.length by omega]))
    rw [spec_l11Starts.l0, if_neg (by omega)]
  | succ n ih =>
    intro i hi
    have h1 := first_range l i
    have h2 := size_range (l.getD i z37).f0
    refine Ev.step (fun k => ?_) (ih (i + 1) (by omega))
    rw [spec_l11Starts.l0, if_pos (by omega), if_pos (by omega), firsts_length, if_pos (by omega), rdIns_nat, spec_size]
    simp only [Option.bind_some]
    rw [if_pos (by omega), rd_nat, firsts_get l (i + 1) i (by omega), w64 (by omega) (by omega), w64_nat (by omega), firsts_succ l (i + 1)]
    rfl
theorem spec_starts_ev (l : List S37) (hl : l.length ≤ 1048576) : Ev (fun k => spec_l11Starts.f k l) (firsts l (l.length + 1)) := by
  have h := spec_starts l hl l.length 0 (by omega)
  exact h
end Go.Proofs.Ytonlhgkpmjefkaa.CoreStartsFnPlaces
