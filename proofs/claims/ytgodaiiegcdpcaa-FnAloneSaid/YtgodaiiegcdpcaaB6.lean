/- The program's functions, told in that language, and what each of them answers; each theorem bears its own conditions. -/
import Derived.Test.YtgodaiiegcdpcaaB5
section
set_option linter.unusedVariables false
set_option linter.unusedSimpArgs false
namespace Go.Proofs.Ytgodaiiegcdpcaa.Abs.MC
open Go.Proofs.Ytgodaiiegcdpcaa.Abs
set_option linter.unusedSimpArgs false
set_option linter.unusedVariables false
set_option maxRecDepth 10000
theorem machOk_ne {m : Mach} (h : machOk m = true) : m.mem ≠ [] ∧ m.cores ≠ [] ∧ m.codes ≠ [] := by
  have h1 := machOk_mem h
  simp only [machOk, inn, Bool.and_eq_true, decide_eq_true_eq] at h
  simp only [memOk, Bool.and_eq_true, decide_eq_true_eq] at h1
  refine ⟨fun e => ?_, fun e => ?_, fun e => ?_⟩
  · rw [e] at h1; simp at h1
  · have := h.1.1.1.2; rw [e] at this; have := h.1.1.1.1; simp at *; omega
  · have := h.1.1.1.1; rw [e] at this; simp at this
theorem goOn_two {m : Mach} {q : Nat} {c : Core} {n : Int} : (goOn m q c n).2 = 0 := rfl
theorem rest_two {m : Mach} {q : Nat} {c : Core} {n : Int} : (rest m q c n).2 = 0 := rfl
theorem mmem_keep {m : Mach} {q : Nat} {late : Int} {c : Core} {s : Step} (h : (mmem m q late c s).2 ≠ 0) : (mmem m q late c s).1 = m := by
  unfold mmem at h ⊢
  split
  · rename_i h1; rw [if_pos h1] at h; exact absurd rest_two h
  rename_i h1; rw [if_neg h1] at h
  split
  · rfl
  rename_i h2; rw [if_neg h2] at h
  split
  · rename_i h3; rw [if_pos h3] at h; exact absurd goOn_two h
  rename_i h3; rw [if_neg h3] at h
  split
  · rename_i h4; rw [if_pos h4] at h; exact absurd goOn_two h
  rename_i h4; rw [if_neg h4] at h; exact absurd goOn_two h
theorem mdo_keep {m : Mach} {q : Nat} {late : Int} {c : Core} {s : Step} (h : (mdo m q late c s).2 ≠ 0) : (mdo m q late c s).1 = m := by
  unfold mdo at h ⊢
  repeat' split at h
  all_goals first
    | exact absurd goOn_two h
    | exact absurd rest_two h
    | (simp only [*, if_true, if_false, or_self, or_true, true_or, reduceIte] <;> first | rfl | exact mmem_keep h)
theorem mstep_keep {m : Mach} {x : Pick} (h : (mstep m x).2 ≠ 0) : (mstep m x).1 = m := by
  unfold mstep at h ⊢
  split
  · rfl
  rename_i h1; rw [if_neg h1] at h
  dsimp only at h ⊢
  split
  · rfl
  rename_i h2; rw [if_neg h2] at h
  exact mdo_keep h
/-- What CoreStep answers. -/
def cstep (m : Mach) (x : Pick) : List D × Int := if machOk m then ((mstep m x).1.d, (mstep m x).2) else ([.nil, .nil, .nil, .nil], 1)
theorem s20 {fl fl' : Bool} {m : Mach} {x : Pick} (hm : m.sm) (hl1 : -(2 ^ 63) ≤ x.late) (hl2 : x.late < 2 ^ 63) :
    Runs (gam code) (.fn 20 [.agg (imL fl m.d), .agg (imL fl' (Enc.d x))] [] (.tup [.agg (owL (cstep m x).1), .c (.int .i64 (cstep m x).2)]) []) := by
  refine W.is (fn := a20) rfl rfl ?_
  rw [start_im (by repeat (first | exact Pls.nil | refine Pls.c rfl ?_ | refine Pls.agg ?_))]
  simp only [a20]
  repeat (first | refine wk1 ?_ | (apply WO.cb (s23 ?_); (· exact lends); rotate_left 1; (· assumption)) | (apply WO.ca (s47 ?_ ?_ ?_ ?_); (· exact lends); (· exact brr); rotate_left 1; (· assumption); (· assumption); (· assumption); (· assumption)))
  rcases hk : machOk m with _ | _
  · rw [show cstep m x = ([.nil, .nil, .nil, .nil], 1) by rw [cstep, hk]; rfl]
    repeat (first | refine wk1 ?_ | (apply WO.cb (s23 ?_); (· exact lends); rotate_left 1; (· assumption)) | (apply WO.ca (s47 ?_ ?_ ?_ ?_); (· exact lends); (· exact brr); rotate_left 1; (· assumption); (· assumption); (· assumption); (· assumption)))
    exact W.ret (endQ.many (.inr rfl) ansr rfl)
  · obtain ⟨n1, n2, n3⟩ := machOk_ne hk
    rw [show cstep m x = ((mstep m x).1.d, (mstep m x).2) by rw [cstep, hk]; rfl]
    repeat (first | refine wk1 ?_ | (apply WO.cb (s23 ?_); (· exact lends); rotate_left 1; (· assumption)) | (apply WO.ca (s47 ?_ ?_ ?_ ?_); (· exact lends); (· exact brr); rotate_left 1; (· assumption); (· assumption); (· assumption); (· assumption)))
    refine WO.ioE (ds := m.d) (ds' := (mstep m x).1.d) rfl hh rfl (by decide) abt (LA.agg (fl := true) (ds := Enc.d x) rfl LA.nil) (s48 hm hk hl1 hl2) brr rfl rfl hh rfl ?_
    generalize mstep m x = r
    obtain ⟨m', k⟩ := r
    repeat (first | refine wk1 ?_ | (apply WO.cb (s23 ?_); (· exact lends); rotate_left 1; (· assumption)) | (apply WO.ca (s47 ?_ ?_ ?_ ?_); (· exact lends); (· exact brr); rotate_left 1; (· assumption); (· assumption); (· assumption); (· assumption)))
    exact W.ret (endQ.many (.inr rfl) ansr rfl)
theorem s21 {fl fl' : Bool} {m : Mach} {x : Pick} (hm : m.sm) (hl1 : -(2 ^ 63) ≤ x.late) (hl2 : x.late < 2 ^ 63) :
    Runs (gam code) (.fn 21 [.agg (imL fl m.d), .agg (imL fl' (Enc.d x))] [] (.tup [.agg (owL (cstep m x).1), .c (.int .i64 (cstep m x).2)]) []) := by
  refine W.is (fn := a21) rfl rfl ?_
  rw [start_im (by repeat (first | exact Pls.nil | refine Pls.c rfl ?_ | refine Pls.agg ?_))]
  simp only [a21]
  repeat (first | refine wk1 ?_ | (apply WO.cb (s24 ?_); (· exact lends); rotate_left 1; (· assumption)) | (apply WO.ca (s64 ?_ ?_ ?_); (· exact lends); (· exact brr); rotate_left 1; (· assumption); (· assumption); (· assumption)) | (apply WO.cb s63; (· exact lends)))
  rcases hk : machOk m with _ | _
  · rw [show cstep m x = ([.nil, .nil, .nil, .nil], 1) by rw [cstep, hk]; rfl]
    repeat (first | refine wk1 ?_ | (apply WO.cb (s24 ?_); (· exact lends); rotate_left 1; (· assumption)) | (apply WO.ca (s64 ?_ ?_ ?_); (· exact lends); (· exact brr); rotate_left 1; (· assumption); (· assumption); (· assumption)) | (apply WO.cb s63; (· exact lends)))
    exact W.ret (endQ.many (.inr rfl) ansr rfl)
  obtain ⟨n1, n2, n3⟩ := machOk_ne hk
  obtain ⟨who, late⟩ := x
  have k3 := hm.cores
  rw [show cstep m ⟨who, late⟩ = ((mstep m ⟨who, late⟩).1.d, (mstep m ⟨who, late⟩).2) by rw [cstep, hk]; rfl]
  repeat (first | refine wk1 ?_ | (apply WO.cb (s24 ?_); (· exact lends); rotate_left 1; (· assumption)) | (apply WO.ca (s64 ?_ ?_ ?_); (· exact lends); (· exact brr); rotate_left 1; (· assumption); (· assumption); (· assumption)) | (apply WO.cb s63; (· exact lends)))
  rw [len1 k3]
  rcases hi : inn 0 ((m.cores.length : Int) - 1) who with _ | _
  · rw [show (decide (0 ≤ who) && decide (who ≤ (m.cores.length : Int) - 1)) = false from hi, show mstep m ⟨who, late⟩ = (m, 2) by rw [mstep, if_pos hi]]
    repeat (first | refine wk1 ?_ | (apply WO.cb (s24 ?_); (· exact lends); rotate_left 1; (· assumption)) | (apply WO.ca (s64 ?_ ?_ ?_); (· exact lends); (· exact brr); rotate_left 1; (· assumption); (· assumption); (· assumption)) | (apply WO.cb s63; (· exact lends)))
    exact W.ret (endQ.many (.inr rfl) ansr rfl)
  rw [show (decide (0 ≤ who) && decide (who ≤ (m.cores.length : Int) - 1)) = true from hi]
  have hin : 0 ≤ who ∧ who ≤ (m.cores.length : Int) - 1 := by simpa [inn] using hi
  obtain ⟨q, rfl⟩ := Int.eq_ofNat_of_zero_le hin.1
  have hq : q < m.cores.length := by omega
  have hx : m.cores[q]? = some m.cores[q] := List.getElem?_eq_getElem hq
  have hg : m.cores.getD ((q : Int)).toNat ⟨0, [], [], 0⟩ = m.cores[q] := getD_some hx
  repeat (first | refine wk1 ?_ | (apply WO.cb (s24 ?_); (· exact lends); rotate_left 1; (· assumption)) | (apply WO.ca (s64 ?_ ?_ ?_); (· exact lends); (· exact brr); rotate_left 1; (· assumption); (· assumption); (· assumption)) | (apply WO.cb s63; (· exact lends)))
  by_cases hst : m.cores[q].state = 0
  rotate_left 1
  · rw [show (m.cores[q].state != 0) = true by simpa using hst, show mstep m ⟨(q : Int), late⟩ = (m, 3) by rw [mstep, if_neg (by rw [hi]; simp)]; simp only [hg]; rw [if_pos hst]]
    repeat (first | refine wk1 ?_ | (apply WO.cb (s24 ?_); (· exact lends); rotate_left 1; (· assumption)) | (apply WO.ca (s64 ?_ ?_ ?_); (· exact lends); (· exact brr); rotate_left 1; (· assumption); (· assumption); (· assumption)) | (apply WO.cb s63; (· exact lends)))
    exact W.ret (endQ.many (.inr rfl) ansr rfl)
  rw [show (m.cores[q].state != 0) = false by simpa using hst]
  repeat (first | refine wk1 ?_ | (apply WO.cb (s24 ?_); (· exact lends); rotate_left 1; (· assumption)) | (apply WO.ca (s64 ?_ ?_ ?_); (· exact lends); (· exact brr); rotate_left 1; (· assumption); (· assumption); (· assumption)) | (apply WO.cb s63; (· exact lends)))
  refine WO.mvT (ds := m.d) rfl abt (LA.agg (fl := true) (ds := Enc.d (⟨(q : Int), late⟩ : Pick)) rfl LA.nil) (s65 hm hk hl1 hl2 hi (by simp only [hg]; exact hst)) btt ?_
  generalize hr : mstep m ⟨(q : Int), late⟩ = r
  obtain ⟨m', k⟩ := r
  repeat (first | refine wk1 ?_ | (apply WO.cb (s24 ?_); (· exact lends); rotate_left 1; (· assumption)) | (apply WO.ca (s64 ?_ ?_ ?_); (· exact lends); (· exact brr); rotate_left 1; (· assumption); (· assumption); (· assumption)) | (apply WO.cb s63; (· exact lends)))
  by_cases h0 : k = 0
  · subst h0
    repeat (first | refine wk1 ?_ | (apply WO.cb (s24 ?_); (· exact lends); rotate_left 1; (· assumption)) | (apply WO.ca (s64 ?_ ?_ ?_); (· exact lends); (· exact brr); rotate_left 1; (· assumption); (· assumption); (· assumption)) | (apply WO.cb s63; (· exact lends)))
    exact W.ret (endQ.many (.inr rfl) ansr rfl)
  · rw [show (k != 0) = true by simpa using h0]
    repeat (first | refine wk1 ?_ | (apply WO.cb (s24 ?_); (· exact lends); rotate_left 1; (· assumption)) | (apply WO.ca (s64 ?_ ?_ ?_); (· exact lends); (· exact brr); rotate_left 1; (· assumption); (· assumption); (· assumption)) | (apply WO.cb s63; (· exact lends)))
    have hk2 := mstep_keep (m := m) (x := ⟨(q : Int), late⟩) (by rw [hr]; exact h0)
    rw [hr] at hk2
    dsimp only at hk2
    subst hk2
    exact W.ret (endQ.many (.inr rfl) ansr rfl)
end Go.Proofs.Ytgodaiiegcdpcaa.Abs.MC
end
section
set_option linter.unusedVariables false
set_option linter.unusedSimpArgs false
namespace Go.Proofs.Ytgodaiiegcdpcaa.Abs.MC
open Go.Proofs.Ytgodaiiegcdpcaa.Abs
set_option linter.unusedSimpArgs false
set_option linter.unusedVariables false
set_option maxRecDepth 10000
/-! ### what a step keeps -/
def VOk (m : Mem) (v : List Int) : Prop := v.length = m.length ∧ ∀ (i : Nat) x r, v[i]? = some x → m[i]? = some r → 0 ≤ x ∧ x ≤ (r.length : Int) - 1
theorem viewOk_iff {m : Mem} {v : List Int} : viewOk m v = true ↔ VOk m v := by
  constructor
  · intro h
    obtain ⟨h1, h2⟩ := viewOk_get h
    refine ⟨h1, fun i x r hx hr => ?_⟩
    obtain ⟨q1, rfl⟩ := List.getElem?_eq_some_iff.1 hx
    obtain ⟨q2, rfl⟩ := List.getElem?_eq_some_iff.1 hr
    exact h2 i q1 q2
  · intro ⟨h1, h2⟩
    simp only [viewOk, inn, Bool.and_eq_true, decide_eq_true_eq, List.all_eq_true]
    refine ⟨h1, fun p hp => ?_⟩
    obtain ⟨i, hi⟩ := List.getElem?_of_mem hp
    obtain ⟨x, r⟩ := p
    rw [List.getElem?_zip_eq_some] at hi
    exact h2 i x r hi.1 hi.2
/-- No cell has fewer writes. -/
def MLe (m m' : Mem) : Prop := m.length = m'.length ∧ ∀ (i : Nat) r r', m[i]? = some r → m'[i]? = some r' → r.length ≤ r'.length
theorem MLe.refl (m : Mem) : MLe m m := ⟨rfl, fun i r r' h h' => by rw [h] at h'; cases h'; exact Nat.le_refl _⟩
theorem VOk.up {m m' : Mem} {v : List Int} (h : VOk m v) (hm : MLe m m') : VOk m' v := by
  refine ⟨h.1.trans hm.1, fun i x r' hx hr' => ?_⟩
  have hlt : i < m.length := by rw [hm.1]; exact (List.getElem?_eq_some_iff.1 hr').1
  have h2 := h.2 i x _ hx (List.getElem?_eq_getElem hlt)
  have h3 := hm.2 i _ r' (List.getElem?_eq_getElem hlt) hr'
  omega
def GeL (a b : List Int) : Prop := a.length = b.length ∧ ∀ (i : Nat) x y, a[i]? = some x → b[i]? = some y → y ≤ x
theorem GeL.refl (a : List Int) : GeL a a := ⟨rfl, fun i x y h h' => by rw [h] at h'; cases h'; exact Int.le_refl _⟩
theorem GeL.trans {a b c : List Int} (h : GeL a b) (k : GeL b c) : GeL a c := by
  refine ⟨h.1.trans k.1, fun i x z hx hz => ?_⟩
  have hlt : i < b.length := by rw [← h.1]; exact (List.getElem?_eq_some_iff.1 hx).1
  have h1 := h.2 i x _ hx (List.getElem?_eq_getElem hlt)
  have h2 := k.2 i _ z (List.getElem?_eq_getElem hlt) hz
  omega
theorem knows_of {a b : List Int} (h : GeL a b) : knows a b = true := by
  simp only [knows, Bool.and_eq_true, decide_eq_true_eq, List.all_eq_true]
  refine ⟨h.1, fun p hp => ?_⟩
  obtain ⟨i, hi⟩ := List.getElem?_of_mem hp
  obtain ⟨x, y⟩ := p
  rw [List.getElem?_zip_eq_some] at hi
  have := h.2 i x y hi.1 hi.2
  simp; omega
theorem VOk.set {m : Mem} {v : List Int} {cell : Nat} {n : Int} (h : VOk m v) (hn : ∀ r, m[cell]? = some r → 0 ≤ n ∧ n ≤ (r.length : Int) - 1) : VOk m (v.set cell n) := by
  refine ⟨by rw [List.length_set]; exact h.1, fun i x r hx hr => ?_⟩
  by_cases hi : cell = i
  · subst hi
    have hlt : cell < v.length := by have := (List.getElem?_eq_some_iff.1 hx).1; rwa [List.length_set] at this
    rw [List.getElem?_set_self hlt] at hx
    cases hx
    exact hn r hr
  · rw [List.getElem?_set_ne hi] at hx
    exact h.2 i x r hx hr
theorem GeL.set {v : List Int} {cell : Nat} {n : Int} (hn : ∀ y, v[cell]? = some y → y ≤ n) : GeL (v.set cell n) v := by
  refine ⟨by simp, fun i x y hx hy => ?_⟩
  by_cases hi : cell = i
  · subst hi
    have hlt := (List.getElem?_eq_some_iff.1 hy).1
    rw [List.getElem?_set_self hlt] at hx
    cases hx
    exact hn y hy
  · rw [List.getElem?_set_ne hi, hy] at hx
    cases hx
    exact Int.le_refl _
theorem VOk.join {m : Mem} {a b : List Int} (ha : VOk m a) (hb : VOk m b) : VOk m (join a b) := by
  refine ⟨by rw [join_len, ha.1, hb.1, Nat.min_self], fun i x r hx hr => ?_⟩
  have hl := (List.getElem?_eq_some_iff.1 hr).1
  have ha1 : i < a.length := by rw [ha.1]; exact hl
  have hb1 : i < b.length := by rw [hb.1]; exact hl
  have h1 : a[i]? = some a[i] := List.getElem?_eq_getElem ha1
  have h2 : b[i]? = some b[i] := List.getElem?_eq_getElem hb1
  rw [join_get h1 h2] at hx
  cases hx
  have := ha.2 i _ r h1 hr
  have := hb.2 i _ r h2 hr
  omega
theorem GeL.join {a b : List Int} (h : a.length = b.length) : GeL (join a b) a := by
  refine ⟨by rw [join_len, h, Nat.min_self], fun i x y hx hy => ?_⟩
  have hl := (List.getElem?_eq_some_iff.1 hy).1
  have hb1 : i < b.length := by omega
  have h2 : b[i]? = some b[i] := List.getElem?_eq_getElem hb1
  rw [join_get hy h2] at hx
  cases hx
  omega
structure MOk (m : Mem) : Prop where
  len : m.length = 24
  cell : ∀ r ∈ m, 1 ≤ r.length ∧ r.length ≤ 4000
  view : ∀ r ∈ m, ∀ w ∈ r, VOk m w.view
theorem memOk_iff {m : Mem} : memOk m = true ↔ MOk m := by
  simp only [memOk, cellOk, inn, Bool.and_eq_true, decide_eq_true_eq, List.all_eq_true, viewOk_iff]
  constructor
  · rintro ⟨h1, h2⟩
    exact ⟨h1, fun r hr => by have := (h2 r hr).1; omega, fun r hr => (h2 r hr).2⟩
  · rintro ⟨h1, h2, h3⟩
    exact ⟨h1, fun r hr => ⟨by have := h2 r hr; omega, h3 r hr⟩⟩
theorem mload_ok {m : Mem} {v : List Int} {cell : Nat} {late : Int} {hold : Bool} (hm : MOk m) (hv : VOk m v) (hc : cell < 24) : VOk m (mload m v cell late hold).2 ∧ GeL (mload m v cell late hold).2 v := by
  have hcl : cell < m.length := by rw [hm.len]; exact hc
  have hx : m[cell]? = some m[cell] := List.getElem?_eq_getElem hcl
  have hlt := ldAt_lt (late := late) (viewOk_iff.2 hv) hcl
  have hcv : cell < v.length := by rw [hv.1]; exact hcl
  have h1 : VOk m (v.set cell (ldAt m v cell late : Int)) := hv.set fun r hr => by rw [hx] at hr; cases hr; omega
  have h2 : GeL (v.set cell (ldAt m v cell late : Int)) v := GeL.set fun y hy => by
    simp only [ldAt, List.getD_eq_getElem?_getD, hy, Option.getD_some]
    omega
  simp only [mload, List.getD_eq_getElem?_getD, hx, Option.getD_some]
  cases hold
  · exact ⟨h1, h2⟩
  · have hw : m[cell][ldAt m v cell late]? = some m[cell][ldAt m v cell late] := List.getElem?_eq_getElem hlt
    have h3 := hm.view m[cell] (List.getElem_mem _) m[cell][ldAt m v cell late] (List.getElem_mem _)
    simp only [hw, Option.getD_some, if_true]
    exact ⟨h1.join h3, (GeL.join (by rw [h1.1, h3.1])).trans h2⟩
theorem mset_le {m : Mem} {cell : Nat} {r' : List Write} (h : ∀ r, m[cell]? = some r → r.length ≤ r'.length) : MLe m (m.set cell r') := by
  refine ⟨by simp, fun i a b ha hb => ?_⟩
  by_cases hi : cell = i
  · subst hi
    rw [List.getElem?_set_self (List.getElem?_eq_some_iff.1 ha).1] at hb
    cases hb
    exact h a ha
  · rw [List.getElem?_set_ne hi, ha] at hb
    cases hb
    exact Nat.le_refl _
theorem mstore_ok {m : Mem} {v : List Int} {cell : Nat} {n : Int} {letGo : Bool} (hm : MOk m) (hv : VOk m v) (hc : cell < 24) (hroom : (m.getD cell []).length < 4000) :
    MOk (mstore m v cell n letGo).1 ∧ MLe m (mstore m v cell n letGo).1 ∧ VOk (mstore m v cell n letGo).1 (mstore m v cell n letGo).2 ∧ GeL (mstore m v cell n letGo).2 v := by
  have hcl : cell < m.length := by rw [hm.len]; exact hc
  have hx : m[cell]? = some m[cell] := List.getElem?_eq_getElem hcl
  have hg : m.getD cell [] = m[cell] := by simp [List.getD_eq_getElem?_getD, hx]
  rw [hg] at hroom
  simp only [mstore, hg]
  have hle : ∀ w, MLe m (m.set cell (m[cell] ++ [w])) := fun w => mset_le fun r hr => by rw [hx] at hr; cases hr; simp
  have hnew : ∀ w r, (m.set cell (m[cell] ++ [w]))[cell]? = some r → r.length = m[cell].length + 1 := fun w r hr => by
    rw [List.getElem?_set_self hcl] at hr
    cases hr
    simp
  have hout : ∀ w, VOk (m.set cell (m[cell] ++ [w])) (v.set cell (m[cell].length : Int)) := fun w => (hv.up (hle w)).set fun r hr => by
    have := hnew w r hr
    omega
  have hz : ∀ w, VOk (m.set cell (m[cell] ++ [w])) ((List.replicate 24 (0 : Int)).set cell (m[cell].length : Int)) := fun w => by
    have h0 : VOk m (List.replicate 24 (0 : Int)) := ⟨by rw [List.length_replicate, hm.len], fun i x r hx hr => by
      rw [List.getElem?_replicate] at hx
      split at hx
      · cases hx
        have := (hm.cell r (List.mem_of_getElem? hr)).1
        omega
      · cases hx⟩
    exact (h0.up (hle w)).set fun r hr => by
      have := hnew w r hr
      omega
  refine ⟨⟨by rw [List.length_set]; exact hm.len, fun r hr => ?_, fun r hr w hw => ?_⟩, hle _, hout _, GeL.set fun y hy => ?_⟩
  · rcases List.mem_or_eq_of_mem_set hr with h | h
    · exact hm.cell r h
    · subst h
      have := hm.cell m[cell] (List.getElem_mem _)
      simp
      omega
  · rcases List.mem_or_eq_of_mem_set hr with h | h
    · exact (hm.view r h w hw).up (hle _)
    · subst h
      rcases List.mem_append.1 hw with h | h
      · exact (hm.view _ (List.getElem_mem _) w h).up (hle _)
      · simp only [List.mem_singleton] at h
        subst h
        dsimp only
        cases letGo
        · exact hz _
        · exact hout _
  · have := hv.2 cell y _ hy hx
    omega
structure COk (m : Mem) (c : Core) (L : List Step) : Prop where
  code : codeOk' L = true
  regs : c.regs.length = 8
  at1 : 0 ≤ c.at'
  at2 : c.at' ≤ (L.length : Int) - 1
  st : 0 ≤ c.state ∧ c.state ≤ 2
  view : VOk m c.view
theorem coreOk_iff {m : Mem} {c : Core} {L : List Step} : coreOk m c L = true ↔ COk m c L := by
  simp only [coreOk, inn, Bool.and_eq_true, decide_eq_true_eq, viewOk_iff]
  constructor
  · rintro ⟨⟨⟨⟨h1, h2⟩, h3⟩, h4⟩, h5⟩
    exact ⟨h1, h2, h3.1, h3.2, h4, h5⟩
  · rintro ⟨h1, h2, h3, h3', h4, h5⟩
    exact ⟨⟨⟨⟨h1, h2⟩, h3, h3'⟩, h4⟩, h5⟩
structure KOk (m : Mach) : Prop where
  n1 : 1 ≤ m.codes.length ∧ m.codes.length ≤ 4
  n2 : m.cores.length = m.codes.length
  mem : MOk m.mem
  trace : m.trace.length ≤ 4000
  who : ∀ x ∈ m.trace, 0 ≤ x.who ∧ x.who ≤ (m.cores.length : Int) - 1
  core : ∀ (i : Nat) c L, m.cores[i]? = some c → m.codes[i]? = some L → COk m.mem c L
theorem machOk_iff {m : Mach} : machOk m = true ↔ KOk m := by
  simp only [machOk, inn, notesOk, Bool.and_eq_true, decide_eq_true_eq, List.all_eq_true, memOk_iff, coreOk_iff]
  constructor
  · rintro ⟨⟨⟨⟨h1, h2⟩, h3⟩, h4, h5⟩, h6⟩
    exact ⟨by omega, h2, h3, h5, h4, fun i c L hc hL => h6 (c, L) (List.mem_of_getElem? (zip_get hc hL))⟩
  · rintro ⟨h1, h2, h3, h4, h5, h6⟩
    refine ⟨⟨⟨⟨by omega, h2⟩, h3⟩, h5, h4⟩, fun p hp => ?_⟩
    obtain ⟨i, hi⟩ := List.getElem?_of_mem hp
    obtain ⟨c, L⟩ := p
    rw [List.getElem?_zip_eq_some] at hi
    exact h6 i c L hi.1 hi.2
theorem KOk.sm {m : Mach} (h : KOk m) : m.sm where
  codes := by have := h.n1; omega
  code := fun L hL => by
    obtain ⟨i, hi⟩ := List.getElem?_of_mem hL
    have hlt : i < m.cores.length := by rw [h.n2]; exact (List.getElem?_eq_some_iff.1 hi).1
    have := (h.core i _ L (List.getElem?_eq_getElem hlt) hi).code
    simp only [codeOk', inn, Bool.and_eq_true, decide_eq_true_eq] at this
    omega
  cores := by have := h.n1; have := h.n2; omega
  core := fun c hc => by
    obtain ⟨i, hi⟩ := List.getElem?_of_mem hc
    have hlt : i < m.codes.length := by rw [← h.n2]; exact (List.getElem?_eq_some_iff.1 hi).1
    have h1 := h.core i c _ hi (List.getElem?_eq_getElem hlt)
    have h2 := h1.view.1
    have h3 := h.mem.len
    have h4 := h1.regs
    constructor <;> omega
  mem := ⟨by have := h.mem.len; omega, fun r hr => ⟨by have := (h.mem.cell r hr).2; omega, fun w hw => by have := (h.mem.view r hr w hw).1; have := h.mem.len; omega⟩⟩
  trace := by have := h.trace; omega
/-- One core turned, and the memory grown. -/
theorem KOk.turn {m : Mach} (h : KOk m) {q : Nat} {L : List Step} {c' : Core} {mem' : Mem} {trace' : List Note} (hL : m.codes[q]? = some L) (hm : MOk mem') (hle : MLe m.mem mem') (ht : trace'.length ≤ 4000)
    (hw : ∀ x ∈ trace', 0 ≤ x.who ∧ x.who ≤ (m.cores.length : Int) - 1) (hc : COk mem' c' L) : KOk ⟨m.codes, m.cores.set q c', mem', trace'⟩ := by
  refine ⟨h.n1, by simpa using h.n2, hm, ht, by simpa using hw, fun i c L' hci hLi => ?_⟩
  dsimp only at hci hLi ⊢
  by_cases hi : q = i
  · subst hi
    rw [hL] at hLi
    cases hLi
    have hlt : q < m.cores.length := by have := (List.getElem?_eq_some_iff.1 hci).1; rwa [List.length_set] at this
    rw [List.getElem?_set_self hlt] at hci
    cases hci
    exact hc
  · rw [List.getElem?_set_ne hi] at hci
    have h1 := h.core i c L' hci hLi
    exact ⟨h1.code, h1.regs, h1.at1, h1.at2, h1.st, h1.view.up hle⟩
end Go.Proofs.Ytgodaiiegcdpcaa.Abs.MC
end
section
set_option linter.unusedVariables false
set_option linter.unusedSimpArgs false
namespace Go.Proofs.Ytgodaiiegcdpcaa.Abs.MC
open Go.Proofs.Ytgodaiiegcdpcaa.Abs
set_option linter.unusedSimpArgs false
set_option linter.unusedVariables false
set_option maxRecDepth 10000
/-- What a step keeps. -/
structure Kept (m : Mach) (q : Nat) (c : Core) (r : Mach × Int) : Prop where
  ok : KOk r.1
  codes : r.1.codes = m.codes
  core : ∃ c', r.1.cores = m.cores.set q c' ∧ GeL c'.view c.view
  code : r.2 = 0 ∨ r.2 = 3 ∨ r.2 = 2
  le : MLe m.mem r.1.mem
theorem Kept.same {m : Mach} {q : Nat} {c : Core} {k : Int} (h : KOk m) (hc : m.cores[q]? = some c) (hk : k = 0 ∨ k = 3 ∨ k = 2) : Kept m q c (m, k) := ⟨h, rfl, ⟨c, (set_self hc).symm, GeL.refl _⟩, hk, MLe.refl _⟩
theorem goOn_kept {m : Mach} {q : Nat} {c c' : Core} {L : List Step} {next : Int} {mem' : Mem} {trace' : List Note} (h : KOk m) (hL : m.codes[q]? = some L) (hm : MOk mem') (hle : MLe m.mem mem') (ht : trace'.length ≤ 4000)
    (hw : ∀ x ∈ trace', 0 ≤ x.who ∧ x.who ≤ (m.cores.length : Int) - 1) (hc : COk mem' c' L) (hn : 0 ≤ next) (hg : GeL c'.view c.view) : Kept m q c (goOn ⟨m.codes, m.cores, mem', trace'⟩ q c' next) := by
  have hLl : 1 ≤ L.length := by have := hc.at1; have := hc.at2; omega
  by_cases hge : (L.length : Int) ≤ next
  · rw [goOn_end (m := ⟨m.codes, m.cores, mem', trace'⟩) hL hge]
    exact ⟨h.turn hL hm hle ht hw ⟨hc.code, hc.regs, hc.at1, hc.at2, by dsimp only; omega, hc.view⟩, rfl, ⟨_, rfl, hg⟩, .inl rfl, hle⟩
  · rw [goOn_go (m := ⟨m.codes, m.cores, mem', trace'⟩) hL hge]
    exact ⟨h.turn hL hm hle ht hw ⟨hc.code, hc.regs, hn, by dsimp only; omega, hc.st, hc.view⟩, rfl, ⟨_, rfl, hg⟩, .inl rfl, hle⟩
theorem rest_kept {m : Mach} {q : Nat} {c : Core} {L : List Step} {st : Int} (h : KOk m) (hL : m.codes[q]? = some L) (hc : COk m.mem c L) (hs : 0 ≤ st ∧ st ≤ 2) : Kept m q c (rest m q c st) :=
  ⟨h.turn hL h.mem (MLe.refl _) h.trace h.who ⟨hc.code, hc.regs, hc.at1, hc.at2, hs, hc.view⟩, rfl, ⟨_, rfl, GeL.refl _⟩, .inl rfl, MLe.refl _⟩
theorem mdo_kept {m : Mach} {q : Nat} {late : Int} {c : Core} {L : List Step} {s : Step} (h : KOk m) (hq : m.cores[q]? = some c) (hL : m.codes[q]? = some L) (hs : L[c.at'.toNat]? = some s) : Kept m q c (mdo m q late c s) := by
  have hc := h.core q c L hq hL
  have hql : q < m.cores.length := (List.getElem?_eq_some_iff.1 hq).1
  have hsok : stepOk s L.length = true := by
    have := hc.code
    simp only [codeOk', Bool.and_eq_true, List.all_eq_true] at this
    exact this.1.2 s (List.mem_of_getElem? hs)
  have hn0 : s.op = 10 ∨ s.op = 11 → 0 ≤ s.n := by
    intro ho
    simp only [stepOk, Bool.and_eq_true] at hsok
    have h6 := hsok.2
    rw [if_neg (by omega), if_neg (by omega), if_pos ho] at h6
    simp only [Bool.and_eq_true, decide_eq_true_eq] at h6
    exact h6.1
  have ha1 := hc.at1
  have rs : ∀ r v, COk m.mem (rset c r v) L := fun r v => ⟨hc.code, by simpa [rset] using hc.regs, hc.at1, hc.at2, hc.st, hc.view⟩
  have go : ∀ c' next, COk m.mem c' L → 0 ≤ next → GeL c'.view c.view → Kept m q c (goOn m q c' next) := fun c' next h1 h2 h3 => goOn_kept (mem' := m.mem) (trace' := m.trace) h hL h.mem (MLe.refl _) h.trace h.who h1 h2 h3
  unfold mdo
  split
  · exact go _ _ (rs _ _) (by omega) (GeL.refl _)
  split
  · exact go _ _ (rs _ _) (by omega) (GeL.refl _)
  split
  · exact go _ _ (rs _ _) (by omega) (GeL.refl _)
  split
  · exact go _ _ (rs _ _) (by omega) (GeL.refl _)
  split
  · unfold mmem
    split
    · exact rest_kept h hL hc (by omega)
    rename_i hin
    split
    · exact Kept.same h hq (by omega)
    rename_i hroom
    have hin2 : 0 ≤ cellAt c s ∧ cellAt c s ≤ 23 := by simpa [inn] using hin
    have hcell : (cellAt c s).toNat < 24 := by omega
    have room : s.op ≠ 5 → (m.mem.getD (cellAt c s).toNat []).length < 4000 := fun ho => by
      by_cases hx : ((m.mem.getD (cellAt c s).toNat []).length : Int) < 4000
      · omega
      · exact absurd ⟨ho, hx⟩ hroom
    split
    · have h1 := mload_ok (late := late) (hold := false) h.mem hc.view hcell
      exact go _ _ ⟨hc.code, by simpa using hc.regs, hc.at1, hc.at2, hc.st, h1.1⟩ (by omega) h1.2
    rename_i h5
    split
    · have h1 := mload_ok (late := 0) (hold := true) h.mem hc.view hcell
      have h2 := mstore_ok (n := rg c s.b) (letGo := true) h.mem h1.1 hcell (room h5)
      exact goOn_kept h hL h2.1 h2.2.1 h.trace h.who ⟨hc.code, by simpa using hc.regs, hc.at1, hc.at2, hc.st, h2.2.2.1⟩ (by omega) (h2.2.2.2.trans h1.2)
    · have h2 := mstore_ok (n := rg c s.b) (letGo := (s.op == 7)) h.mem hc.view hcell (room h5)
      exact goOn_kept h hL h2.1 h2.2.1 h.trace h.who ⟨hc.code, hc.regs, hc.at1, hc.at2, hc.st, h2.2.2.1⟩ (by omega) h2.2.2.2
  split
  · split
    · exact Kept.same h hq (by omega)
    rename_i ht
    refine goOn_kept h hL h.mem (MLe.refl _) (by have := h.trace; simp; omega) (fun x hx => ?_) hc (by omega) (GeL.refl _)
    rcases List.mem_append.1 hx with hx | hx
    · exact h.who x hx
    · simp only [List.mem_singleton] at hx
      subst hx
      dsimp only
      omega
  split
  · exact go _ _ hc (hn0 (.inl ‹_›)) (GeL.refl _)
  split
  · refine go _ _ hc ?_ (GeL.refl _)
    split
    · exact hn0 (.inr ‹_›)
    · omega
  split
  · exact rest_kept h hL hc (by omega)
  · exact rest_kept h hL hc (by omega)
theorem mstep_kept {m : Mach} {q : Nat} {late : Int} {c : Core} (h : KOk m) (hq : m.cores[q]? = some c) : Kept m q c (mstep m ⟨(q : Int), late⟩) := by
  have hql : q < m.cores.length := (List.getElem?_eq_some_iff.1 hq).1
  have hqc : q < m.codes.length := by rw [← h.n2]; exact hql
  obtain ⟨L, hL⟩ : ∃ L, m.codes[q]? = some L := ⟨_, List.getElem?_eq_getElem hqc⟩
  have hc := h.core q c L hq hL
  have hat : c.at'.toNat < L.length := by have := hc.at1; have := hc.at2; omega
  obtain ⟨s, hs⟩ : ∃ s, L[c.at'.toNat]? = some s := ⟨_, List.getElem?_eq_getElem hat⟩
  unfold mstep
  rw [if_neg (by simp [inn]; omega)]
  simp only [show ((q : Int)).toNat = q from rfl, getD_some hq, getD_some hL, getD_some hs]
  split
  · exact Kept.same h hq (by omega)
  · exact mdo_kept h hq hL hs
end Go.Proofs.Ytgodaiiegcdpcaa.Abs.MC
end
section
set_option linter.unusedVariables false
set_option linter.unusedSimpArgs false
namespace Go.Proofs.Ytgodaiiegcdpcaa.Abs.MC
open Go.Proofs.Ytgodaiiegcdpcaa.Abs
set_option linter.unusedSimpArgs false
set_option linter.unusedVariables false
set_option maxRecDepth 10000
/-! ### draws -/
set_option maxRecDepth 1000000 in
theorem s59 {bs : List B8} (hb : bs.length < 2 ^ 40) : ∃ c : Cur, c.ok ∧ Runs (gam code) (.fn 59 [.c (.imm false 1 bs.length (cl false bs))] [] (.bx c.C) []) := by
  suffices h : ∃ v, (∃ c : Cur, c.ok ∧ v = .bx c.C) ∧ Runs (gam code) (.fn 59 [.c (.imm false 1 bs.length (cl false bs))] [] v []) by
    obtain ⟨_, ⟨c, hc, rfl⟩, h2⟩ := h
    exact ⟨c, hc, h2⟩
  refine W.ans (fn := a59) rfl rfl ?_
  rw [start_im (by repeat (first | exact Pls.nil | refine Pls.c rfl ?_ | refine Pls.agg ?_))]
  simp only [a59]
  refine wk ?_
  refine W.for (fun i T H n => ∃ h : Int, Ag [(0, .c (.imm false 1 bs.length (cl false bs))), (3, .c (.int .i64 h)), (4, .c (.int .i64 ((i : Nat) : Int)))] T) bs.length ⟨_, rfl, rfl, rfl, trivial⟩ ?_
  rintro i T H n hi ⟨h, hT⟩
  obtain ⟨T, rfl⟩ := hT.fix
  simp only [ups]
  clear hT
  refine wk ?_
  have fin : ∀ (T' : Nat → V) (H' : Heap) (n' : Nat), T' 31 = .c (.ptr (n', 3, 0, 0) [] 0) → True := fun _ _ _ _ => trivial
  refine WO.gs rfl (fun hb => ?_) (fun hb => ?_)
  · refine wk ?_
    refine W.exit ?_
    show W _ _ _ _
    refine wk ?_
    exact W.ret (endQ.bx (c := ⟨bs, 0, h⟩) (.inr rfl) rfl hh ⟨_, ⟨Nat.zero_le _, ‹_›⟩, rfl⟩)
  · have hlt : i < bs.length := by simpa using hb
    have hx : bs[i]? = some bs[i] := List.getElem?_eq_getElem hlt
    refine wk ?_
    refine W.if rfl (fun hb => ?_) (fun hb => ?_)
    · refine wk ?_
      exact ⟨hlt, _, rfl, rfl, wrap_c (by omega), trivial⟩
    · refine wk ?_
      refine W.exit ?_
      show W _ _ _ _
      refine wk ?_
      exact W.ret (endQ.bx (c := ⟨bs, 0, h⟩) (.inr rfl) rfl hh ⟨_, ⟨Nat.zero_le _, ‹_›⟩, rfl⟩)
theorem s114 {c : Cur} (hc : c.ok) : ∃ (x : Int) (c' : Cur), (0 ≤ x ∧ x < 256) ∧ c'.ok ∧ Runs (gam code) (.fn 114 [.c (.ptr (0, 0, 0, 0) [] 0)] [c.C] (.c (.int .i64 x)) [c'.C]) := by
  suffices h : ∃ v c', (∃ x : Int, (0 ≤ x ∧ x < 256) ∧ v = .c (.int .i64 x) ∧ Cur.ok c') ∧ Runs (gam code) (.fn 114 [.c (.ptr (0, 0, 0, 0) [] 0)] [c.C] v [Cur.C c']) by
    obtain ⟨_, c', ⟨x, h1, rfl, h3⟩, h2⟩ := h
    exact ⟨x, c', h1, h3, h2⟩
  obtain ⟨b, i, h⟩ := c
  have hi := hc.i
  have hb := hc.b
  dsimp only at hi hb
  have hb40 := hb
  refine W.cur (fn := a114) rfl rfl ?_
  rw [start_im (by repeat (first | exact Pls.nil | refine Pls.c rfl ?_ | refine Pls.agg ?_))]
  simp only [a114]
  refine wk ?_
  refine W.if rfl (fun hb => ?_) (fun hb => ?_)
  · have hlt : i < b.length := by have := of_decide_eq_true hb; dsimp only at this; omega
    have hx : b[i]? = some b[i] := List.getElem?_eq_getElem hlt
    refine wk ?_
    exact W.ret (endC.of (b := b) (i := i + 1) (.inr rfl) (Ans.sc rfl rfl Ans.nil) hh (wrap_nat (by omega)) ⟨_, and_byte _, rfl, hlt, hb40⟩)
  · refine wk ?_
    exact W.ret (endC.of (b := b) (i := i) (.inr rfl) (Ans.sc rfl rfl Ans.nil) hh rfl ⟨_, and_byte _, rfl, hi, hb40⟩)
theorem s61 {c : Cur} {n : Int} (hc : c.ok) (hn : 0 < n) (hn2 : n ≤ 256) : ∃ (x : Int) (c' : Cur), (0 ≤ x ∧ x < n) ∧ c'.ok ∧ Runs (gam code) (.fn 61 [.c (.ptr (0, 0, 0, 0) [] 0), .c (.int .i64 n)] [c.C] (.c (.int .i64 x)) [c'.C]) := by
  suffices h : ∃ v c', (∃ x : Int, (0 ≤ x ∧ x < n) ∧ v = .c (.int .i64 x) ∧ Cur.ok c') ∧ Runs (gam code) (.fn 61 [.c (.ptr (0, 0, 0, 0) [] 0), .c (.int .i64 n)] [c.C] v [Cur.C c']) by
    obtain ⟨_, c', ⟨x, h1, rfl, h3⟩, h2⟩ := h
    exact ⟨x, c', h1, h3, h2⟩
  refine W.cur (fn := a61) rfl rfl ?_
  rw [start_im (by repeat (first | exact Pls.nil | refine Pls.c rfl ?_ | refine Pls.agg ?_))]
  simp only [a61]
  refine wk ?_
  rw [show decide (n ≤ 0) = false from decide_eq_false (by omega)]
  refine wk ?_
  rw [show decide (n ≤ 256) = true from decide_eq_true hn2]
  refine wk ?_
  obtain ⟨x, c', hx, hc', hr⟩ := s114 hc
  refine WO.curi rfl hh LA.nil hr ?_
  refine wk ?_
  refine WO.rem rfl rfl (by omega) ?_
  refine wk ?_
  exact W.ret ⟨.inr rfl, _, _, c', Ans.sc rfl rfl Ans.nil, hh, _, tmod_below hx.1 hn, rfl, hc'⟩
theorem s95 {c : Cur} {n : Int} (hc : c.ok) (hn : 0 < n) (hn2 : n ≤ 256) : ∃ (x : Bool) (c' : Cur), c'.ok ∧ Runs (gam code) (.fn 95 [.c (.ptr (0, 0, 0, 0) [] 0), .c (.int .i64 n)] [c.C] (.c (.bool x)) [c'.C]) := by
  suffices h : ∃ v c', (∃ x : Bool, v = .c (.bool x) ∧ Cur.ok c') ∧ Runs (gam code) (.fn 95 [.c (.ptr (0, 0, 0, 0) [] 0), .c (.int .i64 n)] [c.C] v [Cur.C c']) by
    obtain ⟨_, c', ⟨x, rfl, h3⟩, h2⟩ := h
    exact ⟨x, c', h3, h2⟩
  refine W.cur (fn := a95) rfl rfl ?_
  rw [start_im (by repeat (first | exact Pls.nil | refine Pls.c rfl ?_ | refine Pls.agg ?_))]
  simp only [a95]
  refine wk ?_
  obtain ⟨x, c', hx, hc', hr⟩ := s61 (c := c) hc hn hn2
  refine WO.curi rfl hh (LA.int rfl LA.nil) hr ?_
  refine wk ?_
  exact W.ret ⟨.inr rfl, _, _, c', Ans.sc rfl rfl Ans.nil, hh, _, rfl, hc'⟩
theorem s62 {fl : Bool} {c : Cur} {L : List Int} (hc : c.ok) (h0 : 0 < L.length) (h1 : L.length ≤ 256) : ∃ (x : Int) (c' : Cur), x ∈ L ∧ c'.ok ∧ Runs (gam code) (.fn 62 [.c (.ptr (0, 0, 0, 0) [] 0), .c (.imm fl 1 L.length (cl fl L))] [c.C] (.c (.int .i64 x)) [c'.C]) := by
  suffices h : ∃ v c', (∃ x : Int, x ∈ L ∧ v = .c (.int .i64 x) ∧ Cur.ok c') ∧ Runs (gam code) (.fn 62 [.c (.ptr (0, 0, 0, 0) [] 0), .c (.imm fl 1 L.length (cl fl L))] [c.C] v [Cur.C c']) by
    obtain ⟨_, c', ⟨x, hx, rfl, h3⟩, h2⟩ := h
    exact ⟨x, c', hx, h3, h2⟩
  refine W.cur (fn := a62) rfl rfl ?_
  rw [start_im (by repeat (first | exact Pls.nil | refine Pls.c rfl ?_ | refine Pls.agg ?_))]
  simp only [a62]
  refine wk ?_
  obtain ⟨x, c', hx, hc', hr⟩ := s61 (c := c) (n := (L.length : Int)) hc (by omega) (by omega)
  obtain ⟨i, rfl⟩ := Int.eq_ofNat_of_zero_le hx.1
  have hi : i < L.length := by omega
  have hLi : L[i]? = some L[i] := List.getElem?_eq_getElem hi
  refine WO.curi rfl hh (LA.int rfl LA.nil) hr ?_
  refine wk ?_
  exact W.ret ⟨.inr rfl, _, _, c', Ans.sc rfl rfl Ans.nil, hh, _, List.getElem_mem hi, rfl, hc'⟩
end Go.Proofs.Ytgodaiiegcdpcaa.Abs.MC
end
section
set_option linter.unusedVariables false
set_option linter.unusedSimpArgs false
namespace Go.Proofs.Ytgodaiiegcdpcaa.Abs.MC
open Go.Proofs.Ytgodaiiegcdpcaa.Abs
set_option linter.unusedSimpArgs false
set_option linter.unusedVariables false
set_option maxRecDepth 10000
theorem stepOk_of {s : Step} {places : Int} (h1 : inn 1 13 s.op = true) (h2 : s = stepNamed s) (h3 : inn 0 7 s.r = true) (h4 : inn (if 5 ≤ s.op ∧ s.op ≤ 7 then -1 else 0) 7 s.a = true) (h5 : inn 0 7 s.b = true)
    (h6 : (if s.op = 1 then inn (-1000000000) 1000000000 s.n else if 5 ≤ s.op ∧ s.op ≤ 8 then inn 0 23 s.n else if s.op = 10 ∨ s.op = 11 then decide (0 ≤ s.n) && decide (s.n < places) else true) = true) : stepOk s places = true := by
  simp only [stepOk, h1, h3, h4, h5, h6, ← h2, decide_true, Bool.and_self]
set_option maxHeartbeats 4000000 in
theorem s139 {c0 : Cur} {places : Int} (hc0 : c0.ok) (hn : 0 < places) (hn2 : places ≤ 256) : ∃ (s : Step) (c' : Cur), stepOk s places = true ∧ c'.ok ∧ Runs (gam code) (.fn 139 [.c (.ptr (0, 0, 0, 0) [] 0), .c (.int .i64 places)] [c0.C] (.agg (owL (Enc.d s))) [c'.C]) := by
  suffices h : ∃ v c', (∃ s : Step, stepOk s places = true ∧ v = .agg (owL (Enc.d s)) ∧ Cur.ok c') ∧ Runs (gam code) (.fn 139 [.c (.ptr (0, 0, 0, 0) [] 0), .c (.int .i64 places)] [c0.C] v [Cur.C c']) by
    obtain ⟨_, c', ⟨x, hx, rfl, h3⟩, h2⟩ := h
    exact ⟨x, c', hx, h3, h2⟩
  refine W.cur (fn := a139) rfl rfl ?_
  rw [start_im (by repeat (first | exact Pls.nil | refine Pls.c rfl ?_ | refine Pls.agg ?_))]
  simp only [a139]
  refine wk ?_
  obtain ⟨x1, c1, hx1, hc1, r1⟩ := s61 (c := c0) (n := 13) hc0 ats ats
  refine WO.curi rfl hh (LA.int rfl LA.nil) r1 ?_
  refine wk ?_
  obtain ⟨x2, c2, hx2, hc2, r2⟩ := s61 (c := c1) (n := 8) hc1 ats ats
  refine WO.curi rfl hh (LA.int rfl LA.nil) r2 ?_
  refine wk ?_
  obtain ⟨x3, c3, hx3, hc3, r3⟩ := s61 (c := c2) (n := 8) hc2 ats ats
  refine WO.curi rfl hh (LA.int rfl LA.nil) r3 ?_
  refine wk ?_
  obtain ⟨x4, c4, hx4, hc4, r4⟩ := s61 (c := c3) (n := 8) hc3 ats ats
  refine WO.curi rfl hh (LA.int rfl LA.nil) r4 ?_
  refine wk ?_
  refine WO.bsI [0, 1, 2, 5, 23] ats rfl rfl ?_
  refine wk ?_
  obtain ⟨x5, c5, hx5, hc5, r5⟩ := s62 (c := c4) (fl := true) (L := [0, 1, 2, 5, 23]) hc4 (by simp) (by simp)
  refine WO.curi rfl hh (LA.ev (L := [0, 1, 2, 5, 23]) rfl rfl rfl hh LA.nil) r5 ?_
  refine wk ?_
  have hx5' : 0 ≤ x5 ∧ x5 ≤ 23 := by simp at hx5; omega
  rw [show IntKind.i64.wrap (1 + x1) = 1 + x1 from wrap_in (by omega)]
  have hop : 1 ≤ 1 + x1 ∧ 1 + x1 ≤ 13 := by omega
  generalize 1 + x1 = op at *
  rcases ops13 op with h | h | h | h | h | h | h | h | h | h | h | h | h | h
  · subst h
    refine wk ?_
    obtain ⟨x6, c6, hx6, hc6, r6⟩ := s61 (c := c5) (n := 20) hc5 ats ats
    refine WO.curi rfl hh (LA.int rfl LA.nil) r6 ?_
    refine wk ?_
    rw [show IntKind.i64.wrap (x6 - 5) = x6 - 5 from wrap_in (by omega)]
    exact W.ret ⟨.inr rfl, _, _, c6, Ans.cell rfl hh rfl rfl abt Ans.nil, hh, (⟨1, x2, 0, 0, x6 - 5⟩ : Step), (by simp [stepOk, stepNamed, inn]; try omega), rfl, hc6⟩
  · subst h
    refine wk ?_
    exact W.ret ⟨.inr rfl, _, _, c5, Ans.cell rfl hh rfl rfl abt Ans.nil, hh, (⟨2, x2, x3, x4, 0⟩ : Step), (by simp [stepOk, stepNamed, inn]; try omega), rfl, hc5⟩
  · subst h
    refine wk ?_
    exact W.ret ⟨.inr rfl, _, _, c5, Ans.cell rfl hh rfl rfl abt Ans.nil, hh, (⟨3, x2, x3, x4, 0⟩ : Step), (by simp [stepOk, stepNamed, inn]; try omega), rfl, hc5⟩
  · subst h
    refine wk ?_
    exact W.ret ⟨.inr rfl, _, _, c5, Ans.cell rfl hh rfl rfl abt Ans.nil, hh, (⟨4, x2, x3, x4, 0⟩ : Step), (by simp [stepOk, stepNamed, inn]; try omega), rfl, hc5⟩
  · subst h
    refine wk ?_
    refine WO.bsI [-1, -1, x3] ats rfl rfl ?_
    refine wk ?_
    obtain ⟨x6, c6, hx6, hc6, r6⟩ := s62 (c := c5) (fl := true) (L := [-1, -1, x3]) hc5 (by simp) (by simp)
    refine WO.curi rfl hh (LA.ev (L := [-1, -1, x3]) rfl rfl rfl hh LA.nil) r6 ?_
    refine wk ?_
    have hx6' : -1 ≤ x6 ∧ x6 ≤ 7 := by simp at hx6; omega
    exact W.ret ⟨.inr rfl, _, _, c6, Ans.cell rfl hh rfl rfl abt Ans.nil, hh, (⟨5, x2, x6, 0, x5⟩ : Step), (by simp [stepOk, stepNamed, inn]; try omega), rfl, hc6⟩
  · subst h
    refine wk ?_
    refine WO.bsI [-1, -1, x3] ats rfl rfl ?_
    refine wk ?_
    obtain ⟨x6, c6, hx6, hc6, r6⟩ := s62 (c := c5) (fl := true) (L := [-1, -1, x3]) hc5 (by simp) (by simp)
    refine WO.curi rfl hh (LA.ev (L := [-1, -1, x3]) rfl rfl rfl hh LA.nil) r6 ?_
    refine wk ?_
    have hx6' : -1 ≤ x6 ∧ x6 ≤ 7 := by simp at hx6; omega
    exact W.ret ⟨.inr rfl, _, _, c6, Ans.cell rfl hh rfl rfl abt Ans.nil, hh, (⟨6, 0, x6, x4, x5⟩ : Step), (by simp [stepOk, stepNamed, inn]; try omega), rfl, hc6⟩
  · subst h
    refine wk ?_
    refine WO.bsI [-1, -1, x3] ats rfl rfl ?_
    refine wk ?_
    obtain ⟨x6, c6, hx6, hc6, r6⟩ := s62 (c := c5) (fl := true) (L := [-1, -1, x3]) hc5 (by simp) (by simp)
    refine WO.curi rfl hh (LA.ev (L := [-1, -1, x3]) rfl rfl rfl hh LA.nil) r6 ?_
    refine wk ?_
    have hx6' : -1 ≤ x6 ∧ x6 ≤ 7 := by simp at hx6; omega
    exact W.ret ⟨.inr rfl, _, _, c6, Ans.cell rfl hh rfl rfl abt Ans.nil, hh, (⟨7, 0, x6, x4, x5⟩ : Step), (by simp [stepOk, stepNamed, inn]; try omega), rfl, hc6⟩
  · subst h
    refine wk ?_
    exact W.ret ⟨.inr rfl, _, _, c5, Ans.cell rfl hh rfl rfl abt Ans.nil, hh, (⟨8, x2, 0, x4, x5⟩ : Step), (by simp [stepOk, stepNamed, inn]; try omega), rfl, hc5⟩
  · subst h
    refine wk ?_
    exact W.ret ⟨.inr rfl, _, _, c5, Ans.cell rfl hh rfl rfl abt Ans.nil, hh, (⟨9, 0, x3, 0, 0⟩ : Step), (by simp [stepOk, stepNamed, inn]; try omega), rfl, hc5⟩
  · subst h
    refine wk ?_
    obtain ⟨x6, c6, hx6, hc6, r6⟩ := s61 (c := c5) (n := places) hc5 ats ats
    refine WO.curi rfl hh (LA.int rfl LA.nil) r6 ?_
    refine wk ?_
    exact W.ret ⟨.inr rfl, _, _, c6, Ans.cell rfl hh rfl rfl abt Ans.nil, hh, (⟨10, 0, 0, 0, x6⟩ : Step), (by simp [stepOk, stepNamed, inn]; try omega), rfl, hc6⟩
  · subst h
    refine wk ?_
    obtain ⟨x6, c6, hx6, hc6, r6⟩ := s61 (c := c5) (n := places) hc5 ats ats
    refine WO.curi rfl hh (LA.int rfl LA.nil) r6 ?_
    refine wk ?_
    exact W.ret ⟨.inr rfl, _, _, c6, Ans.cell rfl hh rfl rfl abt Ans.nil, hh, (⟨11, 0, x3, 0, x6⟩ : Step), (by simp [stepOk, stepNamed, inn]; try omega), rfl, hc6⟩
  · subst h
    refine wk ?_
    exact W.ret ⟨.inr rfl, _, _, c5, Ans.cell rfl hh rfl rfl abt Ans.nil, hh, (⟨12, 0, 0, 0, 0⟩ : Step), (by simp [stepOk, stepNamed, inn]; try omega), rfl, hc5⟩
  · subst h
    refine wk ?_
    exact W.ret ⟨.inr rfl, _, _, c5, Ans.cell rfl hh rfl rfl abt Ans.nil, hh, (⟨13, 0, 0, 0, 0⟩ : Step), (by simp [stepOk, stepNamed, inn]; try omega), rfl, hc5⟩
  · omega
end Go.Proofs.Ytgodaiiegcdpcaa.Abs.MC
end
section
set_option linter.unusedVariables false
set_option linter.unusedSimpArgs false
namespace Go.Proofs.Ytgodaiiegcdpcaa.Abs.MC
open Go.Proofs.Ytgodaiiegcdpcaa.Abs
set_option linter.unusedSimpArgs false
set_option linter.unusedVariables false
set_option maxRecDepth 10000
theorem snoc_all {α : Type} {P : α → Prop} {L : List α} {x : α} (h : ∀ y ∈ L, P y) (hx : P x) : ∀ y ∈ L ++ [x], P y := by
  intro y hy
  rcases List.mem_append.1 hy with hy | hy
  · exact h y hy
  · simp only [List.mem_singleton] at hy
    subst hy
    exact hx
theorem s96 {c0 : Cur} (hc0 : c0.ok) : ∃ (L : List Step) (c' : Cur), (codeOk' L = true ∧ 2 ≤ L.length ∧ L.length ≤ 15) ∧ c'.ok ∧ Runs (gam code) (.fn 96 [.c (.ptr (0, 0, 0, 0) [] 0)] [c0.C] (.c (rS L).ow) [c'.C]) := by
  suffices h : ∃ v c', (∃ L : List Step, (codeOk' L = true ∧ 2 ≤ L.length ∧ L.length ≤ 15) ∧ v = .c (rS L).ow ∧ Cur.ok c') ∧ Runs (gam code) (.fn 96 [.c (.ptr (0, 0, 0, 0) [] 0)] [c0.C] v [Cur.C c']) by
    obtain ⟨_, c', ⟨x, hx, rfl, h3⟩, h2⟩ := h
    exact ⟨x, c', hx, h3, h2⟩
  refine W.cur (fn := a96) rfl rfl ?_
  rw [start_im (by repeat (first | exact Pls.nil | refine Pls.c rfl ?_ | refine Pls.agg ?_))]
  simp only [a96]
  refine wk ?_
  obtain ⟨x1, c1, hx1, hc1, r1⟩ := s61 (c := c0) (n := 14) hc0 ats ats
  refine WO.curi rfl hh (LA.int rfl LA.nil) r1 ?_
  refine wk ?_
  obtain ⟨k, rfl⟩ := Int.eq_ofNat_of_zero_le hx1.1
  rw [show IntKind.i64.wrap (2 + (k : Int)) = ((k + 2 : Nat) : Int) by rw [wrap_in (by omega)]; omega]
  refine W.for (fun i T H n => ∃ (e : Id) (c : Cur) (L : List Step), Ag [(0, .c (.ptr (0, 0, 0, 0) [] 0)), (3, .c (.int .i64 ((k + 2 : Nat) : Int))), (4, .c (.ref e [] 5 0 i)), (5, .c (.int .i64 ((i : Nat) : Int)))] T ∧ H e = some (co L) ∧ L.length = i ∧ (∀ s ∈ L, stepOk s ((k + 2 : Nat) : Int) = true) ∧ H (0, 0, 0, 0) = some c.C ∧ c.ok ∧ e.1 < n ∧ 0 < e.1) (k + 1)
    ⟨_, c1, [], ⟨rfl, rfl, rfl, rfl, trivial⟩, hh, rfl, by simp, hh, hc1, ats, ats⟩ ?_
  rintro i T H n hi ⟨e, c0, L, hT, hH, hLl, hok, hr, hc0, hn1, hn2⟩
  obtain ⟨T, rfl⟩ := hT.fix
  simp only [ups]
  clear hT
  refine wk ?_
  rw [show IntKind.i64.wrap (((k + 2 : Nat) : Int) - 1) = ((k + 1 : Nat) : Int) by rw [wrap_in (by omega)]; omega]
  refine W.if rfl (fun hb => ?_) (fun hb => ?_)
  · have hlt : i < k + 1 := by simp at hb; omega
    refine wk ?_
    obtain ⟨s, c1, hs, hc1, r1⟩ := s139 (c0 := c0) (places := ((k + 2 : Nat) : Int)) hc0 (by omega) (by omega)
    refine WO.curs rfl hh (LA.int rfl LA.nil) r1 rfl ?_
    refine wk ?_
    refine WO.ap1r s rfl hh rfl hLl (by omega) rfl hh (cells := owL (Enc.d s)) abt ?_
    refine wk ?_
    exact ⟨hlt, _, c1, L ++ [s], ⟨rfl, rfl, rfl, wrap_c (by omega), trivial⟩, hh, by simp [hLl], snoc_all hok hs, hh, hc1, ats, ats⟩
  · have hge : i = k + 1 := by simp at hb; omega
    subst hge
    refine W.exit ?_
    show W _ _ _ _
    refine wk ?_
    refine WO.bsI [12, 10] ats rfl rfl ?_
    refine wk ?_
    obtain ⟨x, c1, hx, hc1, r1⟩ := s62 (c := c0) (fl := true) (L := [12, 10]) hc0 (by simp) (by simp)
    refine WO.curi rfl hh (LA.ev (L := [12, 10]) rfl rfl rfl hh LA.nil) r1 ?_
    refine wk ?_
    refine WO.ap1r (⟨x, 0, 0, 0, 0⟩ : Step) rfl hh rfl hLl (by omega) rfl hh abt ?_
    refine wk ?_
    refine W.ret ⟨.inr rfl, _, _, c1, Ans.row (L := L ++ [⟨x, 0, 0, 0, 0⟩]) rfl rfl (by simp [hLl]) hh Ans.nil, hh, _, ⟨?_, by simp [hLl], by simp [hLl]; omega⟩, rfl, hc1⟩
    have hxx : x = 12 ∨ x = 10 := by simpa using hx
    simp only [codeOk', Bool.and_eq_true, List.all_eq_true]
    refine ⟨⟨by simp [inn, hLl]; omega, fun s hs => ?_⟩, ?_⟩
    · rw [show ((L ++ [(⟨x, 0, 0, 0, 0⟩ : Step)]).length : Int) = ((k + 2 : Nat) : Int) by simp [hLl]; omega]
      rcases List.mem_append.1 hs with h | h
      · exact hok s h
      · simp only [List.mem_singleton] at h
        subst h
        rcases hxx with rfl | rfl <;> (simp [stepOk, stepNamed, inn]; try omega)
    · rcases hxx with rfl | rfl <;> simp
end Go.Proofs.Ytgodaiiegcdpcaa.Abs.MC
end
section
set_option linter.unusedVariables false
set_option linter.unusedSimpArgs false
namespace Go.Proofs.Ytgodaiiegcdpcaa.Abs.MC
open Go.Proofs.Ytgodaiiegcdpcaa.Abs
set_option linter.unusedSimpArgs false
set_option linter.unusedVariables false
set_option maxRecDepth 10000
def picksOk (L : List Pick) : Prop := ∀ p ∈ L, 0 ≤ p.who ∧ p.who < 256 ∧ 0 ≤ p.late ∧ p.late < 4
theorem s94 {c0 : Cur} {cores most : Int} (hc0 : c0.ok) (h1 : cores ≤ 256) (h2 : 0 ≤ most) (h3 : most ≤ 100) : ∃ (L : List Pick) (c' : Cur), (picksOk L ∧ L.length ≤ 600) ∧ c'.ok ∧ Runs (gam code) (.fn 94 [.c (.ptr (0, 0, 0, 0) [] 0), .c (.int .i64 cores), .c (.int .i64 most)] [c0.C] (.c (rS L).ow) [c'.C]) := by
  suffices h : ∃ v c', (∃ L : List Pick, (picksOk L ∧ L.length ≤ 600) ∧ v = .c (rS L).ow ∧ Cur.ok c') ∧ Runs (gam code) (.fn 94 [.c (.ptr (0, 0, 0, 0) [] 0), .c (.int .i64 cores), .c (.int .i64 most)] [c0.C] v [Cur.C c']) by
    obtain ⟨_, c', ⟨x, hx, rfl, h3⟩, h2⟩ := h
    exact ⟨x, c', hx, h3, h2⟩
  refine W.cur (fn := a94) rfl rfl ?_
  rw [start_im (by repeat (first | exact Pls.nil | refine Pls.c rfl ?_ | refine Pls.agg ?_))]
  simp only [a94]
  repeat (first | refine wk1 ?_ | (apply WO.ci s138; (· exact lends)))
  rw [show IntKind.i64.wrap (most + 1) = most + 1 from wrap_in (by omega)]
  obtain ⟨x1, c1, hx1, hc1, r1⟩ := s61 (c := c0) (n := (most + 1)) hc0 ats ats
  refine WO.curi rfl hh (LA.int rfl LA.nil) r1 ?_
  repeat (first | refine wk1 ?_ | (apply WO.ci s138; (· exact lends)))
  obtain ⟨k, rfl⟩ := Int.eq_ofNat_of_zero_le hx1.1
  refine W.for (fun i T H n => ∃ (e : Id) (c : Cur) (L : List Pick), Ag [(0, .c (.ptr (0, 0, 0, 0) [] 0)), (1, .c (.int .i64 cores)), (7, .c (.ref e [] 2 0 L.length)), (8, .c (.int .i64 (k : Int))), (9, .c (.int .i64 ((i : Nat) : Int)))] T ∧ H e = some (co L) ∧ L.length ≤ 6 * i ∧ picksOk L ∧ H (0, 0, 0, 0) = some c.C ∧ c.ok ∧ e.1 < n ∧ 0 < e.1) k
    ⟨_, c1, [], ⟨rfl, rfl, rfl, rfl, rfl, trivial⟩, hh, by simp, fun p hp => by simp at hp, hh, hc1, ats, ats⟩ ?_
  rintro i T H n hi ⟨e, c0, L, hT, hH, hLl, hok, hr, hc0, hn1, hn2⟩
  obtain ⟨T, rfl⟩ := hT.fix
  simp only [ups]
  clear hT
  repeat (first | refine wk1 ?_ | (apply WO.ci s138; (· exact lends)))
  refine W.if rfl (fun hb => ?_) (fun hb => ?_)
  · have hlt : i < k := by simpa using hb
    repeat (first | refine wk1 ?_ | (apply WO.ci s138; (· exact lends)))
    obtain ⟨x1, c1, hx1, hc1, r1⟩ := s61 (c := c0) (n := (max cores 1)) hc0 ats ats
    refine WO.curi rfl hh (LA.int rfl LA.nil) r1 ?_
    repeat (first | refine wk1 ?_ | (apply WO.ci s138; (· exact lends)))
    refine W.for (fun i2 T H n => ∃ (e : Id) (c : Cur) (L : List Pick), Ag [(0, .c (.ptr (0, 0, 0, 0) [] 0)), (1, .c (.int .i64 cores)), (7, .c (.ref e [] 2 0 L.length)), (8, .c (.int .i64 (k : Int))), (9, .c (.int .i64 ((i : Nat) : Int))), (10, .c (.int .i64 x1)), (11, .c (.int .i64 ((i2 : Nat) : Int)))] T ∧ H e = some (co L) ∧ L.length ≤ 6 * i + i2 ∧ picksOk L ∧ H (0, 0, 0, 0) = some c.C ∧ c.ok ∧ e.1 < n ∧ 0 < e.1) 6
      ⟨_, c1, L, ⟨rfl, rfl, rfl, rfl, rfl, rfl, rfl, trivial⟩, hh, by omega, hok, hh, hc1, ats, ats⟩ ?_
    rintro i2 T H n hi2 ⟨e, c0, L, hT, hH, hLl, hok, hr, hc0, hn1, hn2⟩
    obtain ⟨T, rfl⟩ := hT.fix
    simp only [ups]
    clear hT
    repeat (first | refine wk1 ?_ | (apply WO.ci s138; (· exact lends)))
    obtain ⟨x2, c2, hx2, hc2, r2⟩ := s61 (c := c0) (n := 6) hc0 ats ats
    refine WO.curi rfl hh (LA.int rfl LA.nil) r2 ?_
    repeat (first | refine wk1 ?_ | (apply WO.ci s138; (· exact lends)))
    rw [show IntKind.i64.wrap (1 + x2) = 1 + x2 from wrap_in (by omega)]
    refine W.if rfl (fun hb => ?_) (fun hb => ?_)
    · have hlt2 : i2 < 6 := by simp at hb; omega
      repeat (first | refine wk1 ?_ | (apply WO.ci s138; (· exact lends)))
      obtain ⟨x3, c3, hx3, hc3, r3⟩ := s61 (c := c2) (n := 4) hc2 ats ats
      refine WO.curi rfl hh (LA.int rfl LA.nil) r3 ?_
      repeat (first | refine wk1 ?_ | (apply WO.ci s138; (· exact lends)))
      refine WO.ap1r (⟨x1, x3⟩ : Pick) rfl hh rfl rfl (by omega) rfl hh abt ?_
      repeat (first | refine wk1 ?_ | (apply WO.ci s138; (· exact lends)))
      exact ⟨hlt2, _, c3, L ++ [⟨x1, x3⟩], ⟨rfl, rfl, by rw [List.length_append]; rfl, rfl, rfl, rfl, wrap_c (by omega), trivial⟩, hh, by simp; omega, snoc_all hok (by dsimp only; omega), hh, hc3, ats, ats⟩
    · repeat (first | refine wk1 ?_ | (apply WO.ci s138; (· exact lends)))
      refine W.exit ?_
      show W _ _ _ _
      repeat (first | refine wk1 ?_ | (apply WO.ci s138; (· exact lends)))
      exact ⟨hlt, _, c2, L, ⟨rfl, rfl, rfl, rfl, wrap_c (by omega), trivial⟩, hh, by omega, hok, hh, hc2, ats, ats⟩
  · have hge : i = k := by simp at hb; omega
    subst hge
    refine W.exit ?_
    show W _ _ _ _
    repeat (first | refine wk1 ?_ | (apply WO.ci s138; (· exact lends)))
    exact W.ret ⟨.inr rfl, _, _, c0, Ans.row rfl rfl rfl hh Ans.nil, hh, _, ⟨hok, by omega⟩, rfl, hc0⟩
end Go.Proofs.Ytgodaiiegcdpcaa.Abs.MC
end
