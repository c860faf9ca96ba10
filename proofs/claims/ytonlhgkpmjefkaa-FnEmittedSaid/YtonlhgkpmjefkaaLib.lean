/- Small plain lemmas on numbers, lists and rounds, for any arguments as each states. No program in sight. -/
import Derived.Test.YtonlhgkpmjefkaaWMore
namespace Go.Proofs.Ytonlhgkpmjefkaa.Lib
open Go.RowKit Go.Proofs.YtonlhgkpmjefkaaW.PrintWords
set_option linter.unusedVariables false
set_option linter.unusedSimpArgs false

theorem w64 {x : Int} (h0 : -9223372036854775808 ≤ x) (h1 : x ≤ 9223372036854775807) : wrap64 x = x := by
  unfold wrap64
  omega
theorem w64_nat {n : Nat} (h : n ≤ 4611686018427387904) : wrap64 ((n : Int) + 1) = ((n + 1 : Nat) : Int) := by
  rw [w64 (by omega) (by omega)]
  omega
theorem ev_const {α : Type} {a : Option α} {r : α} (h : a = some r) : Ev (fun _ => a) r := ⟨0, fun _ _ => h⟩
theorem ev_eq {α : Type} {g f : Nat → Option α} {r : α} (e : g = f) (h : Ev f r) : Ev g r := e ▸ h
theorem ev_pos {α : Type} {c : Prop} [Decidable c] {f g : Nat → Option α} {r : α} (hc : c) (h : Ev f r) : Ev (fun k => if c then f k else g k) r :=
  Ev.congr (fun _ => if_pos hc) h
theorem ev_neg {α : Type} {c : Prop} [Decidable c] {f g : Nat → Option α} {r : α} (hc : ¬ c) (h : Ev g r) : Ev (fun k => if c then f k else g k) r :=
  Ev.congr (fun _ => if_neg hc) h
theorem ev_ite {α : Type} {c : Prop} [Decidable c] {f g : Nat → Option α} {r : α} (hp : c → Ev f r) (hn : ¬ c → Ev g r) : Ev (fun k => if c then f k else g k) r := by
  by_cases hc : c
  · exact ev_pos hc (hp hc)
  · exact ev_neg hc (hn hc)
theorem ev_some {α : Type} {a r : α} (h : a = r) : Ev (fun _ => some a) r := by subst h; exact Ev.now _
theorem ev_fun {α : Type} {g : Nat → Option α} {r r' : α} (h : Ev g r) (k : Ev g r') : r = r' := by
  obtain ⟨K, h⟩ := h
  obtain ⟨K', k⟩ := k
  have h1 := h (max K K') (by omega)
  have h2 := k (max K K') (by omega)
  rw [h1] at h2
  exact Option.some.inj h2
/-- What a constant way and a way with rounds have in common. -/
theorem ev_bind0 {α β : Type} {a : Option α} {x : α} {f : Nat → α → Option β} {r : β} (h : a = some x) (k : Ev (fun n => f n x) r) : Ev (fun n => a.bind (f n)) r := by
  refine Ev.congr (fun n => ?_) k
  rw [h]
  rfl

theorem L_take_set {α : Type} (xs : List α) (i : Nat) (v : α) (h : i < xs.length) : (xs.set i v).take (i + 1) = xs.take i ++ [v] := by
  rw [List.take_succ_eq_append_getElem (by simpa using h), List.take_set, List.set_eq_of_length_le (by simp; omega)]
  simp
theorem L_take_getD {α : Type} (xs : List α) (i : Nat) (z : α) (h : i < xs.length) : xs.take (i + 1) = xs.take i ++ [xs.getD i z] := by
  rw [List.take_succ_eq_append_getElem h, List.getD_eq_getElem?_getD, List.getElem?_eq_getElem h]
  rfl
theorem copy_step {α β : Type} (conv : α → β) (x : List α) (acc : List β) (i : Nat) (z : α) (hi : i < x.length) (hl : acc.length = x.length) (h : acc.take i = (x.take i).map conv) :
    (acc.set i (conv (x.getD i z))).take (i + 1) = (x.take (i + 1)).map conv := by
  rw [L_take_set _ _ _ (by omega), L_take_getD x i z hi, h, List.map_append]
  rfl
theorem copy_end {α β : Type} (conv : α → β) (x : List α) (acc : List β) (i : Nat) (hi : i = x.length) (hl : acc.length = x.length) (h : acc.take i = (x.take i).map conv) : acc = x.map conv := by
  rw [List.take_of_length_le (by omega), List.take_of_length_le (by omega)] at h
  exact h
theorem rd_nat (xs : List Int) (i : Nat) : rd xs (i : Int) = xs.getD i 0 := by unfold rd; rw [Int.toNat_natCast]
theorem L_set_self {α : Type} (xs : List α) (i : Nat) (v z : α) (h : i < xs.length) : (xs.set i v).getD i z = v := by
  rw [List.getD_eq_getElem?_getD, List.getElem?_set_self h]
  rfl
theorem L_set_ne {α : Type} (xs : List α) (i j : Nat) (v z : α) (h : i ≠ j) : (xs.set i v).getD j z = xs.getD j z := by
  rw [List.getD_eq_getElem?_getD, List.getElem?_set_ne h, List.getD_eq_getElem?_getD]
theorem L_getD_map {α β : Type} (f : α → β) (xs : List α) (i : Nat) (z : α) (z' : β) (h : i < xs.length) : (xs.map f).getD i z' = f (xs.getD i z) := by
  rw [List.getD_eq_getElem?_getD, List.getD_eq_getElem?_getD, List.getElem?_map, List.getElem?_eq_getElem h]
  rfl

end Go.Proofs.Ytonlhgkpmjefkaa.Lib
