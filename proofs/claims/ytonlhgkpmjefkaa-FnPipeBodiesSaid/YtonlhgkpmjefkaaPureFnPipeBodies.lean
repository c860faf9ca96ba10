/- Bodies of pipes: the program tells them as the reference does, and they are right, at all numbers. -/
import Derived.Test.YtonlhgkpmjefkaaSayFnPipeBodies
import Derived.Test.YtonlhgkpmjefkaaOpens
import Derived.Test.YtonlhgkpmjefkaaCoreProgFnPipeBodies
import Derived.Test.YtonlhgkpmjefkaaCoreDrawFnPipeBodies
namespace Go.Proofs.Ytonlhgkpmjefkaa.Pure
open Go.RowKit Go.Proofs.Ytonlhgkpmjefkaa.XFnPipeBodies Go.Proofs.Ytonlhgkpmjefkaa.Lib Go.Proofs.Ytonlhgkpmjefkaa.CoreInsFnPipeBodies Go.Proofs.Ytonlhgkpmjefkaa.CoreBodyFnPipeBodies Go.Proofs.Ytonlhgkpmjefkaa.CoreProgFnPipeBodies Go.Proofs.Ytonlhgkpmjefkaa.CoreDrawFnPipeBodies Go.Proofs.Ytonlhgkpmjefkaa.Opens Go.Proofs.YtonlhgkpmjefkaaW.PrintWords Go.Proofs.YtonlhgkpmjefkaaW.PrintLast Go.Proofs.YtonlhgkpmjefkaaW.PrintMore
open Go.Proofs.Ytonlhgkpmjefkaa
set_option linter.unusedVariables false
set_option linter.unusedSimpArgs false

def mk (n t : Int) : List S37 := [⟨1, 0, 0, 0, n⟩, ⟨1, 1, 0, 0, 1⟩, ⟨12, 0, 0, 0, 6⟩, ⟨5, 0, 0, 0, t⟩, ⟨3, 0, 0, 1, 0⟩, ⟨11, 0, 0, 0, 2⟩, ⟨9, 0, 0, 0, t⟩, ⟨13, 0, 0, 0, 0⟩]
def pss (f t : Int) : List S37 := [⟨6, 0, 0, 1, f⟩, ⟨12, 0, 1, 0, 4⟩, ⟨5, 0, 0, 0, t⟩, ⟨11, 0, 0, 0, 0⟩, ⟨9, 0, 0, 0, t⟩, ⟨13, 0, 0, 0, 0⟩]
def sm (f : Int) : List S37 := [⟨6, 0, 0, 1, f⟩, ⟨12, 0, 1, 0, 4⟩, ⟨2, 2, 2, 0, 0⟩, ⟨11, 0, 0, 0, 0⟩, ⟨10, 0, 2, 0, 0⟩, ⟨13, 0, 0, 0, 0⟩]
theorem chan_eq (a : Int) : spec_l25Chan.f a = some (decide (0 ≤ a ∧ a ≤ 2)) := by
  unfold spec_l25Chan.f
  rw [in_eq]
  rfl
theorem make_eq (n t : Int) : spec_MakeBody.f n t = some (if (1 ≤ n ∧ n ≤ 50) ∧ (0 ≤ t ∧ t ≤ 2) then (mk n t, true) else ([], false)) := by
  unfold spec_MakeBody.f
  rw [in_eq, chan_eq]
  simp only [Option.bind_some, decide_eq_true_eq]
  by_cases c : 1 ≤ n ∧ n ≤ 50
  · by_cases d : 0 ≤ t ∧ t ≤ 2
    · rw [if_pos c, if_pos d, if_pos ⟨c, d⟩]; rfl
    · rw [if_pos c, if_neg d, if_neg (fun x => d x.2)]
  · rw [if_neg c, if_neg (fun x => c x.1)]
theorem pass_eq (f t : Int) : spec_PassBody.f f t = some (if (0 ≤ f ∧ f ≤ 2) ∧ (0 ≤ t ∧ t ≤ 2) ∧ f ≠ t then (pss f t, true) else ([], false)) := by
  unfold spec_PassBody.f
  rw [chan_eq, chan_eq]
  simp only [Option.bind_some, decide_eq_true_eq]
  by_cases c : 0 ≤ f ∧ f ≤ 2
  · by_cases d : 0 ≤ t ∧ t ≤ 2
    · by_cases e : f = t
      · rw [if_pos c, if_pos d, if_pos e, if_neg (fun x => x.2.2 e)]
      · rw [if_pos c, if_pos d, if_neg e, if_pos ⟨c, d, e⟩]; rfl
    · rw [if_pos c, if_neg d, if_neg (fun x => d x.2.1)]
  · rw [if_neg c, if_neg (fun x => c x.1)]
theorem sum_eq (f : Int) : spec_SumBody.f f = some (if 0 ≤ f ∧ f ≤ 2 then (sm f, true) else ([], false)) := by
  unfold spec_SumBody.f
  rw [chan_eq]
  simp only [Option.bind_some, decide_eq_true_eq]
  by_cases c : 0 ≤ f ∧ f ≤ 2
  · rw [if_pos c, if_pos c]; rfl
  · rw [if_neg c, if_neg c]
theorem make_same (n t : Int) : impl_MakeBody.f n t = spec_MakeBody.f n t := rfl
theorem pass_same (f t : Int) : impl_PassBody.f f t = spec_PassBody.f f t := rfl
theorem sum_same (f : Int) : impl_SumBody.f f = spec_SumBody.f f := rfl
theorem mk_good (n t c : Int) (h : 1 ≤ n ∧ n ≤ 50) (ht : 0 ≤ t ∧ t < c) (hc : c ≤ 3) : BodyGood (mk n t) c := by
  refine ⟨⟨by omega, hc⟩, ⟨by show 1 ≤ 8; omega, by show 8 ≤ 24; omega⟩, fun i hi => ?_, .inl rfl⟩
  have hi' : i < 8 := hi
  unfold AtGood
  rw [show ((mk n t).length : Int) = 8 from rfl]
  match i, hi' with
  | 0, _ => show InsGood 1 0 0 0 n 8 c; unfold InsGood; omega
  | 1, _ => show InsGood 1 1 0 0 1 8 c; unfold InsGood; omega
  | 2, _ => show InsGood 12 0 0 0 6 8 c; unfold InsGood; omega
  | 3, _ => show InsGood 5 0 0 0 t 8 c; unfold InsGood; omega
  | 4, _ => show InsGood 3 0 0 1 0 8 c; unfold InsGood; omega
  | 5, _ => show InsGood 11 0 0 0 2 8 c; unfold InsGood; omega
  | 6, _ => show InsGood 9 0 0 0 t 8 c; unfold InsGood; omega
  | 7, _ => show InsGood 13 0 0 0 0 8 c; unfold InsGood; omega
theorem pss_good (f t c : Int) (hf : 0 ≤ f ∧ f < c) (ht : 0 ≤ t ∧ t < c) (hc : c ≤ 3) : BodyGood (pss f t) c := by
  refine ⟨⟨by omega, hc⟩, ⟨by show 1 ≤ 6; omega, by show 6 ≤ 24; omega⟩, fun i hi => ?_, .inl rfl⟩
  have hi' : i < 6 := hi
  unfold AtGood
  rw [show ((pss f t).length : Int) = 6 from rfl]
  match i, hi' with
  | 0, _ => show InsGood 6 0 0 1 f 6 c; unfold InsGood; omega
  | 1, _ => show InsGood 12 0 1 0 4 6 c; unfold InsGood; omega
  | 2, _ => show InsGood 5 0 0 0 t 6 c; unfold InsGood; omega
  | 3, _ => show InsGood 11 0 0 0 0 6 c; unfold InsGood; omega
  | 4, _ => show InsGood 9 0 0 0 t 6 c; unfold InsGood; omega
  | 5, _ => show InsGood 13 0 0 0 0 6 c; unfold InsGood; omega
theorem sm_good (f c : Int) (hf : 0 ≤ f ∧ f < c) (hc : c ≤ 3) : BodyGood (sm f) c := by
  refine ⟨⟨by omega, hc⟩, ⟨by show 1 ≤ 6; omega, by show 6 ≤ 24; omega⟩, fun i hi => ?_, .inl rfl⟩
  have hi' : i < 6 := hi
  unfold AtGood
  rw [show ((sm f).length : Int) = 6 from rfl]
  match i, hi' with
  | 0, _ => show InsGood 6 0 0 1 f 6 c; unfold InsGood; omega
  | 1, _ => show InsGood 12 0 1 0 4 6 c; unfold InsGood; omega
  | 2, _ => show InsGood 2 2 2 0 0 6 c; unfold InsGood; omega
  | 3, _ => show InsGood 11 0 0 0 0 6 c; unfold InsGood; omega
  | 4, _ => show InsGood 10 0 2 0 0 6 c; unfold InsGood; omega
  | 5, _ => show InsGood 13 0 0 0 0 6 c; unfold InsGood; omega
/-- The bodies of a pipe of so many channels. -/
def bods (n : Int) : Nat → List (List S37)
  | 1 => [mk n 0, sm 0]
  | 2 => [mk n 0, pss 0 1, sm 1]
  | 3 => [mk n 0, pss 0 1, pss 1 2, sm 2]
  | _ => []
theorem bods_len (n : Int) (c : Nat) (h : 1 ≤ c ∧ c ≤ 3) : (bods n c).length = c + 1 := by
  obtain rfl | rfl | rfl : c = 1 ∨ c = 2 ∨ c = 3 := by omega
  all_goals rfl
theorem bods_small (n : Int) (c : Nat) (h : 1 ≤ c ∧ c ≤ 3) : ∀ y ∈ bods n c, y.length ≤ 1048576 := by
  obtain rfl | rfl | rfl : c = 1 ∨ c = 2 ∨ c = 3 := by omega
  all_goals
    intro y hy
    simp only [bods, List.mem_cons, List.not_mem_nil, or_false] at hy
  · rcases hy with rfl | rfl
    · show 8 ≤ 1048576; omega
    · show 6 ≤ 1048576; omega
  · rcases hy with rfl | rfl | rfl
    · show 8 ≤ 1048576; omega
    · show 6 ≤ 1048576; omega
    · show 6 ≤ 1048576; omega
  · rcases hy with rfl | rfl | rfl | rfl
    · show 8 ≤ 1048576; omega
    · show 6 ≤ 1048576; omega
    · show 6 ≤ 1048576; omega
    · show 6 ≤ 1048576; omega
theorem bods_good (n : Int) (hn : 1 ≤ n ∧ n ≤ 50) (c : Nat) (h : 1 ≤ c ∧ c ≤ 3) : ∀ i, i < (bods n c).length → BodyGood ((bods n c).getD i []) (c : Int) := by
  obtain rfl | rfl | rfl : c = 1 ∨ c = 2 ∨ c = 3 := by omega
  · intro i hi
    have hi' : i < 2 := hi
    match i, hi' with
    | 0, _ => exact mk_good n 0 _ hn (by omega) (by omega)
    | 1, _ => exact sm_good 0 _ (by omega) (by omega)
  · intro i hi
    have hi' : i < 3 := hi
    match i, hi' with
    | 0, _ => exact mk_good n 0 _ hn (by omega) (by omega)
    | 1, _ => exact pss_good 0 1 _ (by omega) (by omega) (by omega)
    | 2, _ => exact sm_good 1 _ (by omega) (by omega)
  · intro i hi
    have hi' : i < 4 := hi
    match i, hi' with
    | 0, _ => exact mk_good n 0 _ hn (by omega) (by omega)
    | 1, _ => exact pss_good 0 1 _ (by omega) (by omega) (by omega)
    | 2, _ => exact pss_good 1 2 _ (by omega) (by omega) (by omega)
    | 3, _ => exact sm_good 2 _ (by omega) (by omega)
theorem bods_prog (n : Int) (hn : 1 ≤ n ∧ n ≤ 50) (caps : List Int) (h : 1 ≤ caps.length ∧ caps.length ≤ 3) : ProgGood caps (bods n caps.length) ↔ CapsGood caps := by
  have hl := bods_len n caps.length h
  exact ⟨fun x => x.2.1, fun x => ⟨h.2, x, bods_good n hn caps.length h, by omega, by omega⟩⟩
theorem w1 : wrap64 1 = 1 := by unfold wrap64; omega
theorem w2 : wrap64 2 = 2 := by unfold wrap64; omega
theorem w3 : wrap64 3 = 3 := by unfold wrap64; omega
theorem w0 : wrap64 0 = 0 := by unfold wrap64; omega
/-- What the reference's loop comes to. -/
theorem spec_loop (n : Int) (hn : 1 ≤ n ∧ n ≤ 50) (caps : List Int) (h : 1 ≤ caps.length ∧ caps.length ≤ 3) (b : Bool) (hb : Ev (fun k => spec_ProgOk.f k caps (bods n caps.length)) b) :
    Ev (fun k => spec_Pipe.l0 k caps (sm ((caps.length : Int) - 1)) 0 caps [mk n 0]) (if b = true then (caps, bods n caps.length, true) else ([], [], false)) := by
  have fin : ∀ acc, acc ++ [sm ((caps.length : Int) - 1)] = bods n caps.length → Ev (fun k => (some (acc ++ [sm ((caps.length : Int) - 1)] : List (List S37))).bind fun y => ((spec_ProgOk.f k caps y).bind fun t => (if t = true then (some (caps, y, true)) else (some (([] : List Int), ([] : List (List S37)), false))))) (if b = true then (caps, bods n caps.length, true) else ([], [], false)) := by
    intro acc e
    rw [e]
    refine ev_bind0 rfl (Ev.bind hb ?_)
    cases b with
    | true => exact ev_pos rfl (ev_some rfl)
    | false => exact ev_neg (by decide) (ev_some rfl)
  obtain e | e | e : caps.length = 1 ∨ caps.length = 2 ∨ caps.length = 3 := by omega
  · refine Ev.step (fun k => by rw [spec_Pipe.l0]) ?_
    refine ev_neg (by simp only [Int.zero_add, w1]; omega) (ev_pos (by simp) (fin _ ?_))
    rw [e]; rfl
  · refine Ev.step (fun k => by rw [spec_Pipe.l0]) ?_
    simp only [Int.zero_add, w1, pass_eq]
    refine ev_pos (by omega) (ev_bind0 rfl (ev_pos (by simp) (Ev.step (fun k => by rw [spec_Pipe.l0]) ?_)))
    refine ev_neg (by simp only [Int.reduceAdd, w2]; omega) (ev_pos (by simp) (fin _ ?_))
    rw [e]; rfl
  · refine Ev.step (fun k => by rw [spec_Pipe.l0]) ?_
    simp only [Int.zero_add, w1, pass_eq]
    refine ev_pos (by omega) (ev_bind0 rfl (ev_pos (by simp) (Ev.step (fun k => by rw [spec_Pipe.l0]) ?_)))
    simp only [Int.reduceAdd, w2, pass_eq]
    refine ev_pos (by omega) (ev_bind0 rfl (ev_pos (by simp) (Ev.step (fun k => by rw [spec_Pipe.l0]) ?_)))
    refine ev_neg (by simp only [Int.reduceAdd, w3]; omega) (ev_pos (by simp) (fin _ ?_))
    rw [e]; rfl
theorem impl_loop (n : Int) (caps : List Int) (h : 1 ≤ caps.length ∧ caps.length ≤ 3) :
    Ev (fun k => impl_Pipe.l0 k caps 1 caps [mk n 0]) (caps, bods n caps.length, true) := by
  have last : ∀ f : Int, 0 ≤ f ∧ f ≤ 2 → impl_SumBody.f f = some (sm f, true) := fun f hf => by rw [sum_same, sum_eq, if_pos hf]
  obtain e | e | e : caps.length = 1 ∨ caps.length = 2 ∨ caps.length = 3 := by omega
  · refine Ev.step (fun k => by rw [impl_Pipe.l0]) ?_
    refine ev_neg (by omega) ?_
    rw [e, show wrap64 (((1 : Nat) : Int) - 1) = 0 from w0]
    exact ev_bind0 (last 0 (by omega)) (ev_pos (by simp) (ev_some rfl))
  · refine Ev.step (fun k => by rw [impl_Pipe.l0]) ?_
    simp only [Int.reduceSub, Int.reduceAdd, w0, w2, pass_same, pass_eq]
    refine ev_pos (by omega) (ev_bind0 rfl (ev_pos (by simp) (Ev.step (fun k => by rw [impl_Pipe.l0]) ?_)))
    refine ev_neg (by omega) ?_
    rw [e, show wrap64 (((2 : Nat) : Int) - 1) = 1 from w1]
    exact ev_bind0 (last 1 (by omega)) (ev_pos (by simp) (ev_some rfl))
  · refine Ev.step (fun k => by rw [impl_Pipe.l0]) ?_
    simp only [Int.reduceSub, Int.reduceAdd, w0, w2, pass_same, pass_eq]
    refine ev_pos (by omega) (ev_bind0 rfl (ev_pos (by simp) (Ev.step (fun k => by rw [impl_Pipe.l0]) ?_)))
    simp only [Int.reduceSub, Int.reduceAdd, w1, w3, pass_same, pass_eq]
    refine ev_pos (by omega) (ev_bind0 rfl (ev_pos (by simp) (Ev.step (fun k => by rw [impl_Pipe.l0]) ?_)))
    refine ev_neg (by omega) ?_
    rw [e, show wrap64 (((3 : Nat) : Int) - 1) = 2 from w2]
    exact ev_bind0 (last 2 (by omega)) (ev_pos (by simp) (ev_some rfl))
theorem pipe_both (n : Int) (caps : List Int) (hl : caps.length ≤ 1048576) : ∃ (p1 : List Int) (p2 : List (List S37)) (b : Bool), Ev (fun k => spec_Pipe.f k n caps) (p1, p2, b) ∧ Ev (fun k => impl_Pipe.f k n caps) (p1, p2, b) ∧ p1.length ≤ 1048576 ∧ p2.length ≤ 1048576 ∧ (∀ y ∈ p2, y.length ≤ 1048576) ∧ (b = true → ProgGood p1 p2 ∧ p2.length = caps.length + 1) := by
  have hw : wrap64 ((caps.length : Int) - 1) = (caps.length : Int) - 1 := w64 (by omega) (by omega)
  have sno : ∀ x y z, Ev (fun k => spec_Pipe.j0 k caps x y true z) (([] : List Int), ([] : List (List S37)), false) := fun x y z => Ev.step (f := fun _ => some ([], [], false)) (fun k => by simp [spec_Pipe.j0]) (ev_some rfl)
  have ino : ∀ x, Ev (fun k => impl_Pipe.j0 k caps x true) (([] : List Int), ([] : List (List S37)), false) := fun x => Ev.step (f := fun _ => some ([], [], false)) (fun k => by simp [impl_Pipe.j0]) (ev_some rfl)
  unfold spec_Pipe.f impl_Pipe.f
  simp only [hw, make_same, make_eq, sum_eq, within_eq]
  have pre : ∀ {f : Nat → List Int → Option (List Int × List (List S37) × Bool)} {r}, Ev (fun k => f k caps) r → Ev (fun k => (some ([] : List Int)).bind fun y154 => (if y154.length + caps.length < 17592186044416 then ((some (y154 ++ caps : List Int)).bind fun y157 => f k y157) else none)) r := by
    intro f r h
    exact ev_bind0 rfl (ev_pos (by simp; omega) (ev_bind0 rfl h))
  by_cases hn : 1 ≤ n ∧ n ≤ 50
  case neg =>
    refine ⟨[], [], false, pre (ev_bind0 rfl (ev_bind0 rfl ?_)), ev_bind0 rfl ?_, by simp, by simp, by simp, fun h => by cases h⟩
    · rw [if_neg (fun x => hn x.1)]
      exact ev_neg (by decide) (sno _ _ _)
    · rw [if_neg (fun x => hn x.1)]
      exact ev_neg (by decide) (ino _)
  have hm : (1 ≤ n ∧ n ≤ 50) ∧ ((0 : Int) ≤ 0 ∧ (0 : Int) ≤ 2) := ⟨hn, by omega⟩
  by_cases hc : 1 ≤ caps.length ∧ caps.length ≤ 3
  case neg =>
    refine ⟨[], [], false, pre (ev_bind0 rfl (ev_bind0 rfl ?_)), ev_bind0 rfl ?_, by simp, by simp, by simp, fun h => by cases h⟩
    · rw [if_pos hm, if_neg (show ¬ (0 ≤ (caps.length : Int) - 1 ∧ (caps.length : Int) - 1 ≤ 2) by omega)]
      exact ev_pos rfl (sno _ _ _)
    · rw [if_pos hm]
      refine ev_pos rfl (ev_bind0 rfl ?_)
      rw [decide_eq_false (show ¬ (1 ≤ (caps.length : Int) ∧ (caps.length : Int) ≤ 3) by omega)]
      exact ev_neg (by decide) (ino _)
  obtain ⟨g, hg1, hg2⟩ := caps_ok caps hl
  have hbl := bods_len n caps.length hc
  obtain ⟨q, hq1, _, hq3⟩ := prog_both caps (bods n caps.length) hl (by omega) (bods_small n caps.length hc)
  have hqg : q = g := by
    rw [Bool.eq_iff_iff, hq3, hg2]
    exact bods_prog n hn caps hc
  subst hqg
  have hs := spec_loop n hn caps hc q hq1
  have spec_ : Ev (fun k => spec_Pipe.j0 k caps (mk n 0) (sm ((caps.length : Int) - 1)) false caps) (if q = true then (caps, bods n caps.length, true) else ([], [], false)) := by
    refine Ev.step (fun k => by rw [spec_Pipe.j0]) ?_
    exact ev_neg (by decide) (ev_pos (by simp) hs)
  have isum : (0 ≤ (caps.length : Int) - 1 ∧ (caps.length : Int) - 1 ≤ 2) := by omega
  have iw : (1 ≤ (caps.length : Int) ∧ (caps.length : Int) ≤ 3) := by omega
  cases q with
  | false =>
    refine ⟨[], [], false, pre (ev_bind0 rfl (ev_bind0 rfl ?_)), ev_bind0 rfl ?_, by simp, by simp, by simp, fun h => by cases h⟩
    · rw [if_pos hm, if_pos isum]
      exact ev_pos rfl spec_
    · rw [if_pos hm]
      refine ev_pos rfl (ev_bind0 rfl ?_)
      rw [decide_eq_true iw]
      exact ev_pos rfl (Ev.bind hg1 (ino _))
  | true =>
    refine ⟨caps, bods n caps.length, true, pre (ev_bind0 rfl (ev_bind0 rfl ?_)), ev_bind0 rfl ?_, hl, by omega, bods_small n caps.length hc, fun _ => ⟨hq3.1 rfl, hbl⟩⟩
    · rw [if_pos hm, if_pos isum]
      exact ev_pos rfl spec_
    · rw [if_pos hm]
      refine ev_pos rfl (ev_bind0 rfl ?_)
      rw [decide_eq_true iw]
      refine ev_pos rfl (Ev.bind hg1 (Ev.step (fun k => by rw [impl_Pipe.j0]) (ev_neg (by decide) ?_)))
      have hcopy : impl_copyInts.f caps = some caps := by
        unfold impl_copyInts.f
        simp only [Option.bind_some, List.nil_append]
        rw [if_pos (by simp; omega)]
      exact ev_bind0 hcopy (impl_loop n caps hc)
theorem same_l (x : List S37) (hx : x.length ≤ 1048576) : ∀ (n i : Nat), i + n = x.length → Ev (fun k => laws_sameIns.l0 k x x i) true := by
  intro n
  induction n with
  | zero =>
    intro i hi
    refine Ev.step (f := fun _ => some true) (fun k => ?_) (ev_some rfl)
    rw [laws_sameIns.l0, if_neg (by omega)]
  | succ n ih =>
    intro i hi
    refine Ev.step (fun k => ?_) (ih (i + 1) (by omega))
    rw [laws_sameIns.l0, if_pos (by omega), if_pos (by omega), if_pos (by omega), if_neg (by simp), w64_nat (by omega)]
theorem same_ins (x : List S37) (hx : x.length ≤ 1048576) : Ev (fun k => laws_sameIns.f k x x) true := by
  unfold laws_sameIns.f
  exact ev_pos rfl (same_l x hx x.length 0 (by omega))
theorem same_ints_l (x : List Int) (hx : x.length ≤ 1048576) : ∀ (n i : Nat), i + n = x.length → Ev (fun k => laws_sameInts.l0 k x x i) true := by
  intro n
  induction n with
  | zero =>
    intro i hi
    refine Ev.step (f := fun _ => some true) (fun k => ?_) (ev_some rfl)
    rw [laws_sameInts.l0, if_neg (by omega)]
  | succ n ih =>
    intro i hi
    refine Ev.step (fun k => ?_) (ih (i + 1) (by omega))
    rw [laws_sameInts.l0, if_pos (by omega), if_pos (by omega), if_pos (by omega), if_pos rfl, w64_nat (by omega)]
theorem same_ints (x : List Int) (hx : x.length ≤ 1048576) : Ev (fun k => laws_sameInts.f k x x) true := by
  unfold laws_sameInts.f
  exact ev_pos rfl (same_ints_l x hx x.length 0 (by omega))
theorem same_prog_l (c : List Int) (x : List (List S37)) (hx : x.length ≤ 1048576) (he : ∀ y ∈ x, y.length ≤ 1048576) : ∀ (n i : Nat), i + n = x.length → Ev (fun k => laws_sameProg.l0 k i c x c x) true := by
  intro n
  induction n with
  | zero =>
    intro i hi
    refine Ev.step (f := fun _ => some true) (fun k => ?_) (ev_some rfl)
    rw [laws_sameProg.l0, if_neg (by omega)]
  | succ n ih =>
    intro i hi
    have hm : x.getD i [] ∈ x := L_mem x [] i (by omega)
    refine Ev.step (fun k => by rw [laws_sameProg.l0]) ?_
    refine ev_pos (by omega) (ev_pos (by omega) (ev_pos (by omega) ?_))
    rw [rdBody_nat, w64_nat (by omega)]
    exact Ev.bind (same_ins _ (he _ hm)) (ev_pos rfl (ih (i + 1) (by omega)))
theorem same_prog (c : List Int) (x : List (List S37)) (hc : c.length ≤ 1048576) (hx : x.length ≤ 1048576) (he : ∀ y ∈ x, y.length ≤ 1048576) : Ev (fun k => laws_sameProg.f k c x c x) true := by
  unfold laws_sameProg.f
  refine Ev.bind (same_ints c hc) (ev_pos rfl ?_)
  rw [bne_self_eq_false]
  have h0 : Ev (fun k => laws_sameProg.l0 k 0 c x c x) true := same_prog_l c x hx he x.length 0 (by omega)
  refine Ev.step (fun k => by rw [laws_sameProg.j0]) ?_
  exact ev_neg (by decide) h0
theorem caps_loop (b : List Int) : ∀ (n : Nat) (x3 : List Int) (x4 i h : Int), DS b i → x3.length ≤ 100 → (x4 = (x3.length : Int)) → x3.length + n = 4 → ∃ c i' h', Ev (fun k => spec_l25DrawCaps.l0 k x3 x4 b i h) (c, i', h') ∧ c.length ≤ 1000 := by
  intro n
  induction n with
  | zero =>
    intro x3 x4 i h hd hx h4 hn
    obtain ⟨y, i1, h1, e1, a1, c1, _, d1⟩ := below_ok b i h 3 hd
    have c1' := c1 (by omega)
    obtain ⟨z, i2, h2, e2, a2, _, _, d2⟩ := below_ok b i1 h1 10 d1
    obtain ⟨p, i3, h3, e3, d3, _⟩ := pick_ok b i2 h2 [0, 5, 1] (by simp) d2
    by_cases q0 : z = 0
    · refine ⟨x3.take 0, i2, h2, Ev.step (f := fun _ => some (x3.take 0, i2, h2)) (fun k => ?_) (ev_some rfl), by simp⟩
      rw [spec_l25DrawCaps.l0, e1]
      simp only [Option.bind_some]
      rw [w64 (by omega) (by omega), if_neg (by omega), e2]
      simp only [Option.bind_some]
      rw [if_pos q0, if_pos (by omega)]
      rfl
    · by_cases q1 : z = 1
      · refine ⟨x3 ++ [p], i3, h3, Ev.step (f := fun _ => some (x3 ++ [p], i3, h3)) (fun k => ?_) (ev_some rfl), by simp; omega⟩
        rw [spec_l25DrawCaps.l0, e1]
        simp only [Option.bind_some]
        rw [w64 (by omega) (by omega), if_neg (by omega), e2]
        simp only [Option.bind_some]
        rw [if_neg q0, if_pos q1, e3]
        simp only [Option.bind_some]
        rw [if_pos (by omega)]
      · refine ⟨x3, i2, h2, Ev.step (f := fun _ => some (x3, i2, h2)) (fun k => ?_) (ev_some rfl), by omega⟩
        rw [spec_l25DrawCaps.l0, e1]
        simp only [Option.bind_some]
        rw [w64 (by omega) (by omega), if_neg (by omega), e2]
        simp only [Option.bind_some]
        rw [if_neg q0, if_neg q1]
  | succ n ih =>
    intro x3 x4 i h hd hx h4 hn
    obtain ⟨y, i1, h1, e1, a1, c1, _, d1⟩ := below_ok b i h 3 hd
    have c1' := c1 (by omega)
    by_cases c : x4 < 1 + y
    · obtain ⟨v, i2, h2, e2, a2, c2, _, d2⟩ := below_ok b i1 h1 4 d1
      have c2' := c2 (by omega)
      obtain ⟨r, i', h', er, hr⟩ := ih (x3 ++ [1 + v]) (x4 + 1) i2 h2 d2 (by simp; omega) (by simp; omega) (by simp; omega)
      refine ⟨r, i', h', Ev.step (fun k => ?_) er, hr⟩
      rw [spec_l25DrawCaps.l0, e1]
      simp only [Option.bind_some]
      rw [w64 (x := 1 + y) (by omega) (by omega), if_pos c, e2]
      simp only [Option.bind_some]
      rw [if_pos (by omega), w64 (x := 1 + v) (by omega) (by omega), w64 (x := x4 + 1) (by omega) (by omega)]
    · obtain ⟨z, i2, h2, e2, a2, _, _, d2⟩ := below_ok b i1 h1 10 d1
      obtain ⟨p, i3, h3, e3, d3, _⟩ := pick_ok b i2 h2 [0, 5, 1] (by simp) d2
      by_cases q0 : z = 0
      · refine ⟨x3.take 0, i2, h2, Ev.step (f := fun _ => some (x3.take 0, i2, h2)) (fun k => ?_) (ev_some rfl), by simp⟩
        rw [spec_l25DrawCaps.l0, e1]
        simp only [Option.bind_some]
        rw [w64 (by omega) (by omega), if_neg c, e2]
        simp only [Option.bind_some]
        rw [if_pos q0, if_pos (by omega)]
        rfl
      · by_cases q1 : z = 1
        · refine ⟨x3 ++ [p], i3, h3, Ev.step (f := fun _ => some (x3 ++ [p], i3, h3)) (fun k => ?_) (ev_some rfl), by simp; omega⟩
          rw [spec_l25DrawCaps.l0, e1]
          simp only [Option.bind_some]
          rw [w64 (by omega) (by omega), if_neg c, e2]
          simp only [Option.bind_some]
          rw [if_neg q0, if_pos q1, e3]
          simp only [Option.bind_some]
          rw [if_pos (by omega)]
        · refine ⟨x3, i2, h2, Ev.step (f := fun _ => some (x3, i2, h2)) (fun k => ?_) (ev_some rfl), by omega⟩
          rw [spec_l25DrawCaps.l0, e1]
          simp only [Option.bind_some]
          rw [w64 (by omega) (by omega), if_neg c, e2]
          simp only [Option.bind_some]
          rw [if_neg q0, if_neg q1]
theorem drawN_ok (b : List Int) (i h : Int) (hd : DS b i) : ∃ x i' h', spec_l25DrawN.f b i h = some (x, i', h') ∧ DS b i' := by
  obtain ⟨x, i', h', e, d, _⟩ := pick_ok b i h [1, 3, 7, 20, 50, 51, 0, (-1)] (by simp) hd
  refine ⟨x, i', h', ?_, d⟩
  unfold spec_l25DrawN.f
  rw [e]
  rfl
theorem total_same (t : Int) : impl_Total.f t = spec_Total.f t := rfl
theorem body_ev (l : List S37) (hl : l.length ≤ 1048576) : ∃ g, Ev (fun k => impl_BodyOk.f k l 3) g ∧ (g = true ↔ BodyGood l 3) := by
  obtain ⟨g, _, h2, h3⟩ := body_both l 3 hl
  exact ⟨g, h2, h3⟩
theorem FnPipeBodies : SayFnPipeBodies.Pure := by
  intro l _
  refine Ev.rounds ?_
  unfold laws_FnPipeBodies.f laws_big.f
  refine ev_bind0 rfl ?_
  by_cases hb : (l.length : Int) > 1048576
  · exact ev_pos (decide_eq_true hb) (ev_some rfl)
  refine ev_neg (by simpa using hb) ?_
  obtain ⟨h, hnew, d0⟩ := new_ok l (by omega)
  -- the draws
  obtain ⟨a, i1, h1, e1, d1⟩ := drawN_ok l 0 h d0
  obtain ⟨b, i2, h2, e2, _, _, _, d2⟩ := below_ok l i1 h1 5 d1
  have D1 : Ev (fun k => spec_DrawMakeBody.f k l) (a, wrap64 (b - 1)) := by
    unfold spec_DrawMakeBody.f
    exact Ev.bind hnew (ev_bind0 e1 (ev_bind0 e2 (ev_some rfl)))
  obtain ⟨c, i3, h3, e3, _, _, _, d3⟩ := below_ok l 0 h 5 d0
  obtain ⟨d, i4, h4, e4, _, _, _, d4⟩ := below_ok l i3 h3 5 d3
  have D2 : Ev (fun k => spec_DrawPassBody.f k l) (wrap64 (c - 1), wrap64 (d - 1)) := by
    unfold spec_DrawPassBody.f
    exact Ev.bind hnew (ev_bind0 e3 (ev_bind0 e4 (ev_some rfl)))
  have D3 : Ev (fun k => spec_DrawSumBody.f k l) (wrap64 (c - 1)) := by
    unfold spec_DrawSumBody.f
    exact Ev.bind hnew (ev_bind0 e3 (ev_some rfl))
  obtain ⟨caps, i5, h5, e5, hcl⟩ := caps_loop l 4 [] 0 i1 h1 d1 (by simp) rfl rfl
  have D4 : Ev (fun k => spec_DrawPipe.f k l) (a, caps) := by
    unfold spec_DrawPipe.f spec_l25DrawCaps.f
    exact Ev.bind hnew (ev_bind0 e1 (Ev.bind e5 (ev_some rfl)))
  have D5 : Ev (fun k => spec_DrawTotal.f k l) a := by
    unfold spec_DrawTotal.f
    exact Ev.bind hnew (ev_bind0 e1 (ev_some rfl))
  generalize wrap64 (b - 1) = t1 at D1
  generalize wrap64 (c - 1) = t2 at D2 D3
  generalize wrap64 (d - 1) = t3 at D2
  -- the bodies
  obtain ⟨x, hx⟩ : ∃ x, x = (if (1 ≤ a ∧ a ≤ 50) ∧ (0 ≤ t1 ∧ t1 ≤ 2) then (mk a t1, true) else (([] : List S37), false)) := ⟨_, rfl⟩
  have X1 : spec_MakeBody.f a t1 = some x := by rw [make_eq, hx]
  have X2 : x.1.length ≤ 1048576 ∧ (x.2 = true → BodyGood x.1 3) := by
    rw [hx]
    split
    · rename_i q
      exact ⟨by show 8 ≤ 1048576; omega, fun _ => mk_good a t1 3 q.1 (by omega) (by omega)⟩
    · exact ⟨by simp, fun q => by cases q⟩
  obtain ⟨z, hz⟩ : ∃ z, z = (if (0 ≤ t2 ∧ t2 ≤ 2) ∧ (0 ≤ t3 ∧ t3 ≤ 2) ∧ t2 ≠ t3 then (pss t2 t3, true) else (([] : List S37), false)) := ⟨_, rfl⟩
  have Z1 : spec_PassBody.f t2 t3 = some z := by rw [pass_eq, hz]
  have Z2 : z.1.length ≤ 1048576 ∧ (z.2 = true → BodyGood z.1 3) := by
    rw [hz]
    split
    · rename_i q
      exact ⟨by show 6 ≤ 1048576; omega, fun _ => pss_good t2 t3 3 (by omega) (by omega) (by omega)⟩
    · exact ⟨by simp, fun q => by cases q⟩
  obtain ⟨u, hu⟩ : ∃ u, u = (if 0 ≤ t2 ∧ t2 ≤ 2 then (sm t2, true) else (([] : List S37), false)) := ⟨_, rfl⟩
  have U1 : spec_SumBody.f t2 = some u := by rw [sum_eq, hu]
  have U2 : u.1.length ≤ 1048576 ∧ (u.2 = true → BodyGood u.1 3) := by
    rw [hu]
    split
    · rename_i q
      exact ⟨by show 6 ≤ 1048576; omega, fun _ => sm_good t2 3 (by omega) (by omega)⟩
    · exact ⟨by simp, fun q => by cases q⟩
  obtain ⟨p1, p2, pb, P1, P2, P3, P4, P5, P6⟩ := pipe_both a caps (by omega)
  obtain ⟨tt, T1⟩ : ∃ tt, spec_Total.f a = some tt := by
    unfold spec_Total.f
    rw [in_eq]
    simp only [Option.bind_some]
    split <;> exact ⟨_, rfl⟩
  obtain ⟨g1, G1, G1'⟩ := body_ev x.1 X2.1
  obtain ⟨g2, G2, G2'⟩ := body_ev z.1 Z2.1
  obtain ⟨g3, G3, G3'⟩ := body_ev u.1 U2.1
  obtain ⟨g4, _, G4, G4'⟩ := prog_both p1 p2 P3 P4 P5
  refine Ev.bind D1 (ev_bind0 ((make_same _ _).trans X1) (ev_bind0 X1 (Ev.bind D2 (ev_bind0 ((pass_same _ _).trans Z1) (ev_bind0 Z1 (Ev.bind D3 (ev_bind0 ((sum_same _).trans U1) (ev_bind0 U1 (Ev.bind D4 (Ev.bind P2 (Ev.bind P1 (Ev.bind D5 ?_))))))))))))
  refine Ev.bind (same_ins x.1 X2.1) (Ev.bind (same_ins z.1 Z2.1) (Ev.bind (same_ins u.1 U2.1) (Ev.bind (same_prog p1 p2 P3 P4 P5) (ev_bind0 ((total_same a).trans T1) (ev_bind0 T1 (Ev.bind G1 (Ev.bind G2 (Ev.bind G3 (Ev.bind G4 ?_)))))))))
  refine ev_pos ⟨⟨rfl, rfl, rfl, rfl⟩, ⟨rfl, rfl, rfl, rfl, rfl⟩, fun q => G1'.2 (X2.2 q), fun q => G2'.2 (Z2.2 q), fun q => G3'.2 (U2.2 q), fun q => G4'.2 (P6 q).1, fun q => ?_⟩ (ev_some rfl)
  show ((p2.length : Int) == wrap64 ((caps.length : Int) + 1)) = true
  rw [w64 (by omega) (by omega), beq_iff_eq, (P6 q).2]
  rfl
end Go.Proofs.Ytonlhgkpmjefkaa.Pure
