/- The program's Pipe is the reference's, at all numbers and capacities; what is written into a program made so turns no other. -/
import Derived.Test.YtonlhgkpmjefkaaSayFnExactPipe
import Derived.Test.YtonlhgkpmjefkaaOpens
import Derived.Test.YtonlhgkpmjefkaaCoreProgFnExactPipe
import Derived.Test.YtonlhgkpmjefkaaHlpFnExactPipe
import Derived.Test.YtonlhgkpmjefkaaMarksInsSSFnExactPipe
namespace Go.Proofs.Ytonlhgkpmjefkaa.Pure
open Go.RowKit Go.Proofs.Ytonlhgkpmjefkaa.XFnExactPipe Go.Proofs.Ytonlhgkpmjefkaa.Lib Go.Proofs.Ytonlhgkpmjefkaa.CoreInsFnExactPipe Go.Proofs.Ytonlhgkpmjefkaa.CoreBodyFnExactPipe Go.Proofs.Ytonlhgkpmjefkaa.CoreProgFnExactPipe Go.Proofs.Ytonlhgkpmjefkaa.HlpFnExactPipe Go.Proofs.Ytonlhgkpmjefkaa.MarksInsSSFnExactPipe Go.Proofs.Ytonlhgkpmjefkaa.Opens Go.Proofs.YtonlhgkpmjefkaaW.PrintWords Go.Proofs.YtonlhgkpmjefkaaW.PrintLast Go.Proofs.YtonlhgkpmjefkaaW.PrintMore
open Go.Proofs.Ytonlhgkpmjefkaa
set_option linter.unusedVariables false
set_option linter.unusedSimpArgs false

def mk (n t : Int) : List S37 := [⟨1, 0, 0, 0, n⟩, ⟨1, 1, 0, 0, 1⟩, ⟨12, 0, 0, 0, 6⟩, ⟨5, 0, 0, 0, t⟩, ⟨3, 0, 0, 1, 0⟩, ⟨11, 0, 0, 0, 2⟩, ⟨9, 0, 0, 0, t⟩, ⟨13, 0, 0, 0, 0⟩]
def pss (f t : Int) : List S37 := [⟨6, 0, 0, 1, f⟩, ⟨12, 0, 1, 0, 4⟩, ⟨5, 0, 0, 0, t⟩, ⟨11, 0, 0, 0, 0⟩, ⟨9, 0, 0, 0, t⟩, ⟨13, 0, 0, 0, 0⟩]
def sm (f : Int) : List S37 := [⟨6, 0, 0, 1, f⟩, ⟨12, 0, 1, 0, 4⟩, ⟨2, 2, 2, 0, 0⟩, ⟨11, 0, 0, 0, 0⟩, ⟨10, 0, 2, 0, 0⟩, ⟨13, 0, 0, 0, 0⟩]
theorem chan_eq (a : Int) : spec_l25Chan.f a = some (decide (0 ≤ a ∧ a ≤ 2)) := by
  unfold spec_l25Chan.f
  rw [in_eq]
  rfl
theorem make_eq (n t : Int) : spec_MakeBody.f n t = some (if (1 ≤ n ∧ n ≤ 50) ∧ (0 ≤ t ∧ t ≤ 2) then (mk n t, true) else ([], false)) := by
  unfold spec_MakeBody.f
  rw [in_eq, chan_eq]
  simp only [Option.bind_some, decide_eq_true_eq]
  by_cases c : 1 ≤ n ∧ n ≤ 50
  · by_cases d : 0 ≤ t ∧ t ≤ 2
    · rw [if_pos c, if_pos d, if_pos ⟨c, d⟩]; rfl
    · rw [if_pos c, if_neg d, if_neg (fun x => d x.2)]
  · rw [if_neg c, if_neg (fun x => c x.1)]
theorem pass_eq (f t : Int) : spec_PassBody.f f t = some (if (0 ≤ f ∧ f ≤ 2) ∧ (0 ≤ t ∧ t ≤ 2) ∧ f ≠ t then (pss f t, true) else ([], false)) := by
  unfold spec_PassBody.f
  rw [chan_eq, chan_eq]
  simp only [Option.bind_some, decide_eq_true_eq]
  by_cases c : 0 ≤ f ∧ f ≤ 2
  · by_cases d : 0 ≤ t ∧ t ≤ 2
    · by_cases e : f = t
      · rw [if_pos c, if_pos d, if_pos e, if_neg (fun x => x.2.2 e)]
      · rw [if_pos c, if_pos d, if_neg e, if_pos ⟨c, d, e⟩]; rfl
    · rw [if_pos c, if_neg d, if_neg (fun x => d x.2.1)]
  · rw [if_neg c, if_neg (fun x => c x.1)]
theorem sum_eq (f : Int) : spec_SumBody.f f = some (if 0 ≤ f ∧ f ≤ 2 then (sm f, true) else ([], false)) := by
  unfold spec_SumBody.f
  rw [chan_eq]
  simp only [Option.bind_some, decide_eq_true_eq]
  by_cases c : 0 ≤ f ∧ f ≤ 2
  · rw [if_pos c, if_pos c]; rfl
  · rw [if_neg c, if_neg c]
theorem make_same (n t : Int) : impl_MakeBody.f n t = spec_MakeBody.f n t := rfl
theorem pass_same (f t : Int) : impl_PassBody.f f t = spec_PassBody.f f t := rfl
theorem sum_same (f : Int) : impl_SumBody.f f = spec_SumBody.f f := rfl
theorem mk_good (n t c : Int) (h : 1 ≤ n ∧ n ≤ 50) (ht : 0 ≤ t ∧ t < c) (hc : c ≤ 3) : BodyGood (mk n t) c := by
  refine ⟨⟨by omega, hc⟩, ⟨by show 1 ≤ 8; omega, by show 8 ≤ 24; omega⟩, fun i hi => ?_, .inl rfl⟩
  have hi' : i < 8 := hi
  unfold AtGood
  rw [show ((mk n t).length : Int) = 8 from rfl]
  match i, hi' with
  | 0, _ => show InsGood 1 0 0 0 n 8 c; unfold InsGood; omega
  | 1, _ => show InsGood 1 1 0 0 1 8 c; unfold InsGood; omega
  | 2, _ => show InsGood 12 0 0 0 6 8 c; unfold InsGood; omega
  | 3, _ => show InsGood 5 0 0 0 t 8 c; unfold InsGood; omega
  | 4, _ => show InsGood 3 0 0 1 0 8 c; unfold InsGood; omega
  | 5, _ => show InsGood 11 0 0 0 2 8 c; unfold InsGood; omega
  | 6, _ => show InsGood 9 0 0 0 t 8 c; unfold InsGood; omega
  | 7, _ => show InsGood 13 0 0 0 0 8 c; unfold InsGood; omega
theorem pss_good (f t c : Int) (hf : 0 ≤ f ∧ f < c) (ht : 0 ≤ t ∧ t < c) (hc : c ≤ 3) : BodyGood (pss f t) c := by
  refine ⟨⟨by omega, hc⟩, ⟨by show 1 ≤ 6; omega, by show 6 ≤ 24; omega⟩, fun i hi => ?_, .inl rfl⟩
  have hi' : i < 6 := hi
  unfold AtGood
  rw [show ((pss f t).length : Int) = 6 from rfl]
  match i, hi' with
  | 0, _ => show InsGood 6 0 0 1 f 6 c; unfold InsGood; omega
  | 1, _ => show InsGood 12 0 1 0 4 6 c; unfold InsGood; omega
  | 2, _ => show InsGood 5 0 0 0 t 6 c; unfold InsGood; omega
  | 3, _ => show InsGood 11 0 0 0 0 6 c; unfold InsGood; omega
  | 4, _ => show InsGood 9 0 0 0 t 6 c; unfold InsGood; omega
  | 5, _ => show InsGood 13 0 0 0 0 6 c; unfold InsGood; omega
theorem sm_good (f c : Int) (hf : 0 ≤ f ∧ f < c) (hc : c ≤ 3) : BodyGood (sm f) c := by
  refine ⟨⟨by omega, hc⟩, ⟨by show 1 ≤ 6; omega, by show 6 ≤ 24; omega⟩, fun i hi => ?_, .inl rfl⟩
  have hi' : i < 6 := hi
  unfold AtGood
  rw [show ((sm f).length : Int) = 6 from rfl]
  match i, hi' with
  | 0, _ => show InsGood 6 0 0 1 f 6 c; unfold InsGood; omega
  | 1, _ => show InsGood 12 0 1 0 4 6 c; unfold InsGood; omega
  | 2, _ => show InsGood 2 2 2 0 0 6 c; unfold InsGood; omega
  | 3, _ => show InsGood 11 0 0 0 0 6 c; unfold InsGood; omega
  | 4, _ => show InsGood 10 0 2 0 0 6 c; unfold InsGood; omega
  | 5, _ => show InsGood 13 0 0 0 0 6 c; unfold InsGood; omega
/-- The bodies of a pipe of so many channels. -/
def bods (n : Int) : Nat → List (List S37)
  | 1 => [mk n 0, sm 0]
  | 2 => [mk n 0, pss 0 1, sm 1]
  | 3 => [mk n 0, pss 0 1, pss 1 2, sm 2]
  | _ => []
theorem bods_len (n : Int) (c : Nat) (h : 1 ≤ c ∧ c ≤ 3) : (bods n c).length = c + 1 := by
  obtain rfl | rfl | rfl : c = 1 ∨ c = 2 ∨ c = 3 := by omega
  all_goals rfl
theorem bods_small (n : Int) (c : Nat) (h : 1 ≤ c ∧ c ≤ 3) : ∀ y ∈ bods n c, y.length ≤ 1048576 := by
  obtain rfl | rfl | rfl : c = 1 ∨ c = 2 ∨ c = 3 := by omega
  all_goals
    intro y hy
    simp only [bods, List.mem_cons, List.not_mem_nil, or_false] at hy
  · rcases hy with rfl | rfl
    · show 8 ≤ 1048576; omega
    · show 6 ≤ 1048576; omega
  · rcases hy with rfl | rfl | rfl
    · show 8 ≤ 1048576; omega
    · show 6 ≤ 1048576; omega
    · show 6 ≤ 1048576; omega
  · rcases hy with rfl | rfl | rfl | rfl
    · show 8 ≤ 1048576; omega
    · show 6 ≤ 1048576; omega
    · show 6 ≤ 1048576; omega
    · show 6 ≤ 1048576; omega
theorem bods_good (n : Int) (hn : 1 ≤ n ∧ n ≤ 50) (c : Nat) (h : 1 ≤ c ∧ c ≤ 3) : ∀ i, i < (bods n c).length → BodyGood ((bods n c).getD i []) (c : Int) := by
  obtain rfl | rfl | rfl : c = 1 ∨ c = 2 ∨ c = 3 := by omega
  · intro i hi
    have hi' : i < 2 := hi
    match i, hi' with
    | 0, _ => exact mk_good n 0 _ hn (by omega) (by omega)
    | 1, _ => exact sm_good 0 _ (by omega) (by omega)
  · intro i hi
    have hi' : i < 3 := hi
    match i, hi' with
    | 0, _ => exact mk_good n 0 _ hn (by omega) (by omega)
    | 1, _ => exact pss_good 0 1 _ (by omega) (by omega) (by omega)
    | 2, _ => exact sm_good 1 _ (by omega) (by omega)
  · intro i hi
    have hi' : i < 4 := hi
    match i, hi' with
    | 0, _ => exact mk_good n 0 _ hn (by omega) (by omega)
    | 1, _ => exact pss_good 0 1 _ (by omega) (by omega) (by omega)
    | 2, _ => exact pss_good 1 2 _ (by omega) (by omega) (by omega)
    | 3, _ => exact sm_good 2 _ (by omega) (by omega)
theorem bods_prog (n : Int) (hn : 1 ≤ n ∧ n ≤ 50) (caps : List Int) (h : 1 ≤ caps.length ∧ caps.length ≤ 3) : ProgGood caps (bods n caps.length) ↔ CapsGood caps := by
  have hl := bods_len n caps.length h
  exact ⟨fun x => x.2.1, fun x => ⟨h.2, x, bods_good n hn caps.length h, by omega, by omega⟩⟩
theorem w1 : wrap64 1 = 1 := by unfold wrap64; omega
theorem w2 : wrap64 2 = 2 := by unfold wrap64; omega
theorem w3 : wrap64 3 = 3 := by unfold wrap64; omega
theorem w0 : wrap64 0 = 0 := by unfold wrap64; omega
/-- What the reference's loop comes to. -/
theorem spec_loop (n : Int) (hn : 1 ≤ n ∧ n ≤ 50) (caps : List Int) (h : 1 ≤ caps.length ∧ caps.length ≤ 3) (b : Bool) (hb : Ev (fun k => spec_ProgOk.f k caps (bods n caps.length)) b) :
    Ev (fun k => spec_Pipe.l0 k caps (sm ((caps.length : Int) - 1)) 0 caps [mk n 0]) (if b = true then (caps, bods n caps.length, true) else ([], [], false)) := by
  have fin : ∀ acc, acc ++ [sm ((caps.length : Int) - 1)] = bods n caps.length → Ev (fun k => (some (acc ++ [sm ((caps.length : Int) - 1)] : List (List S37))).bind fun y => ((spec_ProgOk.f k caps y).bind fun t => (if t = true then (some (caps, y, true)) else (some (([] : List Int), ([] : List (List S37)), false))))) (if b = true then (caps, bods n caps.length, true) else ([], [], false)) := by
    intro acc e
    rw [e]
    refine ev_bind0 rfl (Ev.bind hb ?_)
    cases b with
    | true => exact ev_pos rfl (ev_some rfl)
    | false => exact ev_neg (by decide) (ev_some rfl)
  obtain e | e | e : caps.length = 1 ∨ caps.length = 2 ∨ caps.length = 3 := by omega
  · refine Ev.step (fun k => by rw [spec_Pipe.l0]) ?_
    refine ev_neg (by simp only [Int.zero_add, w1]; omega) (ev_pos (by simp) (fin _ ?_))
    rw [e]; rfl
  · refine Ev.step (fun k => by rw [spec_Pipe.l0]) ?_
    simp only [Int.zero_add, w1, pass_eq]
    refine ev_pos (by omega) (ev_bind0 rfl (ev_pos (by simp) (Ev.step (fun k => by rw [spec_Pipe.l0]) ?_)))
    refine ev_neg (by simp only [Int.reduceAdd, w2]; omega) (ev_pos (by simp) (fin _ ?_))
    rw [e]; rfl
  · refine Ev.step (fun k => by rw [spec_Pipe.l0]) ?_
    simp only [Int.zero_add, w1, pass_eq]
    refine ev_pos (by omega) (ev_bind0 rfl (ev_pos (by simp) (Ev.step (fun k => by rw [spec_Pipe.l0]) ?_)))
    simp only [Int.reduceAdd, w2, pass_eq]
    refine ev_pos (by omega) (ev_bind0 rfl (ev_pos (by simp) (Ev.step (fun k => by rw [spec_Pipe.l0]) ?_)))
    refine ev_neg (by simp only [Int.reduceAdd, w3]; omega) (ev_pos (by simp) (fin _ ?_))
    rw [e]; rfl
theorem impl_loop (n : Int) (caps : List Int) (h : 1 ≤ caps.length ∧ caps.length ≤ 3) :
    Ev (fun k => impl_Pipe.l0 k caps 1 caps [mk n 0]) (caps, bods n caps.length, true) := by
  have last : ∀ f : Int, 0 ≤ f ∧ f ≤ 2 → impl_SumBody.f f = some (sm f, true) := fun f hf => by rw [sum_same, sum_eq, if_pos hf]
  obtain e | e | e : caps.length = 1 ∨ caps.length = 2 ∨ caps.length = 3 := by omega
  · refine Ev.step (fun k => by rw [impl_Pipe.l0]) ?_
    refine ev_neg (by omega) ?_
    rw [e, show wrap64 (((1 : Nat) : Int) - 1) = 0 from w0]
    exact ev_bind0 (last 0 (by omega)) (ev_pos (by simp) (ev_some rfl))
  · refine Ev.step (fun k => by rw [impl_Pipe.l0]) ?_
    simp only [Int.reduceSub, Int.reduceAdd, w0, w2, pass_same, pass_eq]
    refine ev_pos (by omega) (ev_bind0 rfl (ev_pos (by simp) (Ev.step (fun k => by rw [impl_Pipe.l0]) ?_)))
    refine ev_neg (by omega) ?_
    rw [e, show wrap64 (((2 : Nat) : Int) - 1) = 1 from w1]
    exact ev_bind0 (last 1 (by omega)) (ev_pos (by simp) (ev_some rfl))
  · refine Ev.step (fun k => by rw [impl_Pipe.l0]) ?_
    simp only [Int.reduceSub, Int.reduceAdd, w0, w2, pass_same, pass_eq]
    refine ev_pos (by omega) (ev_bind0 rfl (ev_pos (by simp) (Ev.step (fun k => by rw [impl_Pipe.l0]) ?_)))
    simp only [Int.reduceSub, Int.reduceAdd, w1, w3, pass_same, pass_eq]
    refine ev_pos (by omega) (ev_bind0 rfl (ev_pos (by simp) (Ev.step (fun k => by rw [impl_Pipe.l0]) ?_)))
    refine ev_neg (by omega) ?_
    rw [e, show wrap64 (((3 : Nat) : Int) - 1) = 2 from w2]
    exact ev_bind0 (last 2 (by omega)) (ev_pos (by simp) (ev_some rfl))
theorem pipe_both (n : Int) (caps : List Int) (hl : caps.length ≤ 1048576) : ∃ (p1 : List Int) (p2 : List (List S37)) (b : Bool), Ev (fun k => spec_Pipe.f k n caps) (p1, p2, b) ∧ Ev (fun k => impl_Pipe.f k n caps) (p1, p2, b) ∧ p1.length ≤ 1048576 ∧ p2.length ≤ 1048576 ∧ (∀ y ∈ p2, y.length ≤ 1048576) ∧ (b = true → ProgGood p1 p2 ∧ p2.length = caps.length + 1) := by
  have hw : wrap64 ((caps.length : Int) - 1) = (caps.length : Int) - 1 := w64 (by omega) (by omega)
  have sno : ∀ x y z, Ev (fun k => spec_Pipe.j0 k caps x y true z) (([] : List Int), ([] : List (List S37)), false) := fun x y z => Ev.step (f := fun _ => some ([], [], false)) (fun k => by simp [spec_Pipe.j0]) (ev_some rfl)
  have ino : ∀ x, Ev (fun k => impl_Pipe.j0 k caps x true) (([] : List Int), ([] : List (List S37)), false) := fun x => Ev.step (f := fun _ => some ([], [], false)) (fun k => by simp [impl_Pipe.j0]) (ev_some rfl)
  unfold spec_Pipe.f impl_Pipe.f
  simp only [hw, make_same, make_eq, sum_eq, within_eq]
  have pre : ∀ {f : Nat → List Int → Option (List Int × List (List S37) × Bool)} {r}, Ev (fun k => f k caps) r → Ev (fun k => (some ([] : List Int)).bind fun y154 => (if y154.length + caps.length < 17592186044416 then ((some (y154 ++ caps : List Int)).bind fun y157 => f k y157) else none)) r := by
    intro f r h
    exact ev_bind0 rfl (ev_pos (by simp; omega) (ev_bind0 rfl h))
  by_cases hn : 1 ≤ n ∧ n ≤ 50
  case neg =>
    refine ⟨[], [], false, pre (ev_bind0 rfl (ev_bind0 rfl ?_)), ev_bind0 rfl ?_, by simp, by simp, by simp, fun h => by cases h⟩
    · rw [if_neg (fun x => hn x.1)]
      exact ev_neg (by decide) (sno _ _ _)
    · rw [if_neg (fun x => hn x.1)]
      exact ev_neg (by decide) (ino _)
  have hm : (1 ≤ n ∧ n ≤ 50) ∧ ((0 : Int) ≤ 0 ∧ (0 : Int) ≤ 2) := ⟨hn, by omega⟩
  by_cases hc : 1 ≤ caps.length ∧ caps.length ≤ 3
  case neg =>
    refine ⟨[], [], false, pre (ev_bind0 rfl (ev_bind0 rfl ?_)), ev_bind0 rfl ?_, by simp, by simp, by simp, fun h => by cases h⟩
    · rw [if_pos hm, if_neg (show ¬ (0 ≤ (caps.length : Int) - 1 ∧ (caps.length : Int) - 1 ≤ 2) by omega)]
      exact ev_pos rfl (sno _ _ _)
    · rw [if_pos hm]
      refine ev_pos rfl (ev_bind0 rfl ?_)
      rw [decide_eq_false (show ¬ (1 ≤ (caps.length : Int) ∧ (caps.length : Int) ≤ 3) by omega)]
      exact ev_neg (by decide) (ino _)
  obtain ⟨g, hg1, hg2⟩ := caps_ok caps hl
  have hbl := bods_len n caps.length hc
  obtain ⟨q, hq1, hq3⟩ := spec_prog caps (bods n caps.length) hl (by omega) (bods_small n caps.length hc)
  have hqg : q = g := by
    rw [Bool.eq_iff_iff, hq3, hg2]
    exact bods_prog n hn caps hc
  subst hqg
  have hs := spec_loop n hn caps hc q hq1
  have spec_ : Ev (fun k => spec_Pipe.j0 k caps (mk n 0) (sm ((caps.length : Int) - 1)) false caps) (if q = true then (caps, bods n caps.length, true) else ([], [], false)) := by
    refine Ev.step (fun k => by rw [spec_Pipe.j0]) ?_
    exact ev_neg (by decide) (ev_pos (by simp) hs)
  have isum : (0 ≤ (caps.length : Int) - 1 ∧ (caps.length : Int) - 1 ≤ 2) := by omega
  have iw : (1 ≤ (caps.length : Int) ∧ (caps.length : Int) ≤ 3) := by omega
  cases q with
  | false =>
    refine ⟨[], [], false, pre (ev_bind0 rfl (ev_bind0 rfl ?_)), ev_bind0 rfl ?_, by simp, by simp, by simp, fun h => by cases h⟩
    · rw [if_pos hm, if_pos isum]
      exact ev_pos rfl spec_
    · rw [if_pos hm]
      refine ev_pos rfl (ev_bind0 rfl ?_)
      rw [decide_eq_true iw]
      exact ev_pos rfl (Ev.bind hg1 (ino _))
  | true =>
    refine ⟨caps, bods n caps.length, true, pre (ev_bind0 rfl (ev_bind0 rfl ?_)), ev_bind0 rfl ?_, hl, by omega, bods_small n caps.length hc, fun _ => ⟨hq3.1 rfl, hbl⟩⟩
    · rw [if_pos hm, if_pos isum]
      exact ev_pos rfl spec_
    · rw [if_pos hm]
      refine ev_pos rfl (ev_bind0 rfl ?_)
      rw [decide_eq_true iw]
      refine ev_pos rfl (Ev.bind hg1 (Ev.step (fun k => by rw [impl_Pipe.j0]) (ev_neg (by decide) ?_)))
      have hcopy : impl_copyInts.f caps = some caps := by
        unfold impl_copyInts.f
        simp only [Option.bind_some, List.nil_append]
        rw [if_pos (by simp; omega)]
      exact ev_bind0 hcopy (impl_loop n caps hc)
theorem FnExactPipe : SayFnExactPipe.Pure := by
  intro n caps _ hm
  refine Ev.rounds ?_
  unfold laws_FnExactPipe.f
  refine ev_ite (fun _ => ev_some rfl) (fun hc => ?_)
  have hl : caps.length ≤ 1048576 := by omega
  obtain ⟨p1, p2, b, h1, h2, l1, l2, l3, _⟩ := pipe_both n caps hl
  obtain ⟨ys, hy, hyl, hyi⟩ := MarksIntFnExactPipe.markInts_ev 1 (by omega) (by omega) caps (by omega)
  obtain ⟨m, q1, q2, hm0, hm1, hm2⟩ := marksProg_ev p1 p2 l1 l2 l3
  exact Ev.bind (toIntS_ev caps hl) (Ev.bind h1 (Ev.bind h2 (Ev.bind (eqProg_ev p1 p2 l1 ⟨l2, l3⟩) (Ev.bind (eqIntS_ev caps hl) (Ev.bind hy (Ev.bind hm1 (Ev.bind hm2 (ev_pos ⟨rfl, rfl, rfl, (by show (0 : Int) ≤ 1 + (caps.length : Int); omega), rfl, hm0⟩ (ev_some rfl)))))))))
end Go.Proofs.Ytonlhgkpmjefkaa.Pure
