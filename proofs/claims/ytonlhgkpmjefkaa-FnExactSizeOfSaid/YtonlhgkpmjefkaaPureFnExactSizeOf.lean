/- The program's SizeOf is the reference's, at all programs. -/
import Derived.Test.YtonlhgkpmjefkaaSayFnExactSizeOf
import Derived.Test.YtonlhgkpmjefkaaHlpFnExactSizeOf
namespace Go.Proofs.Ytonlhgkpmjefkaa.Pure
open Go.RowKit Go.Proofs.Ytonlhgkpmjefkaa.XFnExactSizeOf Go.Proofs.Ytonlhgkpmjefkaa.Lib Go.Proofs.Ytonlhgkpmjefkaa.HlpFnExactSizeOf Go.Proofs.Ytonlhgkpmjefkaa.Opens Go.Proofs.YtonlhgkpmjefkaaW.PrintWords Go.Proofs.YtonlhgkpmjefkaaW.PrintLast Go.Proofs.YtonlhgkpmjefkaaW.PrintMore
open Go.Proofs.Ytonlhgkpmjefkaa
set_option linter.unusedVariables false
set_option linter.unusedSimpArgs false

theorem inner (c : List Int) (x : List (List S37)) (hx : x.length ≤ 1048576) (i : Nat) (hi : i < x.length) (hl : (x.getD i []).length ≤ 1048576)
    (next : ∀ n : Int, 0 ≤ n → n ≤ 1048576 * ((i : Int) + 1) → ∃ r, Ev (fun k => spec_SizeOf.l0 k n ((i + 1 : Nat) : Int) c x) r ∧ Ev (fun k => impl_SizeOf.l0 k n x (x.length : Int) ((i + 1 : Nat) : Int)) r) :
    ∀ (m j : Nat) (n : Int), j + m = (x.getD i []).length → 0 ≤ n → n ≤ 1048576 * (i : Int) + j → ∃ r, Ev (fun k => spec_SizeOf.l1 k n i j c x) r ∧ Ev (fun k => impl_SizeOf.l1 k n x (x.length : Int) i (x.getD i []) ((x.getD i []).length : Int) j) r := by
  intro m
  induction m with
  | zero =>
    intro j n hj h0 h1
    obtain ⟨r, h2, h3⟩ := next n h0 (by omega)
    refine ⟨r, Ev.step (fun k => ?_) h2, Ev.step (fun k => ?_) h3⟩
    · rw [spec_SizeOf.l1, if_pos (by omega), if_pos (by omega), rd_L4_nat, if_neg (by omega), w64_nat (by omega)]
    · rw [impl_SizeOf.l1, if_neg (by omega), w64_nat (by omega)]
  | succ m ih =>
    intro j n hj h0 h1
    by_cases c1 : ((x.getD i []).getD j z37).f0 = 11
    · obtain ⟨r, h2, h3⟩ := ih (j + 1) n (by omega) h0 (by omega)
      refine ⟨r, Ev.step (fun k => ?_) h2, Ev.step (fun k => ?_) h3⟩
      · rw [spec_SizeOf.l1, if_pos (by omega), if_pos (by omega), rd_L4_nat, if_pos (by omega), if_pos (by omega), rd_T37_nat, c1, w64_nat (by omega)]
        simp only [spec_l4Bit.f]
        rw [if_neg (by decide)]
        simp only [Option.bind_some]
        rw [w64 (by omega) (by omega), Int.add_zero]
      · rw [impl_SizeOf.l1, if_pos (by omega), if_pos (by omega), if_pos (by omega), rd_T37_nat, if_pos c1, w64_nat (by omega)]
    · obtain ⟨r, h2, h3⟩ := ih (j + 1) (n + 1) (by omega) (by omega) (by omega)
      refine ⟨r, Ev.step (fun k => ?_) h2, Ev.step (fun k => ?_) h3⟩
      · rw [spec_SizeOf.l1, if_pos (by omega), if_pos (by omega), rd_L4_nat, if_pos (by omega), if_pos (by omega), rd_T37_nat, w64_nat (by omega)]
        simp only [spec_l4Bit.f]
        rw [if_pos (by simpa using c1)]
        simp only [Option.bind_some]
        rw [w64 (by omega) (by omega)]
      · rw [impl_SizeOf.l1, if_pos (by omega), if_pos (by omega), if_pos (by omega), rd_T37_nat, if_neg c1, w64_nat (by omega), w64 (by omega) (by omega)]
theorem outer (c : List Int) (x : List (List S37)) (hx : x.length ≤ 1048576) (he : ∀ y ∈ x, y.length ≤ 1048576) : ∀ (m i : Nat) (n : Int), i + m = x.length → 0 ≤ n → n ≤ 1048576 * (i : Int) → ∃ r, Ev (fun k => spec_SizeOf.l0 k n i c x) r ∧ Ev (fun k => impl_SizeOf.l0 k n x (x.length : Int) i) r := by
  intro m
  induction m with
  | zero =>
    intro i n hi h0 h1
    refine ⟨n, Ev.step (f := fun _ => some n) (fun k => ?_) (ev_some rfl), Ev.step (f := fun _ => some n) (fun k => ?_) (ev_some rfl)⟩
    · rw [spec_SizeOf.l0, if_neg (by omega)]
    · rw [impl_SizeOf.l0, if_neg (by omega)]
  | succ m ih =>
    intro i n hi h0 h1
    have hm : x.getD i [] ∈ x := by
      rw [List.getD_eq_getElem?_getD, List.getElem?_eq_getElem (show i < x.length by omega)]
      exact List.getElem_mem _
    obtain ⟨r, h2, h3⟩ := inner c x hx i (by omega) (he _ hm) (fun n a b => ih (i + 1) n (by omega) a (by omega)) _ 0 n (Nat.zero_add _) h0 (by omega)
    refine ⟨r, Ev.step (fun k => ?_) h2, Ev.step (fun k => ?_) h3⟩
    · rw [spec_SizeOf.l0, if_pos (by omega)]
      rfl
    · rw [impl_SizeOf.l0, if_pos (by omega), if_pos (by omega), if_pos (by omega), rd_L4_nat]
      rfl
theorem FnExactSizeOf : SayFnExactSizeOf.Pure := by
  rintro ⟨c, x⟩ ⟨h1, h2⟩
  refine Ev.rounds ?_
  obtain ⟨s, hs, _, hs2⟩ := szProg_ev c x h1.1 ⟨h2.1, fun z hz => (h2.2 z hz).1⟩ 1048576 (by omega) (by omega)
  unfold laws_FnExactSizeOf.f
  refine Ev.bind hs (ev_ite (fun _ => ev_some rfl) (fun cc => ?_))
  obtain ⟨b1, b2⟩ := hs2 (by omega)
  have b4 := small_conv_InsSS b2
  obtain ⟨r, g1, g2⟩ := outer c (conv_InsSS x) b4.1 b4.2 _ 0 0 (Nat.zero_add _) (by omega) (by omega)
  have g3 : Ev (fun k => spec_SizeOf.f k c (conv_InsSS x)) r := g1
  have g4 : Ev (fun k => impl_SizeOf.f k c (conv_InsSS x)) r := g2
  exact Ev.bind (toProg_ev c x b1 b2) (Ev.bind g3 (Ev.bind (toProg_ev c x b1 b2) (Ev.bind g4 (ev_pos rfl (Ev.bind (toProg_ev c x b1 b2) (Ev.bind (eqProg_ev c _ b1 b4) (ev_pos rfl (ev_some rfl))))))))
end Go.Proofs.Ytonlhgkpmjefkaa.Pure
