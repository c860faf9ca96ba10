/- The program's TrimProg is the reference's, at all programs; what is written into a program turns no other. -/
import Derived.Test.YtocimkpafakiaaaSayFnExactTrimProg
import Derived.Test.YtocimkpafakiaaaHlpFnExactTrimProg
import Derived.Test.YtocimkpafakiaaaMarksInsSSFnExactTrimProg
import Derived.Test.YtocimkpafakiaaaCoreProgFnExactTrimProg
import Derived.Test.YtocimkpafakiaaaCoreTrimFnExactTrimProg
namespace Go.Proofs.Ytocimkpafakiaaa.Pure
open Go.RowKit Go.Proofs.Ytocimkpafakiaaa.XFnExactTrimProg Go.Proofs.Ytocimkpafakiaaa.Lib Go.Proofs.Ytocimkpafakiaaa.HlpFnExactTrimProg Go.Proofs.Ytocimkpafakiaaa.MarksInsSSFnExactTrimProg Go.Proofs.Ytocimkpafakiaaa.CoreInsFnExactTrimProg Go.Proofs.Ytocimkpafakiaaa.CoreBodyFnExactTrimProg Go.Proofs.Ytocimkpafakiaaa.CoreProgFnExactTrimProg Go.Proofs.Ytocimkpafakiaaa.CoreTrimFnExactTrimProg Go.Proofs.Ytocimkpafakiaaa.Opens Go.Proofs.YtocimkpafakiaaaW.PrintWords Go.Proofs.YtocimkpafakiaaaW.PrintLast Go.Proofs.YtocimkpafakiaaaW.PrintMore
open Go.Proofs.Ytocimkpafakiaaa
set_option linter.unusedVariables false
set_option linter.unusedSimpArgs false

theorem take_snoc (b : List (List S63)) (i : Nat) (h : i < b.length) : b.take i ++ [b.getD i []] = b.take (i + 1) := by
  rw [List.getD_eq_getElem?_getD, List.getElem?_eq_getElem h, List.take_add_one, List.getElem?_eq_getElem h]
  rfl
theorem copy_spec_l (c : List Int) (b : List (List S63)) (hb : b.length ≤ 1048576) (he : ∀ y ∈ b, y.length ≤ 1048576) : ∀ (n i : Nat), i + n = b.length → Ev (fun k => spec_l17Prog.l0 k (i : Int) c b c (b.take i)) (c, b) := by
  intro n
  induction n with
  | zero =>
    intro i hi
    refine Ev.step (f := fun _ => some (c, b)) (fun k => ?_) (ev_some rfl)
    rw [spec_l17Prog.l0, if_neg (by omega), List.take_of_length_le (by omega)]
  | succ n ih =>
    intro i hi
    have h1 := he _ (L_mem b [] i (by omega))
    refine Ev.step (fun k => by rw [spec_l17Prog.l0]) ?_
    rw [rdBody_nat]
    refine ev_pos (by omega) (ev_bind0 rfl (ev_pos (by omega) (ev_pos (by rw [List.length_nil]; omega) (ev_pos (by rw [List.length_take]; omega) ?_))))
    rw [w64_nat (by omega), List.nil_append, take_snoc b i (by omega)]
    exact ih (i + 1) (by omega)
theorem copy_spec (c : List Int) (b : List (List S63)) (hc : c.length ≤ 1048576) (hb : b.length ≤ 1048576) (he : ∀ y ∈ b, y.length ≤ 1048576) : Ev (fun k => spec_l17Prog.f k c b) (c, b) := by
  unfold spec_l17Prog.f
  exact ev_bind0 rfl (ev_pos (by rw [List.length_nil]; omega) (copy_spec_l c b hb he b.length 0 (by omega)))
theorem body_copy (l : List S63) (h : l.length ≤ 1048576) : impl_copyBody.f l = some l := by
  unfold impl_copyBody.f
  simp only [Option.bind_some, List.nil_append]
  rw [if_pos (by simp; omega)]
theorem copy_impl_l (c : List Int) (b : List (List S63)) (hb : b.length ≤ 1048576) (he : ∀ y ∈ b, y.length ≤ 1048576) : ∀ (n i : Nat), i + n = b.length → Ev (fun k => impl_copyProg.l0 k b (b.length : Int) (i : Int) c (b.take i)) (c, b) := by
  intro n
  induction n with
  | zero =>
    intro i hi
    refine Ev.step (f := fun _ => some (c, b)) (fun k => ?_) (ev_some rfl)
    rw [impl_copyProg.l0, if_neg (by omega), List.take_of_length_le (by omega)]
  | succ n ih =>
    intro i hi
    have h1 := he _ (L_mem b [] i (by omega))
    refine Ev.step (fun k => by rw [impl_copyProg.l0]) ?_
    rw [rdBody_nat]
    refine ev_pos (by omega) (ev_pos (by omega) (ev_pos (by omega) (ev_bind0 (body_copy _ h1) (ev_pos (by rw [List.length_take]; omega) ?_))))
    rw [w64_nat (by omega), take_snoc b i (by omega)]
    exact ih (i + 1) (by omega)
theorem copy_impl (c : List Int) (b : List (List S63)) (hc : c.length ≤ 1048576) (hb : b.length ≤ 1048576) (he : ∀ y ∈ b, y.length ≤ 1048576) : Ev (fun k => impl_copyProg.f k c b) (c, b) := by
  unfold impl_copyProg.f
  have hcopy : impl_copyInts.f c = some c := by
    unfold impl_copyInts.f
    simp only [Option.bind_some, List.nil_append]
    rw [if_pos (by simp; omega)]
  exact ev_bind0 hcopy (copy_impl_l c b hb he b.length 0 (by omega))
theorem each_l (c : List Int) (b : List (List S63)) (hb : b.length ≤ 1048576) (he : ∀ y ∈ b, y.length ≤ 1048576) (hok : Ev (fun k => spec_ProgOk.f k c b) true) : ∀ (n i : Nat) (x : List (List S63)), i + n = b.length → x.length = b.length → (∀ y ∈ x, y.length ≤ 1048576) →
    ∃ r : List (List S63), r.length = b.length ∧ (∀ y ∈ r, y.length ≤ 1048576) ∧ Ev (fun k => spec_TrimProg.l0 k (i : Int) c b c x) (c, r) ∧ Ev (fun k => each_.l0 k b (i : Int) x) r := by
  intro n
  induction n with
  | zero =>
    intro i x hi hl hx
    refine ⟨x, hl, hx, Ev.step (f := fun _ => some (c, x)) (fun k => ?_) (ev_some rfl), Ev.step (f := fun _ => some x) (fun k => ?_) (ev_some rfl)⟩
    · rw [spec_TrimProg.l0, if_neg (by omega)]
    · rw [each_.l0, if_neg (by omega)]
  | succ n ih =>
    intro i x hi hl hx
    have h1 := he _ (L_mem b [] i (by omega))
    obtain ⟨q, hq, g1, g2⟩ := trim_both2 (b.getD i []) h1
    obtain ⟨r, r1, r2, r3, r4⟩ := ih (i + 1) (x.set i q) (by omega) (by rw [List.length_set]; exact hl) (fun y hy => by
      rcases List.mem_or_eq_of_mem_set hy with h | h
      · exact hx y h
      · rw [h]
        exact hq)
    refine ⟨r, r1, r2, ?_, ?_⟩
    · refine Ev.step (fun k => by rw [spec_TrimProg.l0]) ?_
      rw [rdBody_nat]
      refine ev_pos (by omega) (Ev.bind hok (ev_pos rfl (ev_pos (by omega) (Ev.bind g1 (ev_pos (by omega) ?_)))))
      rw [w64_nat (by omega), Int.toNat_natCast]
      exact r3
    · refine Ev.step (fun k => by rw [each_.l0]) ?_
      rw [rdBody_nat]
      refine ev_pos (by omega) (ev_pos (by omega) (Ev.bind g2 (ev_pos (by omega) ?_)))
      rw [w64_nat (by omega), Int.toNat_natCast]
      exact r4
theorem prog_all (c : List Int) (b : List (List S63)) (hc : c.length ≤ 1048576) (hb : b.length ≤ 1048576) (he : ∀ y ∈ b, y.length ≤ 1048576) : ∃ r : List (List S63), r.length ≤ 1048576 ∧ (∀ y ∈ r, y.length ≤ 1048576) ∧ Ev (fun k => spec_TrimProg.f k c b) (c, r) ∧ Ev (fun k => impl_TrimProg.f k c b) (c, r) := by
  obtain ⟨q, h1, h2, h3⟩ := prog_both c b hc hb he
  have s := copy_spec c b hc hb he
  have m := copy_impl c b hc hb he
  unfold spec_TrimProg.f impl_TrimProg.f
  cases q with
  | true =>
    obtain ⟨r, r1, r2, r3, r4⟩ := each_l c b hb he h1 b.length 0 b (by omega) rfl he
    exact ⟨r, by omega, r2, Ev.bind s r3, Ev.bind m (Ev.bind h2 (Ev.bind (ev_pos rfl r4) (ev_some rfl)))⟩
  | false =>
    refine ⟨b, hb, he, Ev.bind s (Ev.step (fun k => by rw [spec_TrimProg.l0]) ?_), Ev.bind m (Ev.bind h2 (Ev.bind (ev_neg (by decide) (ev_some rfl)) (ev_some rfl)))⟩
    exact ev_ite (fun _ => Ev.bind h1 (ev_neg (by decide) (ev_some rfl))) (fun _ => ev_some rfl)
theorem FnExactTrimProg : SayFnExactTrimProg.Pure := by
  rintro ⟨c, x⟩ ⟨m1, m2⟩
  refine Ev.rounds ?_
  obtain ⟨s, hs, _, hs2⟩ := szProg_ev c x m1.1 ⟨m2.1, fun z hz => (m2.2 z hz).1⟩ 1048576 (by omega) (by omega)
  unfold laws_FnExactTrimProg.f
  refine Ev.bind hs (ev_ite (fun _ => ev_some rfl) (fun cc => ?_))
  obtain ⟨b1, b2⟩ := hs2 (by omega)
  have b4 := small_conv_InsSS b2
  obtain ⟨r, r1, r2, g1, g2⟩ := prog_all c (conv_InsSS x) b1 b4.1 b4.2
  have ht := toProg_ev c x b1 b2
  obtain ⟨kk, x1, x2, hk0, hk1, _⟩ := marksProg_ev c (conv_InsSS x) b1 b4.1 b4.2
  obtain ⟨m, q1, q2, hm0, hm1, hm2⟩ := marksProg_ev c r b1 r1 r2
  exact Ev.bind ht (Ev.bind g1 (Ev.bind g2 (Ev.bind (eqProg_ev c r b1 ⟨r1, r2⟩) (Ev.bind (eqProg_ev c _ b1 b4) (Ev.bind hk1 (Ev.bind hm1 (Ev.bind hm2 (ev_pos ⟨rfl, rfl, hk0, rfl, hm0⟩ (ev_some rfl)))))))))
end Go.Proofs.Ytocimkpafakiaaa.Pure
