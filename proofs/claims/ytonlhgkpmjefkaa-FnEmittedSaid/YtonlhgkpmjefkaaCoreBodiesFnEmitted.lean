/- The draws of places, bodies and programs: at every state of the cursor each answers, and what it tells has the lengths that it should; for all bytes of up to a million. -/
import Derived.Test.YtonlhgkpmjefkaaXFnEmittedx20
import Derived.Test.YtonlhgkpmjefkaaCoreDrawFnEmitted
namespace Go.Proofs.Ytonlhgkpmjefkaa.CoreBodiesFnEmitted
open Go.RowKit Go.Proofs.Ytonlhgkpmjefkaa.XFnEmitted Go.Proofs.Ytonlhgkpmjefkaa.Lib Go.Proofs.Ytonlhgkpmjefkaa.CoreDrawFnEmitted Go.Proofs.YtonlhgkpmjefkaaW.PrintWords Go.Proofs.YtonlhgkpmjefkaaW.PrintLast Go.Proofs.YtonlhgkpmjefkaaW.PrintMore
set_option linter.unusedVariables false
set_option linter.unusedSimpArgs false

/-- From some number of rounds on it answers, and the answer is as told. -/
def Ok {α : Type} (Q : α → Prop) (g : Nat → Option α) : Prop := ∃ r, Ev g r ∧ Q r
theorem Ok.some {α : Type} {Q : α → Prop} {r : α} (h : Q r) : Ok Q (fun _ => some r) := ⟨r, Ev.now r, h⟩
theorem Ok.step {α : Type} {Q : α → Prop} {g f : Nat → Option α} (h : ∀ k, g (k + 1) = f k) (k : Ok Q f) : Ok Q g := by
  obtain ⟨r, h1, h2⟩ := k
  exact ⟨r, Ev.step h h1, h2⟩
theorem Ok.ite {α : Type} {Q : α → Prop} {c : Prop} [Decidable c] {f g : Nat → Option α} (hp : c → Ok Q f) (hn : ¬ c → Ok Q g) : Ok Q (fun k => if c then f k else g k) := by
  by_cases hc : c
  · obtain ⟨r, h1, h2⟩ := hp hc
    exact ⟨r, ev_pos hc h1, h2⟩
  · obtain ⟨r, h1, h2⟩ := hn hc
    exact ⟨r, ev_neg hc h1, h2⟩
theorem Ok.bind0 {α β : Type} {Q : β → Prop} {a : Option α} {x : α} {f : Nat → α → Option β} (h : a = Option.some x) (k : Ok Q (fun n => f n x)) : Ok Q (fun n => a.bind (f n)) := by
  obtain ⟨r, h1, h2⟩ := k
  exact ⟨r, ev_bind0 h h1, h2⟩
theorem Ok.bind {α β : Type} {P : α → Prop} {Q : β → Prop} {g : Nat → Option α} {f : Nat → α → Option β} (h : Ok P g) (k : ∀ x, P x → Ok Q (fun n => f n x)) : Ok Q (fun n => (g n).bind (f n)) := by
  obtain ⟨x, h1, h2⟩ := h
  obtain ⟨r, h3, h4⟩ := k x h2
  exact ⟨r, Ev.bind h1 h3, h4⟩
theorem Ok.mono {α : Type} {P Q : α → Prop} {g : Nat → Option α} (h : Ok P g) (k : ∀ x, P x → Q x) : Ok Q g := by
  obtain ⟨x, h1, h2⟩ := h
  exact ⟨x, h1, k x h2⟩
/-- A draw below n: what follows has a cursor that is right. -/
theorem Ok.below {β : Type} {Q : β → Prop} {b : List Int} {i h n : Int} {f : Nat → Int × Int × Int → Option β} (hd : DS b i) (k : ∀ x i' h', 0 ≤ x → (0 < n → x < n) → (n ≤ 0 → x = 0) → DS b i' → Ok Q (fun k => f k (x, i', h'))) : Ok Q (fun k => (spec_l1Below.f b i h n).bind (f k)) := by
  obtain ⟨x, i', h', e, a1, a2, a3, d⟩ := below_ok b i h n hd
  exact Ok.bind0 e (k x i' h' a1 a2 a3 d)
theorem Ok.pick {β : Type} {Q : β → Prop} {b : List Int} {i h : Int} {l : List Int} {f : Nat → Int × Int × Int → Option β} (hl : 0 < l.length) (hd : DS b i) (k : ∀ x i' h', x ∈ l → DS b i' → Ok Q (fun k => f k (x, i', h'))) : Ok Q (fun k => (spec_l1PickInt.f b i h l).bind (f k)) := by
  obtain ⟨x, i', h', e, d, m⟩ := pick_ok b i h l hl hd
  exact Ok.bind0 e (k x i' h' m d)

abbrev I7 : Type := Int × Int × Int × Int × Int × Int × Int
def Q7 (b : List Int) (r : I7) : Prop := DS b r.2.2.2.2.2.1
theorem spoil_ok (b : List Int) (i h o r a c n : Int) (hd : DS b i) : Ok (Q7 b) (fun _ => spec_l1Spoil.f b i h o r a c n) := by
  unfold spec_l1Spoil.f
  refine Ok.below hd (fun x i' h' _ _ _ d => ?_)
  refine Ok.ite (fun _ => Ok.below d (fun x2 i2 h2 _ _ _ d2 => Ok.some d2)) (fun _ => ?_)
  refine Ok.ite (fun _ => Ok.below d (fun x2 i2 h2 _ _ _ d2 => Ok.some d2)) (fun _ => ?_)
  refine Ok.ite (fun _ => Ok.below d (fun x2 i2 h2 _ _ _ d2 => Ok.some d2)) (fun _ => ?_)
  refine Ok.ite (fun _ => Ok.below d (fun x2 i2 h2 _ _ _ d2 => Ok.some d2)) (fun _ => ?_)
  exact Ok.ite (fun _ => Ok.pick (by decide) d (fun x2 i2 h2 _ d2 => Ok.some d2)) (fun _ => Ok.some d)
theorem j3_ok (b : List Int) (i h x1 x7 x8 x10 x22 : Int) (x48 : Bool) (hd : DS b i) : Ok (Q7 b) (fun k => spec_l1DrawIns.j3 k x1 x7 x8 x10 x22 x48 b i h) := by
  refine Ok.step (fun k => by rw [spec_l1DrawIns.j3]) ?_
  refine Ok.ite (fun _ => Ok.some hd) (fun _ => Ok.ite (fun _ => Ok.some hd) (fun _ => Ok.ite (fun _ => Ok.some hd) (fun _ => Ok.ite (fun _ => ?_) (fun _ => Ok.ite (fun _ => ?_) (fun _ => Ok.some hd)))))
  · unfold spec_l1Once.f
    obtain ⟨x, i', h', e, _, _, _, d⟩ := below_ok b i h 3 hd
    rw [e]
    simp only [Option.bind_some]
    exact Ok.ite (fun _ => Ok.some d) (fun _ => Ok.below d (fun x2 i2 h2 _ _ _ d2 => Ok.some d2))
  · exact Ok.below hd (fun x2 i2 h2 _ _ _ d2 => Ok.some d2)
theorem j2_ok (b : List Int) (i h x1 x7 x8 x10 x22 : Int) (x41 : Bool) (hd : DS b i) : Ok (Q7 b) (fun k => spec_l1DrawIns.j2 k x1 x7 x8 x10 x22 x41 b i h) := by
  refine Ok.step (fun k => by rw [spec_l1DrawIns.j2]) ?_
  exact Ok.ite (fun _ => Ok.some hd) (fun _ => Ok.ite (fun _ => j3_ok _ _ _ _ _ _ _ _ _ hd) (fun _ => Ok.ite (fun _ => j3_ok _ _ _ _ _ _ _ _ _ hd) (fun _ => j3_ok _ _ _ _ _ _ _ _ _ hd)))
theorem j1_ok (b : List Int) (i h x1 x7 x8 x9 x10 x22 : Int) (x31 : Bool) (hd : DS b i) : Ok (Q7 b) (fun k => spec_l1DrawIns.j1 k x1 x7 x8 x9 x10 x22 x31 b i h) := by
  refine Ok.step (fun k => by rw [spec_l1DrawIns.j1]) ?_
  exact Ok.ite (fun _ => Ok.below hd (fun x2 i2 h2 _ _ _ d2 => Ok.some d2)) (fun _ => Ok.ite (fun _ => j2_ok _ _ _ _ _ _ _ _ _ hd) (fun _ => Ok.ite (fun _ => j2_ok _ _ _ _ _ _ _ _ _ hd) (fun _ => j2_ok _ _ _ _ _ _ _ _ _ hd)))
theorem j0_ok (b : List Int) (i h x1 x7 x8 x9 x10 x22 : Int) (x23 : Bool) (hd : DS b i) : Ok (Q7 b) (fun k => spec_l1DrawIns.j0 k x1 x7 x8 x9 x10 x22 x23 b i h) := by
  refine Ok.step (fun k => by rw [spec_l1DrawIns.j0]) ?_
  exact Ok.ite (fun _ => Ok.below hd (fun x2 i2 h2 _ _ _ d2 => Ok.some d2)) (fun _ => Ok.ite (fun _ => j1_ok _ _ _ _ _ _ _ _ _ _ hd) (fun _ => j1_ok _ _ _ _ _ _ _ _ _ _ hd))
theorem ins_ok (b : List Int) (i h p c : Int) (hd : DS b i) : Ok (Q7 b) (fun k => spec_l1DrawIns.f k b i h p c) := by
  unfold spec_l1DrawIns.f
  refine Ok.below hd (fun x1 i1 h1 _ _ _ d1 => Ok.below d1 (fun x2 i2 h2 _ _ _ d2 => Ok.below d2 (fun x3 i3 h3 _ _ _ d3 => ?_)))
  obtain ⟨m, hm⟩ : ∃ m, spec_l1Max.f c 1 = some m := by
    unfold spec_l1Max.f
    split
    · exact ⟨_, rfl⟩
    · exact ⟨_, rfl⟩
  refine Ok.bind0 hm (Ok.below d3 (fun x4 i4 h4 _ _ _ d4 => Ok.below d4 (fun x5 i5 h5 _ _ _ d5 => ?_)))
  exact Ok.ite (fun _ => j0_ok _ _ _ _ _ _ _ _ _ _ d5) (fun _ => j0_ok _ _ _ _ _ _ _ _ _ _ d5)
/-- A drawn body and the cursor behind it. -/
def QB (b : List Int) (r : List S46 × Int × Int) : Prop := 3 ≤ r.1.length ∧ r.1.length ≤ 11 ∧ DS b r.2.1
end Go.Proofs.Ytonlhgkpmjefkaa.CoreBodiesFnEmitted
