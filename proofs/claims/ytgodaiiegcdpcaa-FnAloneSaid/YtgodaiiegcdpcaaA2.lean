/- What the code of a small language of cells, rows and pointers means, and that a run of the program's own code, as it is given, follows that meaning, step by step; each theorem bears its own conditions. -/
import Derived.Test.YtgodaiiegcdpcaaA1
import Derived.Deep.Slices
import Derived.OpenShut
section
set_option linter.unusedVariables false
set_option linter.unusedSimpArgs false
namespace Go.Proofs.Ytgodaiiegcdpcaa.Abs
set_option linter.unusedSimpArgs false

/-! ### types -/

class Enc (α : Type) where
  k : Nat
  d : α → List D
  len : ∀ a, (d a).length = k

/-- A row of values. -/
def rS {α : Type} [Enc α] (L : List α) : D := .row (Enc.k α) L.length (L.flatMap Enc.d)
def cl {α : Type} [Enc α] (fl : Bool) (L : List α) : List C := imL fl (L.flatMap Enc.d)
def co {α : Type} [Enc α] (L : List α) : List C := owL (L.flatMap Enc.d)

instance : Enc Int := ⟨1, fun n => [.int .i64 n], fun _ => rfl⟩
instance {α : Type} [Enc α] : Enc (List α) := ⟨1, fun l => [rS l], fun _ => rfl⟩

section
variable {α : Type} [Enc α]

theorem dlen (L : List α) : (L.flatMap Enc.d).length = L.length * Enc.k α := by
  induction L with
  | nil => simp
  | cons a L ih => rw [List.flatMap_cons, List.length_append, ih, Enc.len, List.length_cons, Nat.succ_mul]; omega

theorem cl_len (fl : Bool) (L : List α) : (cl fl L).length = L.length * Enc.k α := by rw [cl, imL_len, dlen]
theorem co_len (L : List α) : (co L).length = L.length * Enc.k α := by rw [co, owL_len, dlen]

theorem imL_flat (fl : Bool) (L : List α) : cl fl L = L.flatMap fun a => imL fl (Enc.d a) := by
  unfold cl
  induction L with
  | nil => rfl
  | cons a L ih => rw [List.flatMap_cons, imL_app, ih, List.flatMap_cons]
theorem owL_flat (L : List α) : co L = L.flatMap fun a => owL (Enc.d a) := by
  unfold co
  induction L with
  | nil => rfl
  | cons a L ih => rw [List.flatMap_cons, owL_app, ih, List.flatMap_cons]

theorem cl_cut (fl : Bool) (L : List α) {i k : Nat} {x : α} (hx : L[i]? = some x) (hk : Enc.k α = k) : cut (i * k) k (cl fl L) = some (imL fl (Enc.d x)) := by
  subst hk
  rw [imL_flat]
  exact flatMap_cut (fun a _ => by rw [imL_len, Enc.len]) hx
theorem co_cut (L : List α) {i k : Nat} {x : α} (hx : L[i]? = some x) (hk : Enc.k α = k) : cut (i * k) k (co L) = some (owL (Enc.d x)) := by
  subst hk
  rw [owL_flat]
  exact flatMap_cut (fun a _ => by rw [owL_len, Enc.len]) hx

theorem cl_get (fl : Bool) (L : List α) {i j k : Nat} {x : α} (hx : L[i]? = some x) (hk : Enc.k α = k) (hj : j < k) : (cl fl L)[i * k + j]? = (imL fl (Enc.d x))[j]? := by
  subst hk
  rw [imL_flat]
  exact flatMap_get (fun a _ => by rw [imL_len, Enc.len]) hx hj
theorem co_get (L : List α) {i j k : Nat} {x : α} (hx : L[i]? = some x) (hk : Enc.k α = k) (hj : j < k) : (co L)[i * k + j]? = (owL (Enc.d x))[j]? := by
  subst hk
  rw [owL_flat]
  exact flatMap_get (fun a _ => by rw [owL_len, Enc.len]) hx hj

theorem cut_get1 {xs : List C} {o : Nat} : cut o 1 xs = (xs[o]?).map fun c => [c] := by
  cases h : xs[o]? with
  | none =>
    have := List.getElem?_eq_none_iff.1 h
    unfold cut
    rw [if_neg (by omega)]
    rfl
  | some x => rw [cut_one h]; rfl

/-- What is loaded of a row that is lent. -/
theorem ld_cl (H : Heap) (fl : Bool) (L : List α) {i k : Nat} {x : α} (hx : L[i]? = some x) (hk : Enc.k α = k) : loadV H (.c (.iptr fl (cl fl L) (i * k))) k true = some (.agg (imL fl (Enc.d x))) := by
  simp only [loadV, cl_cut fl L hx hk, mkV, if_true]
theorem ld_clf (H : Heap) (fl : Bool) (L : List α) {i j k : Nat} {x : α} (hx : L[i]? = some x) (hk : Enc.k α = k) (hj : j < k) : loadV H (.c (.iptr fl (cl fl L) (i * k + j))) 1 false = ((imL fl (Enc.d x))[j]?).map .c := by
  simp only [loadV, cut_get1, cl_get fl L hx hk hj]
  cases (imL fl (Enc.d x))[j]? <;> rfl
theorem ld_clf0 (H : Heap) (fl : Bool) (L : List α) {i k : Nat} {x : α} (hx : L[i]? = some x) (hk : Enc.k α = k) (hj : 0 < k) : loadV H (.c (.iptr fl (cl fl L) (i * k))) 1 false = ((imL fl (Enc.d x))[0]?).map .c :=
  ld_clf H fl L (j := 0) hx hk hj
theorem ld_cl1 (H : Heap) (fl : Bool) (L : List α) {i : Nat} {x : α} (hx : L[i]? = some x) (hk : Enc.k α = 1) : loadV H (.c (.iptr fl (cl fl L) i)) 1 false = ((imL fl (Enc.d x))[0]?).map .c := by
  have := ld_clf0 H fl L hx hk (by omega)
  rwa [Nat.mul_one] at this

theorem fits_rS (L : List α) : (rS L).fit := dlen L

theorem set_flat {β : Type} {f : β → List C} {k : Nat} : ∀ {L : List β} {i j : Nat} {x x' : β} {c : C}, (∀ a, (f a).length = k) → L[i]? = some x → j < k → (f x).set j c = f x' → (L.flatMap f).set (i * k + j) c = (L.set i x').flatMap f
  | [], i, j, x, x', c, _, h, _, _ => by simp at h
  | a :: L, 0, j, x, x', c, hk, h, hj, hs => by
    simp only [List.getElem?_cons_zero, Option.some.injEq] at h
    subst h
    rw [List.flatMap_cons, List.set_cons_zero, List.flatMap_cons, Nat.zero_mul, Nat.zero_add, List.set_append_left _ _ (by rw [hk]; exact hj), hs]
  | a :: L, i + 1, j, x, x', c, hk, h, hj, hs => by
    simp only [List.getElem?_cons_succ] at h
    have h0 := hk a
    rw [List.flatMap_cons, List.set_cons_succ, List.flatMap_cons, List.set_append, if_neg (by rw [h0, Nat.succ_mul]; omega), h0, show (i + 1) * k + j - k = i * k + j by rw [Nat.succ_mul]; omega, set_flat hk h hj hs]

theorem wr_one {xs : List C} {o : Nat} {c : C} (h : o < xs.length) : wr o [c] xs = some (xs.set o c) := by
  unfold wr
  rw [if_pos (by simp only [List.length_singleton]; omega)]
  congr 1
  rw [List.set_eq_take_append_cons_drop, if_pos h]
  simp

/-- One cell of a row that is owned is written. -/
theorem wr_co {L : List α} {i j k : Nat} {x x' : α} {c : C} (hx : L[i]? = some x) (hk : Enc.k α = k) (hj : j < k) (hs : (owL (Enc.d x)).set j c = owL (Enc.d x')) : wr (i * k + j) [c] (co L) = some (co (L.set i x')) := by
  subst hk
  have hlt : i < L.length := (List.getElem?_eq_some_iff.1 hx).1
  have h1 : i * Enc.k α + j < (co L).length := by
    rw [co_len]
    have h2 : (i + 1) * Enc.k α ≤ L.length * Enc.k α := Nat.mul_le_mul_right _ hlt
    rw [Nat.succ_mul] at h2
    omega
  rw [wr_one h1, owL_flat, owL_flat, set_flat (fun a => by rw [owL_len, Enc.len]) hx hj hs]
end

theorem wr_int {L : List Int} {i : Nat} {n : Int} (h : i < L.length) : wr i [.int .i64 n] (co L) = some (co (L.set i n)) := by
  have := wr_co (L := L) (x := L[i]) (i := i) (j := 0) (k := 1) (x' := n) (c := .int .i64 n) (List.getElem?_eq_getElem h) rfl (by omega) rfl
  simpa using this

/-! ### what is lent -/

def Lend (H : Heap) (v u : V) : Prop := ∃ w, (∃ k0, ∀ k, k0 ≤ k → snapU k H v = some w) ∧ leV w u

theorem leC.refl (fl : Bool) : ∀ c : C, leC fl c c
  | .nils => by simp only [leC]; exact .inl trivial
  | .imm f s n xs => by simp only [leC]; exact ⟨xs, rfl, go f xs⟩
  | .int _ _ => by simp only [leC]
  | .bool _ => by simp only [leC]
  | .str _ => by simp only [leC]
  | .nilp => by simp only [leC]
  | .dead => by simp only [leC]
  | .inl .. => by simp only [leC]
  | .ref .. => by simp only [leC]
  | .ptr .. => by simp only [leC]
  | .iptr f xs o => by simp only [leC]; exact ⟨xs, rfl, go f xs⟩
where go (f : Bool) : ∀ xs : List C, leL f xs xs
  | [] => by simp only [leL]
  | x :: xs => by simp only [leL]; exact ⟨x, xs, rfl, leC.refl f x, go f xs⟩

theorem snapU_c {H : Heap} {k : Nat} {c c' : C} (h : snap H k c = some c') : snapU k H (.c c) = some (.c c') := by
  cases c with
  | ptr e p off => cases k <;> cases h
  | _ => simp only [snapU, h, Option.map_some]

theorem Lend.sc {H : Heap} {c : C} (h : ∀ k, snap H (k + 1) c = some c) : Lend H (.c c) (.c c) :=
  ⟨.c c, ⟨1, fun k hk => by obtain ⟨j, rfl⟩ : ∃ j, k = j + 1 := ⟨k - 1, by omega⟩; exact snapU_c (h j)⟩, true, c, rfl, leC.refl true c⟩
theorem Lend.int {H : Heap} {k : IntKind} {n : Int} : Lend H (.c (.int k n)) (.c (.int k n)) := .sc fun _ => rfl
theorem Lend.bool {H : Heap} {b : Bool} : Lend H (.c (.bool b)) (.c (.bool b)) := .sc fun _ => rfl
theorem Lend.str {H : Heap} {b : ByteArray} : Lend H (.c (.str b)) (.c (.str b)) := .sc fun _ => rfl
theorem Lend.imm {H : Heap} {fl : Bool} {sz n : Nat} {xs : List C} : Lend H (.c (.imm fl sz n xs)) (.c (.imm fl sz n xs)) := .sc fun _ => rfl
theorem Lend.nils {H : Heap} {fl : Bool} {sz : Nat} : Lend H (.c .nils) (.c (.imm fl sz 0 [])) :=
  ⟨.c .nils, ⟨1, fun k hk => by obtain ⟨j, rfl⟩ : ∃ j, k = j + 1 := ⟨k - 1, by omega⟩; rfl⟩, fl, _, rfl, by simp only [leC]; exact .inr ⟨sz, rfl⟩⟩
theorem Lend.nilS {H : Heap} {fl : Bool} {α : Type} [Enc α] : Lend H (.c .nils) (.c ((rS ([] : List α)).im fl)) := Lend.nils
theorem Lend.own {H : Heap} {es : List Id} {c : C} {d d' : D} (h : Own H es c d) (he : er d d') : Lend H (.c c) (.c (d'.im true)) :=
  ⟨.c (d.im true), ⟨d.dep + 1, fun k hk => by exact snapU_c (h.snap k (by omega))⟩, true, _, rfl, er.le he⟩
theorem Lend.owns {H : Heap} {es : List Id} {cs : List C} {ds ds' : List D} (h : Owns H es cs ds) (he : erL ds ds') : Lend H (.agg cs) (.agg (imL true ds')) :=
  ⟨.agg (imL true ds), ⟨depL ds + 1, fun k hk => by simp only [snapU, h.snap k (by omega), Option.map_some]⟩, true, _, rfl, erL.le he⟩
theorem Lend.aggI {H : Heap} {fl : Bool} {ds ds' : List D} (he : erL ds ds') : Lend H (.agg (imL fl ds)) (.agg (imL fl ds')) :=
  ⟨.agg (imL fl ds), ⟨1, fun k hk => by simp only [snapU, snaps_im H fl k (by omega), Option.map_some]⟩, fl, _, rfl, erL.le he⟩
theorem Lend.ptr {H : Heap} {es : List Id} {e : Id} {p : List Nat} {off : Nat} {cs : List C} {ds ds' : List D} (hg : getN H e p = some cs) (h : Owns H es cs ds) (he : erL ds ds') : Lend H (.c (.ptr e p off)) (.c (.iptr true (imL true ds') off)) := by
  refine ⟨.c (.iptr true (imL true ds) off), ⟨depL ds + 1, fun k hk => ?_⟩, true, _, rfl, ?_⟩
  · simp only [snapU, hg, h.live, if_true, h.snap k (by omega), Option.map_some]
  · simp only [leC]
    exact ⟨_, rfl, erL.le he⟩
theorem Lend.agg {H : Heap} {fl : Bool} (ds : List D) : Lend H (.agg (imL fl ds)) (.agg (imL fl ds)) := Lend.aggI (erL.refl ds)
theorem Lend.ev {H : Heap} {α : Type} [Enc α] {e : Id} {L : List α} (hH : H e = some (co L)) : Lend H (.c (.ref e [] (Enc.k α) 0 L.length)) (.c (.imm true (Enc.k α) L.length (cl true L))) :=
  Lend.own (Own.ref hH (dlen L) (by simp) (Owns.ow H _)) (er.refl _)

def Lends (H : Heap) : List (Mode × V) → List V → Prop
  | [], us => us = []
  | (.im, v) :: r, us => ∃ u us', us = u :: us' ∧ Lend H v u ∧ Lends H r us'
  | _ :: _, _ => False

theorem Lends.nil {H : Heap} : Lends H [] [] := rfl
theorem Lends.cons {H : Heap} {v u : V} {r : List (Mode × V)} {us : List V} (h : Lend H v u) (h' : Lends H r us) : Lends H ((.im, v) :: r) (u :: us) := ⟨u, us, rfl, h, h'⟩

theorem Lends.pass {H : Heap} : ∀ {vs : List (Mode × V)} {us : List V}, Lends H vs us →
    ∃ k ws, takeRoots k [] H vs = some ([], [], H) ∧ takeMvs k H vs = some ([], H) ∧ (∀ j, k ≤ j → passArgs j H H [] [] 0 [] vs = some ws) ∧ leVs ws us
  | [], us, h => ⟨0, [], rfl, rfl, fun _ _ => rfl, h⟩
  | (m, v) :: r, us, h => by
    cases m with
    | im =>
      obtain ⟨u, us', rfl, ⟨w, ⟨k0, h1⟩, h2⟩, h3⟩ := h
      obtain ⟨k, ws, g1, g2, g3, g4⟩ := h3.pass
      refine ⟨max k k0, w :: ws, ?_, ?_, fun j hj => ?_, ?_⟩
      · have go : ∀ (vs : List (Mode × V)) us, Lends H vs us → ∀ k, takeRoots k [] H vs = some ([], [], H) := by
          intro vs
          induction vs with
          | nil => intros; rfl
          | cons a vs ih =>
            intro us h k
            obtain ⟨m, v⟩ := a
            cases m with
            | im => obtain ⟨_, _, _, _, h⟩ := h; exact ih _ h k
            | mv => exact h.elim
            | io s => exact h.elim
            | sub => exact h.elim
        exact go r _ h3 _
      · have go : ∀ (vs : List (Mode × V)) us, Lends H vs us → ∀ k, takeMvs k H vs = some ([], H) := by
          intro vs
          induction vs with
          | nil => intros; rfl
          | cons a vs ih =>
            intro us h k
            obtain ⟨m, v⟩ := a
            cases m with
            | im => obtain ⟨_, _, _, _, h⟩ := h; exact ih _ h k
            | mv => exact h.elim
            | io s => exact h.elim
            | sub => exact h.elim
        exact go r _ h3 _
      · simp only [passArgs, h1 j (by omega), g3 j (by omega)]
      · simp only [leVs]
        exact ⟨u, us', rfl, h2, g4⟩
    | mv => exact h.elim
    | io s => exact h.elim
    | sub => exact h.elim

section
variable {Γ : FuncId → Option AFn} {T : Nat → V} {H H' : Heap} {n ix d : Nat} {os : List AOper} {R : List Heap → St → Prop} {f : FuncId} {as : List (Mode × Opd)}

/-- A call, its arguments told. -/
structure CallW (Γ : FuncId → Option AFn) (f : FuncId) (vs : List (Mode × V)) (T : Nat → V) (H : Heap) (n ix d : Nat) (os : List AOper) (R : List Heap → St → Prop) : Prop where
  go : ∀ as, args2 T as = vs → WO Γ (⟨ix, some d, none, .call f as⟩ :: os) ⟨T, H, n⟩ R

theorem WO.pre {vs : List (Mode × V)} (h : args2 T as = vs) (k : CallW Γ f vs T H n ix d os R) : WO Γ (⟨ix, some d, none, .call f as⟩ :: os) ⟨T, H, n⟩ R := k.go as h

theorem CallW.im {vs : List (Mode × V)} {us : List V} {v v' : V} (hf : Runs Γ (.fn f us [] v [])) (hl : Lends H vs us) (hv : bringV (n, ix, 0) H v = (v', H')) (h : WO Γ os ⟨upd T d v', H', n⟩ fun hs => R (H :: hs)) :
    CallW Γ f vs T H n ix d os R := by
  refine ⟨fun as ha => ?_⟩
  obtain ⟨k, ws, h1, h2, h3, h4⟩ := hl.pass
  exact WO.call k rfl (.inl rfl) (by rw [ha]; exact h1) (by rw [ha]; exact h2) (by rw [ha]; exact h3 k (Nat.le_refl _)) (.weak h4 hf) rfl hv h

/-- A call that answers a number, a bool. -/
theorem CallW.int {vs : List (Mode × V)} {us : List V} {k : IntKind} {x : Int} (hf : Runs Γ (.fn f us [] (.c (.int k x)) [])) (hl : Lends H vs us) (h : WO Γ os ⟨upd T d (.c (.int k x)), H, n⟩ fun hs => R (H :: hs)) :
    CallW Γ f vs T H n ix d os R := .im hf hl rfl h
theorem CallW.bool {vs : List (Mode × V)} {us : List V} {x : Bool} (hf : Runs Γ (.fn f us [] (.c (.bool x)) [])) (hl : Lends H vs us) (h : WO Γ os ⟨upd T d (.c (.bool x)), H, n⟩ fun hs => R (H :: hs)) :
    CallW Γ f vs T H n ix d os R := .im hf hl rfl h
/-- A call that answers a row. -/
theorem CallW.row {α : Type} [Enc α] {vs : List (Mode × V)} {us : List V} {L : List α} (hf : Runs Γ (.fn f us [] (.c (rS L).ow) [])) (hl : Lends H vs us) (h : WO Γ os ⟨upd T d (.c (.ref (n, ix, 0, 0) [] (Enc.k α) 0 L.length)), upd H (n, ix, 0, 0) (some (co L)), n⟩ fun hs => R (H :: hs)) :
    CallW Γ f vs T H n ix d os R := .im hf hl rfl h

end

/-! ### loops and ends -/

section
variable {Γ : FuncId → Option AFn} {s : St} {Q : AEx → St → Prop} {c : ACode}

def forQ (I : Nat → (Nat → V) → Heap → Nat → Prop) (i N : Nat) (Q : AEx → St → Prop) : AEx → St → Prop
  | .normal, ⟨T, H, n⟩ => i < N ∧ I (i + 1) T H n
  | ex, s => Q ex s

theorem W.for {T0 : Nat → V} {H0 : Heap} {n0 : Nat} (I : Nat → (Nat → V) → Heap → Nat → Prop) (N : Nat) (h0 : I 0 T0 H0 n0) (round : ∀ i T H n, i ≤ N → I i T H n → W Γ c ⟨T, H, n⟩ (forQ I i N Q)) : W Γ (.loop c) ⟨T0, H0, n0⟩ Q := by
  refine W.loop (fun m s => ∃ i, i ≤ N ∧ m = N - i ∧ I i s.T s.H s.n) N ⟨0, Nat.zero_le _, rfl, h0⟩ ?_
  rintro m ⟨T, H, n⟩ ⟨i, hi, rfl, hI⟩
  refine (round i T H n hi hI).mono fun ex s' h => ?_
  cases ex with
  | normal => obtain ⟨h1, h2⟩ := h; exact ⟨N - (i + 1), by omega, i + 1, by omega, rfl, h2⟩
  | exit id => exact h
  | ret => exact h

theorem Own.not_ptr {H : Heap} {es : List Id} {e : Id} {p : List Nat} {o : Nat} {d : D} : ¬ Own H es (.ptr e p o) d := by
  intro h
  generalize hc : C.ptr e p o = c at h
  cases h with
  | ow d => cases d <;> cases hc
  | inl h => cases hc
  | ref _ _ _ _ => cases hc
  | part _ _ _ _ _ => cases hc

/-- How a function ends. -/
structure endQ (res : List ARes) (P : V → Prop) (ex : AEx) (s : St) : Prop where
  ex : ex = .normal ∨ ex = .ret
  ans : ∃ vs us k H1, resAll s res = some vs ∧ takeT k s.H vs = some (us, H1) ∧ P (pack us)

theorem W.ans {f : FuncId} {fn : AFn} {args : List V} {P : V → Prop} (hf : Γ f = some fn) (ha : args.length = fn.np) (h : W Γ fn.body (start args []) (endQ fn.res P)) : ∃ v, P v ∧ Runs Γ (.fn f args [] v []) := by
  obtain ⟨ex, s', h1, ⟨h2, vs, us, k, H1, h3, h4, h5⟩⟩ := h
  exact ⟨_, h5, .fn hf ha h1 h2 h3 h4 rfl⟩
theorem W.is {f : FuncId} {fn : AFn} {args : List V} {v : V} (hf : Γ f = some fn) (ha : args.length = fn.np) (h : W Γ fn.body (start args []) (endQ fn.res (· = v))) : Runs Γ (.fn f args [] v []) := by
  obtain ⟨v', rfl, h2⟩ := W.ans hf ha h
  exact h2

theorem endQ.sc {P : V → Prop} {ex : AEx} {s : St} {t : Nat} {c : C} (hx : ex = .normal ∨ ex = .ret) (ht : s.T t = .c c) (hc : sc c = true) (hp : P (.c c)) : endQ [.tmp t] P ex s := by
  refine ⟨hx, [.c c], [.c c], 3, s.H, by simp only [resAll, resOne, ht], ?_, hp⟩
  have h1 : takeL 3 s.H [c] = some ([c], s.H) := takeL_flat (by simp [hc]) (by simp)
  cases c with
  | ptr e p o => cases hc
  | _ => simp only [takeT, takeU, h1]

theorem endQ.own {P : V → Prop} {ex : AEx} {s : St} {t : Nat} {c : C} {es : List Id} {d : D} (hx : ex = .normal ∨ ex = .ret) (ht : s.T t = .c c) (hc : Own s.H es c d) (hp : P (.c d.ow)) : endQ [.tmp t] P ex s := by
  have h1 : takeL (depL [d] + 1) s.H [c] = some ([d.ow], less es s.H) := by simpa [owL] using hc.one.take (depL [d] + 1) (by omega)
  refine ⟨hx, [.c c], [.c d.ow], depL [d] + 1, less es s.H, by simp only [resAll, resOne, ht], ?_, hp⟩
  cases c with
  | ptr e p o => exact absurd hc Own.not_ptr
  | _ => simp only [takeT, takeU, h1]

theorem start_im' {args : List V} {roots : List (List C)} (h : ∀ x ∈ args, (∃ c, x = .c c ∧ ∀ sz n xs, c ≠ .inl sz n xs) ∨ ∃ fl ds, x = .agg (imL fl ds)) : start args roots = ⟨fun t => args.getD t (.c .dead), rootsIn 0 roots, 1⟩ := by
  have kb : ∀ (fl : Bool) (ds : List D) (i : Nat × Nat × Nat) (k : Nat) (H : Heap), bring i k H (imL fl ds) = (imL fl ds, H) := by
    intro fl ds
    induction ds with
    | nil => intros; rfl
    | cons d ds ih => intro i k H; cases d <;> simp only [imL, D.im, bring, ih]
  have key : ∀ (args : List V) (i : Nat) (H : Heap), (∀ x ∈ args, (∃ c, x = .c c ∧ ∀ sz n xs, c ≠ .inl sz n xs) ∨ ∃ fl ds, x = .agg (imL fl ds)) → bringArgs i H args = (args, H) := by
    intro args
    induction args with
    | nil => intro i H _; rfl
    | cons a args ih =>
      intro i H h
      have h1 : bringV (0, i + 1, 0) H a = (a, H) := by
        rcases h a (by simp) with ⟨c, rfl, hc⟩ | ⟨fl, ds, rfl⟩
        · cases c <;> first
            | rfl
            | exact absurd rfl (hc _ _ _)
        · simp only [bringV, bringT, kb, List.headD_cons]
      simp only [bringArgs, h1, ih (i + 1) H (fun x hx => h x (by simp [hx]))]
  unfold start
  rw [key _ _ _ h]
end

def flatC : C → Bool
  | .inl .. => false
  | _ => true
inductive Pls : List V → Prop
  | nil : Pls []
  | c {c vs} (hc : flatC c = true) (h : Pls vs) : Pls (.c c :: vs)
  | agg {fl ds vs} (h : Pls vs) : Pls (.agg (imL fl ds) :: vs)
theorem start_im {args : List V} {roots : List (List C)} (h : Pls args) : start args roots = ⟨fun t => args.getD t (.c .dead), rootsIn 0 roots, 1⟩ := by
  refine start_im' fun x hx => ?_
  induction h with
  | nil => cases hx
  | c hc h ih =>
    rcases List.mem_cons.1 hx with rfl | hx
    · exact .inl ⟨_, rfl, fun sz n xs he => by subst he; cases hc⟩
    · exact ih hx
  | agg h ih =>
    rcases List.mem_cons.1 hx with rfl | hx
    · exact .inr ⟨_, _, rfl⟩
    · exact ih hx

theorem if_and {b x : Bool} : (if b = true then (V.c (.bool x)) else .c (.bool false)) = .c (.bool (b && x)) := by cases b <;> rfl
theorem if_or {b x : Bool} : (if b = true then (V.c (.bool true)) else .c (.bool x)) = .c (.bool (b || x)) := by cases b <;> rfl
theorem if_if {b : Bool} {x y z : V} : (if b = true then (if b = true then x else y) else z) = if b = true then x else z := by cases b <;> rfl
theorem if_nf {b : Bool} {x y z : V} : (if b = true then z else (if b = false then x else y)) = if b = true then z else x := by cases b <;> rfl

end Go.Proofs.Ytgodaiiegcdpcaa.Abs
end
section
set_option linter.unusedVariables false
set_option linter.unusedSimpArgs false
namespace Go.Proofs.Ytgodaiiegcdpcaa.Abs

theorem upd_id' {T : Nat → V} {t : Nat} {v : V} (h : T t = v) : upd T t v = T := by
  funext x
  unfold upd
  split
  · next hx => rw [hx, h]
  · rfl

section
variable {Γ : FuncId → Option AFn} {T : Nat → V} {H H' : Heap} {n ix d : Nat} {os : List AOper} {R : List Heap → St → Prop}
variable {x y z : Opd} {a b c : C} {k k' : IntKind} {e : Id} {p : List Nat} {off s sz m : Nat} {fl : Bool} {xs ys : List C} {vs : List V} {v : V} {i j : Int}

abbrev Nx (Γ : FuncId → Option AFn) (os : List AOper) (T : Nat → V) (H H' : Heap) (n : Nat) (R : List Heap → St → Prop) : Prop := WO Γ os ⟨T, H', n⟩ fun hs => R (H :: hs)

theorem WO.qc {op : AOp} (hq : quiet T op = some (.c c)) (h : Nx Γ os (upd T d (.c c)) H H n R) (hi : isQ op = true := by rfl) : WO Γ (⟨ix, some d, none, op⟩ :: os) ⟨T, H, n⟩ R := WO.q hq h hi
theorem WO.qq {op : AOp} (hi : isQ op = true) (hq : quiet T op = some (.c c)) (h : Nx Γ os (upd T d (.c c)) H H n R) : WO Γ (⟨ix, some d, none, op⟩ :: os) ⟨T, H, n⟩ R := WO.q hq h hi
theorem WO.qqa {op : AOp} (hi : isQ op = true) (hq : quiet T op = some (.agg xs)) (h : Nx Γ os (upd T d (.agg xs)) H H n R) : WO Γ (⟨ix, some d, none, op⟩ :: os) ⟨T, H, n⟩ R := WO.q hq h hi
theorem WO.qqt {op : AOp} (hi : isQ op = true) (hq : quiet T op = some (.tup vs)) (h : Nx Γ os (upd T d (.tup vs)) H H n R) : WO Γ (⟨ix, some d, none, op⟩ :: os) ⟨T, H, n⟩ R := WO.q hq h hi
theorem WO.qa {op : AOp} (hq : quiet T op = some (.agg xs)) (h : Nx Γ os (upd T d (.agg xs)) H H n R) (hi : isQ op = true := by rfl) : WO Γ (⟨ix, some d, none, op⟩ :: os) ⟨T, H, n⟩ R := WO.q hq h hi
theorem WO.qt {op : AOp} (hq : quiet T op = some (.tup vs)) (h : Nx Γ os (upd T d (.tup vs)) H H n R) (hi : isQ op = true := by rfl) : WO Γ (⟨ix, some d, none, op⟩ :: os) ⟨T, H, n⟩ R := WO.q hq h hi
theorem WO.movc (hx : ev T x = .c a) (h : Nx Γ os (upd T d (.c a)) H H n R) : WO Γ (⟨ix, some d, none, .mov x⟩ :: os) ⟨T, H, n⟩ R := WO.q (by simp only [quiet, hx]) h
theorem WO.mova (hx : ev T x = .agg xs) (h : Nx Γ os (upd T d (.agg xs)) H H n R) : WO Γ (⟨ix, some d, none, .mov x⟩ :: os) ⟨T, H, n⟩ R := WO.q (by simp only [quiet, hx]) h
theorem WO.movt (hx : ev T x = .tup vs) (h : Nx Γ os (upd T d (.tup vs)) H H n R) : WO Γ (⟨ix, some d, none, .mov x⟩ :: os) ⟨T, H, n⟩ R := WO.q (by simp only [quiet, hx]) h
theorem WO.bin {op : BinOp} (hx : ev T x = .c a) (hy : ev T y = .c b) (hr : binC op a b = some c) (h : Nx Γ os (upd T d (.c c)) H H n R) : WO Γ (⟨ix, some d, none, .bin op x y⟩ :: os) ⟨T, H, n⟩ R :=
  WO.q (by simp only [quiet, hx, hy, hr]; rfl) h
theorem WO.eqb {ne t u : Bool} (hx : ev T x = .c (.bool t)) (hy : ev T y = .c (.bool u)) (h : Nx Γ os (upd T d (.c (.bool ((t == u) != ne)))) H H n R) : WO Γ (⟨ix, some d, none, .eqb ne x y⟩ :: os) ⟨T, H, n⟩ R :=
  WO.q (by simp only [quiet, hx, hy]) h
theorem WO.eqs {ne t : Bool} {ks : List Bool} (hx : ev T x = .agg xs) (hy : ev T y = .agg ys) (hr : eqsC ks xs ys = some t) (h : Nx Γ os (upd T d (.c (.bool (t != ne)))) H H n R) : WO Γ (⟨ix, some d, none, .eqs ne ks x y⟩ :: os) ⟨T, H, n⟩ R :=
  WO.q (by simp only [quiet, hx, hy, hr]; rfl) h
theorem WO.not {t : Bool} (hx : ev T x = .c (.bool t)) (h : Nx Γ os (upd T d (.c (.bool (!t)))) H H n R) : WO Γ (⟨ix, some d, none, .un .not x⟩ :: os) ⟨T, H, n⟩ R :=
  WO.q (by simp only [quiet, hx, unC]; rfl) h
theorem WO.neg (hx : ev T x = .c (.int k i)) (h : Nx Γ os (upd T d (.c (.int k (k.wrap (0 - i))))) H H n R) : WO Γ (⟨ix, some d, none, .un .neg x⟩ :: os) ⟨T, H, n⟩ R :=
  WO.q (by simp only [quiet, hx, unC]; rfl) h
theorem WO.fap (hx : ev T x = .c (.ptr e p m)) (h : Nx Γ os (upd T d (.c (.ptr e p (m + off)))) H H n R) : WO Γ (⟨ix, some d, none, .fa x off⟩ :: os) ⟨T, H, n⟩ R := WO.q (by simp only [quiet, hx]) h
theorem WO.fai (hx : ev T x = .c (.iptr fl xs m)) (h : Nx Γ os (upd T d (.c (.iptr fl xs (m + off)))) H H n R) : WO Γ (⟨ix, some d, none, .fa x off⟩ :: os) ⟨T, H, n⟩ R := WO.q (by simp only [quiet, hx]) h
theorem WO.fld1 (hx : ev T x = .agg xs) (hc : xs[off]? = some c) (h : Nx Γ os (upd T d (.c c)) H H n R) : WO Γ (⟨ix, some d, none, .fld x off 1 false⟩ :: os) ⟨T, H, n⟩ R :=
  WO.q (by simp only [quiet, hx, cut_one hc]; rfl) h
theorem WO.flda (hx : ev T x = .agg xs) (hc : cut off s xs = some ys) (h : Nx Γ os (upd T d (.agg ys)) H H n R) : WO Γ (⟨ix, some d, none, .fld x off s true⟩ :: os) ⟨T, H, n⟩ R :=
  WO.q (by simp only [quiet, hx, hc]; rfl) h
theorem WO.ixi (hx : ev T x = .c (.imm fl sz m xs)) (hi : ev T y = .c (.int k ((off : Nat) : Int))) (hm : off < m) (h : Nx Γ os (upd T d (.c (.iptr fl xs (off * sz)))) H H n R) : WO Γ (⟨ix, some d, none, .ix x y sz⟩ :: os) ⟨T, H, n⟩ R :=
  WO.q (by simp only [quiet, hx, hi]; rw [if_pos ⟨trivial, by omega, by omega⟩, Int.toNat_natCast]) h
theorem WO.ixr {lo : Nat} (hx : ev T x = .c (.ref e p sz lo m)) (hi : ev T y = .c (.int k ((off : Nat) : Int))) (hm : off < m) (h : Nx Γ os (upd T d (.c (.ptr e p (lo + off * sz)))) H H n R) : WO Γ (⟨ix, some d, none, .ix x y sz⟩ :: os) ⟨T, H, n⟩ R :=
  WO.q (by simp only [quiet, hx, hi]; rw [if_pos ⟨trivial, by omega, by omega⟩, Int.toNat_natCast]) h
theorem WO.lenm (hx : ev T x = .c (.imm fl sz m xs)) (h : Nx Γ os (upd T d (.c (.int .i64 m))) H H n R) : WO Γ (⟨ix, some d, none, .len x⟩ :: os) ⟨T, H, n⟩ R := WO.q (by simp only [quiet, hx]) h
theorem WO.lenr {lo : Nat} (hx : ev T x = .c (.ref e p sz lo m)) (h : Nx Γ os (upd T d (.c (.int .i64 m))) H H n R) : WO Γ (⟨ix, some d, none, .len x⟩ :: os) ⟨T, H, n⟩ R := WO.q (by simp only [quiet, hx]) h
theorem WO.lenn (hx : ev T x = .c .nils) (h : Nx Γ os (upd T d (.c (.int .i64 0))) H H n R) : WO Γ (⟨ix, some d, none, .len x⟩ :: os) ⟨T, H, n⟩ R := WO.q (by simp only [quiet, hx]) h
theorem WO.extc (hx : ev T x = .tup vs) (hv : vs[m]? = some (.c a)) (h : Nx Γ os (upd T d (.c a)) H H n R) : WO Γ (⟨ix, some d, none, .ext x m⟩ :: os) ⟨T, H, n⟩ R := WO.q (by simp only [quiet, hx, hv]) h
theorem WO.exta (hx : ev T x = .tup vs) (hv : vs[m]? = some (.agg xs)) (h : Nx Γ os (upd T d (.agg xs)) H H n R) : WO Γ (⟨ix, some d, none, .ext x m⟩ :: os) ⟨T, H, n⟩ R := WO.q (by simp only [quiet, hx, hv]) h
theorem WO.nckp (hx : ev T x = .c (.ptr e p m)) (h : Nx Γ os (upd T d (.c (.ptr e p m))) H H n R) : WO Γ (⟨ix, some d, none, .nilck x⟩ :: os) ⟨T, H, n⟩ R := WO.q (by simp only [quiet, hx]) h
theorem WO.ncki (hx : ev T x = .c (.iptr fl xs m)) (h : Nx Γ os (upd T d (.c (.iptr fl xs m))) H H n R) : WO Γ (⟨ix, some d, none, .nilck x⟩ :: os) ⟨T, H, n⟩ R := WO.q (by simp only [quiet, hx]) h
theorem WO.conv (hx : ev T x = .c (.int k' i)) (h : Nx Γ os (upd T d (.c (.int k (k.wrap i)))) H H n R) : WO Γ (⟨ix, some d, none, .conv k x⟩ :: os) ⟨T, H, n⟩ R := WO.q (by simp only [quiet, hx]) h
theorem WO.mx (hx : ev T x = .c (.int k i)) (hy : ev T y = .c (.int k j)) (h : Nx Γ os (upd T d (.c (.int k (max i j)))) H H n R) : WO Γ (⟨ix, some d, none, .mx x y⟩ :: os) ⟨T, H, n⟩ R :=
  WO.q (by simp only [quiet, hx, hy, if_true]; rw [show (if j > i then j else i) = max i j by split <;> omega]) h
theorem WO.build {zero : List C} {ps : List (Nat × Nat × Opd)} (hf : fillC T zero ps = some xs) (h : Nx Γ os (upd T d (.agg xs)) H H n R) : WO Γ (⟨ix, some d, none, .build zero ps⟩ :: os) ⟨T, H, n⟩ R :=
  WO.q (by simp only [quiet, hf]; rfl) h
theorem WO.pick {t u w : Bool} (hz : ev T z = .c (.bool t)) (hx : ev T x = .c (.bool u)) (hy : ev T y = .c (.bool w)) (h : Nx Γ os (upd T d (.c (.bool (if t then u else w)))) H H n R) : WO Γ (⟨ix, some d, none, .pick z x y⟩ :: os) ⟨T, H, n⟩ R :=
  WO.q (by simp only [quiet, hz, hx, hy]; cases t <;> rfl) h
/-- 'and', of what is known where the first is. -/
theorem WO.and {t u : Bool} (hz : ev T z = .c (.bool t)) (hx : t = true → ev T x = .c (.bool u)) (hy : ev T y = .c (.bool false)) (h : Nx Γ os (upd T d (.c (.bool (t && u)))) H H n R) : WO Γ (⟨ix, some d, none, .pick z x y⟩ :: os) ⟨T, H, n⟩ R :=
  WO.q (v := .c (.bool (t && u))) (by simp only [quiet, hz, hy]; cases t with | true => simp [hx rfl] | false => rfl) h
theorem WO.or {t u : Bool} (hz : ev T z = .c (.bool t)) (hx : ev T x = .c (.bool true)) (hy : t = false → ev T y = .c (.bool u)) (h : Nx Γ os (upd T d (.c (.bool (t || u)))) H H n R) : WO Γ (⟨ix, some d, none, .pick z x y⟩ :: os) ⟨T, H, n⟩ R :=
  WO.q (v := .c (.bool (t || u))) (by simp only [quiet, hz, hx]; cases t with | false => simp [hy rfl] | true => rfl) h
theorem WO.pickT (hz : ev T z = .c (.bool true)) (hx : ev T x = .c a) (h : Nx Γ os (upd T d (.c a)) H H n R) : WO Γ (⟨ix, some d, none, .pick z x y⟩ :: os) ⟨T, H, n⟩ R := WO.q (by simp only [quiet, hz, hx, if_true]) h
theorem WO.pickF (hz : ev T z = .c (.bool false)) (hy : ev T y = .c a) (h : Nx Γ os (upd T d (.c a)) H H n R) : WO Γ (⟨ix, some d, none, .pick z x y⟩ :: os) ⟨T, H, n⟩ R := WO.q (by simp only [quiet, hz, hy, Bool.false_eq_true, if_false]) h

/-! ### memory -/

def plainC : C → Bool
  | .inl .. => false
  | _ => true
theorem look_plain {e : Id} {p : List Nat} {j : Nat} {c : C} (h : plainC c = true) : look e p j c = c := by cases c <;> first | rfl | cases h
theorem looks_plain {e : Id} {p : List Nat} : ∀ {xs : List C} {j : Nat}, xs.all plainC = true → looks e p j xs = xs
  | [], _, _ => rfl
  | x :: xs, j, h => by simp only [List.all_cons, Bool.and_eq_true] at h; simp only [looks, look_plain h.1, looks_plain h.2]

/-- One cell of an event. -/
theorem WO.ld1 (hx : ev T x = .c (.ptr e [] off)) (hH : H e = some xs) (hc : xs[off]? = some c) (hp : plainC c = true) (h : Nx Γ os (upd T d (.c c)) H H n R) : WO Γ (⟨ix, some d, none, .load x 1 false⟩ :: os) ⟨T, H, n⟩ R :=
  WO.ld (v := .c c) (by rw [hx, ld_ptr (xs := xs) (by simp only [getN, hH, walk]) hc, look_plain hp]) h
theorem WO.ld1i (hx : ev T x = .c (.ptr e [] off)) (hH : H e = some xs) (hc : xs[off]? = some (.int k i)) (h : Nx Γ os (upd T d (.c (.int k i))) H H n R) : WO Γ (⟨ix, some d, none, .load x 1 false⟩ :: os) ⟨T, H, n⟩ R := .ld1 hx hH hc rfl h
theorem WO.ld1b {t : Bool} (hx : ev T x = .c (.ptr e [] off)) (hH : H e = some xs) (hc : xs[off]? = some (.bool t)) (h : Nx Γ os (upd T d (.c (.bool t))) H H n R) : WO Γ (⟨ix, some d, none, .load x 1 false⟩ :: os) ⟨T, H, n⟩ R := .ld1 hx hH hc rfl h
theorem WO.ld1m (hx : ev T x = .c (.ptr e [] off)) (hH : H e = some xs) (hc : xs[off]? = some (.imm fl sz m ys)) (h : Nx Γ os (upd T d (.c (.imm fl sz m ys))) H H n R) : WO Γ (⟨ix, some d, none, .load x 1 false⟩ :: os) ⟨T, H, n⟩ R := .ld1 hx hH hc rfl h
/-- All of an event. -/
theorem WO.lda (hx : ev T x = .c (.ptr e [] 0)) (hH : H e = some xs) (hl : xs.length = s) (hp : xs.all plainC = true) (h : Nx Γ os (upd T d (.agg xs)) H H n R) : WO Γ (⟨ix, some d, none, .load x s true⟩ :: os) ⟨T, H, n⟩ R :=
  WO.ld (v := .agg xs) (by subst hl; rw [hx]; simp only [loadV, getN, hH, walk]; rw [cut_get (by omega)]; simp [looks_plain hp, mkV]) h
/-- A part of an event. -/
theorem WO.ldp (hx : ev T x = .c (.ptr e [] off)) (hH : H e = some xs) (hc : cut off s xs = some ys) (hp : ys.all plainC = true) (h : Nx Γ os (upd T d (.agg ys)) H H n R) : WO Γ (⟨ix, some d, none, .load x s true⟩ :: os) ⟨T, H, n⟩ R :=
  WO.ld (v := .agg ys) (by rw [hx]; simp only [loadV, getN, hH, walk, hc, looks_plain hp]; rfl) h
/-- One cell of what is lent. -/
theorem WO.ldi1 (hx : ev T x = .c (.iptr fl xs off)) (hc : xs[off]? = some c) (h : Nx Γ os (upd T d (.c c)) H H n R) : WO Γ (⟨ix, some d, none, .load x 1 false⟩ :: os) ⟨T, H, n⟩ R :=
  WO.ld (v := .c c) (by rw [hx, ld_one hc]) h
section
variable {α : Type} {_ : Enc α} {L : List α} {q r : Nat} {u : α}
theorem WO.ldc (hx : ev T x = .c (.iptr fl (cl fl L) (q * s))) (hk : Enc.k α = s) (hL : L[q]? = some u) (h : Nx Γ os (upd T d (.agg (imL fl (Enc.d u)))) H H n R) : WO Γ (⟨ix, some d, none, .load x s true⟩ :: os) ⟨T, H, n⟩ R :=
  WO.ld (v := .agg (imL fl (Enc.d u))) (by rw [hx, ld_cl H fl L hL hk]) h
theorem WO.ldf (hx : ev T x = .c (.iptr fl (cl fl L) (q * r + off))) (hk : Enc.k α = r) (hj : off < r) (hL : L[q]? = some u) (hc : (imL fl (Enc.d u))[off]? = some c) (h : Nx Γ os (upd T d (.c c)) H H n R) : WO Γ (⟨ix, some d, none, .load x 1 false⟩ :: os) ⟨T, H, n⟩ R :=
  WO.ld (v := .c c) (by rw [hx, ld_clf H fl L hL hk hj, hc]; rfl) h
theorem WO.ldf0 (hx : ev T x = .c (.iptr fl (cl fl L) (q * r))) (hk : Enc.k α = r) (hj : 0 < r) (hL : L[q]? = some u) (hc : (imL fl (Enc.d u))[0]? = some c) (h : Nx Γ os (upd T d (.c c)) H H n R) : WO Γ (⟨ix, some d, none, .load x 1 false⟩ :: os) ⟨T, H, n⟩ R :=
  WO.ld (v := .c c) (by rw [hx, ld_clf0 H fl L hL hk hj, hc]; rfl) h
end
theorem WO.sto {w : C} (hx : ev T x = .c (.ptr e [] off)) (hv : ev T y = .c w) (hH : H e = some xs) (hl : lies w = true) (hb : off < xs.length) (h : Nx Γ os T H (upd H e (some (xs.set off w))) n R) : WO Γ (⟨ix, none, none, .store x y 1⟩ :: os) ⟨T, H, n⟩ R :=
  WO.st (H' := upd H e (some (xs.set off w))) (by rw [hx, hv]; simp [storeV, cellsV, hl, turnN, hH, turn, wr_one hb]) h
theorem WO.stol {w : C} (hx : ev T x = .c (.ptr e [] off)) (hv : ev T y = .c w) (hH : H e = some xs) (hl : lies w = true) (hb : off < xs.length) (hs : xs.set off w = ys) (h : Nx Γ os T H (upd H e (some ys)) n R) : WO Γ (⟨ix, none, none, .store x y 1⟩ :: os) ⟨T, H, n⟩ R := by
  subst hs
  exact .sto hx hv hH hl hb h
theorem WO.stoa (hx : ev T x = .c (.ptr e [] 0)) (hv : ev T y = .agg ys) (hH : H e = some xs) (hl : ys.all lies = true) (hs : ys.length = s) (hb : xs.length = s) (h : Nx Γ os T H (upd H e (some ys)) n R) : WO Γ (⟨ix, none, none, .store x y s⟩ :: os) ⟨T, H, n⟩ R :=
  WO.st (H' := upd H e (some ys)) (by rw [hx, hv]; simp [storeV, cellsV, hl, hs, turnN, hH, turn, wr, hb]; rw [List.drop_eq_nil_of_le (by omega), List.append_nil]) h
theorem WO.stl1 {w a0 : C} (hx : ev T x = .c (.ptr e [] off)) (hv : ev T y = .c w) (hH : H e = some xs) (hl : lies w = true) (hb : Nat.blt off xs.length = true) (hs : xs.set off w = [a0]) (h : Nx Γ os T H (upd H e (some [a0])) n R) : WO Γ (⟨ix, none, none, .store x y 1⟩ :: os) ⟨T, H, n⟩ R := .stol hx hv hH hl (Nat.le_of_ble_eq_true hb) hs h
theorem WO.stl2 {w a0 a1 : C} (hx : ev T x = .c (.ptr e [] off)) (hv : ev T y = .c w) (hH : H e = some xs) (hl : lies w = true) (hb : Nat.blt off xs.length = true) (hs : xs.set off w = [a0, a1]) (h : Nx Γ os T H (upd H e (some [a0, a1])) n R) : WO Γ (⟨ix, none, none, .store x y 1⟩ :: os) ⟨T, H, n⟩ R := .stol hx hv hH hl (Nat.le_of_ble_eq_true hb) hs h
theorem WO.stl3 {w a0 a1 a2 : C} (hx : ev T x = .c (.ptr e [] off)) (hv : ev T y = .c w) (hH : H e = some xs) (hl : lies w = true) (hb : Nat.blt off xs.length = true) (hs : xs.set off w = [a0, a1, a2]) (h : Nx Γ os T H (upd H e (some [a0, a1, a2])) n R) : WO Γ (⟨ix, none, none, .store x y 1⟩ :: os) ⟨T, H, n⟩ R := .stol hx hv hH hl (Nat.le_of_ble_eq_true hb) hs h
theorem WO.stl4 {w a0 a1 a2 a3 : C} (hx : ev T x = .c (.ptr e [] off)) (hv : ev T y = .c w) (hH : H e = some xs) (hl : lies w = true) (hb : Nat.blt off xs.length = true) (hs : xs.set off w = [a0, a1, a2, a3]) (h : Nx Γ os T H (upd H e (some [a0, a1, a2, a3])) n R) : WO Γ (⟨ix, none, none, .store x y 1⟩ :: os) ⟨T, H, n⟩ R := .stol hx hv hH hl (Nat.le_of_ble_eq_true hb) hs h
theorem WO.stl5 {w a0 a1 a2 a3 a4 : C} (hx : ev T x = .c (.ptr e [] off)) (hv : ev T y = .c w) (hH : H e = some xs) (hl : lies w = true) (hb : Nat.blt off xs.length = true) (hs : xs.set off w = [a0, a1, a2, a3, a4]) (h : Nx Γ os T H (upd H e (some [a0, a1, a2, a3, a4])) n R) : WO Γ (⟨ix, none, none, .store x y 1⟩ :: os) ⟨T, H, n⟩ R := .stol hx hv hH hl (Nat.le_of_ble_eq_true hb) hs h
theorem WO.bu1 {zero : List C} {ps : List (Nat × Nat × Opd)} {a0 : C} (hf : fillC T zero ps = some [a0]) (h : Nx Γ os (upd T d (.agg [a0])) H H n R) : WO Γ (⟨ix, some d, none, .build zero ps⟩ :: os) ⟨T, H, n⟩ R := .build hf h
theorem WO.bu2 {zero : List C} {ps : List (Nat × Nat × Opd)} {a0 a1 : C} (hf : fillC T zero ps = some [a0, a1]) (h : Nx Γ os (upd T d (.agg [a0, a1])) H H n R) : WO Γ (⟨ix, some d, none, .build zero ps⟩ :: os) ⟨T, H, n⟩ R := .build hf h
theorem WO.bu3 {zero : List C} {ps : List (Nat × Nat × Opd)} {a0 a1 a2 : C} (hf : fillC T zero ps = some [a0, a1, a2]) (h : Nx Γ os (upd T d (.agg [a0, a1, a2])) H H n R) : WO Γ (⟨ix, some d, none, .build zero ps⟩ :: os) ⟨T, H, n⟩ R := .build hf h
theorem WO.bu4 {zero : List C} {ps : List (Nat × Nat × Opd)} {a0 a1 a2 a3 : C} (hf : fillC T zero ps = some [a0, a1, a2, a3]) (h : Nx Γ os (upd T d (.agg [a0, a1, a2, a3])) H H n R) : WO Γ (⟨ix, some d, none, .build zero ps⟩ :: os) ⟨T, H, n⟩ R := .build hf h
theorem WO.bu5 {zero : List C} {ps : List (Nat × Nat × Opd)} {a0 a1 a2 a3 a4 : C} (hf : fillC T zero ps = some [a0, a1, a2, a3, a4]) (h : Nx Γ os (upd T d (.agg [a0, a1, a2, a3, a4])) H H n R) : WO Γ (⟨ix, some d, none, .build zero ps⟩ :: os) ⟨T, H, n⟩ R := .build hf h
theorem WO.boxa (hx : ev T x = .agg xs) (hl : xs.all lies = true) (h : Nx Γ os (upd T d (.c (.ptr (n, ix, 0, 0) [] 0))) H (upd H (n, ix, 0, 0) (some xs)) n R) : WO Γ (⟨ix, some d, none, .box x⟩ :: os) ⟨T, H, n⟩ R :=
  WO.bx (by rw [hx]; rfl) hl h
theorem WO.boxc (hx : ev T x = .c a) (hl : lies a = true) (h : Nx Γ os (upd T d (.c (.ptr (n, ix, 0, 0) [] 0))) H (upd H (n, ix, 0, 0) (some [a])) n R) : WO Γ (⟨ix, some d, none, .box x⟩ :: os) ⟨T, H, n⟩ R :=
  WO.bx (by rw [hx]; rfl) (by simpa using hl) h

/-! ### calls -/

inductive LA (H : Heap) (T : Nat → V) : List (Mode × Opd) → List V → Prop
  | nil : LA H T [] []
  | cons {x u as us} (h : Lend H (ev T x) u) (h' : LA H T as us) : LA H T ((.im, x) :: as) (u :: us)

theorem LA.lends {as : List (Mode × Opd)} {us : List V} (h : LA H T as us) : Lends H (args2 T as) us := by
  induction h with
  | nil => rfl
  | cons h _ ih => exact ⟨_, _, rfl, h, ih⟩
theorem LA.int {as : List (Mode × Opd)} {us : List V} (hx : ev T x = .c (.int k i)) (h : LA H T as us) : LA H T ((.im, x) :: as) (.c (.int k i) :: us) := .cons (by rw [hx]; exact Lend.int) h
theorem LA.bool {as : List (Mode × Opd)} {us : List V} {t : Bool} (hx : ev T x = .c (.bool t)) (h : LA H T as us) : LA H T ((.im, x) :: as) (.c (.bool t) :: us) := .cons (by rw [hx]; exact Lend.bool) h
theorem LA.imm {as : List (Mode × Opd)} {us : List V} (hx : ev T x = .c (.imm fl sz m xs)) (h : LA H T as us) : LA H T ((.im, x) :: as) (.c (.imm fl sz m xs) :: us) := .cons (by rw [hx]; exact Lend.imm) h
theorem LA.agg {as : List (Mode × Opd)} {us : List V} {ds : List D} (hx : ev T x = .agg (imL fl ds)) (h : LA H T as us) : LA H T ((.im, x) :: as) (.agg (imL fl ds) :: us) := .cons (by rw [hx]; exact Lend.agg ds) h
theorem LA.nilS {as : List (Mode × Opd)} {us : List V} (hx : ev T x = .c .nils) (h : LA H T as us) : LA H T ((.im, x) :: as) (.c (.imm fl sz 0 []) :: us) := .cons (by rw [hx]; exact Lend.nils) h
theorem LA.ev {as : List (Mode × Opd)} {us : List V} {α : Type} {_ : Enc α} {L : List α} (hx : Go.Proofs.Ytgodaiiegcdpcaa.Abs.ev T x = .c (.ref e [] sz 0 m)) (hk : Enc.k α = sz) (hm : L.length = m) (hH : H e = some (co L)) (h : LA H T as us) : LA H T ((.im, x) :: as) (.c (.imm true sz m (cl true L)) :: us) := by
  subst hk hm
  exact .cons (by rw [hx]; exact Lend.ev hH) h
theorem LA.own {as : List (Mode × Opd)} {us : List V} {es : List Id} {dd dd' : D} (hx : Go.Proofs.Ytgodaiiegcdpcaa.Abs.ev T x = .c a) (ho : Own H es a dd) (he : er dd dd') (h : LA H T as us) : LA H T ((.im, x) :: as) (.c (dd'.im true) :: us) := .cons (by rw [hx]; exact Lend.own ho he) h
theorem LA.owns {as : List (Mode × Opd)} {us : List V} {es : List Id} {dd dd' : List D} (hx : Go.Proofs.Ytgodaiiegcdpcaa.Abs.ev T x = .agg xs) (ho : Owns H es xs dd) (he : erL dd dd') (h : LA H T as us) : LA H T ((.im, x) :: as) (.agg (imL true dd') :: us) := .cons (by rw [hx]; exact Lend.owns ho he) h

variable {f : FuncId} {as : List (Mode × Opd)} {us : List V}

theorem WO.cim {v v' : V} (hf : Runs Γ (.fn f us [] v [])) (hl : LA H T as us) (hv : bringV (n, ix, 0) H v = (v', H')) (h : Nx Γ os (upd T d v') H H' n R) : WO Γ (⟨ix, some d, none, .call f as⟩ :: os) ⟨T, H, n⟩ R :=
  (CallW.im hf hl.lends hv h).go as rfl
theorem WO.cb {t : Bool} (hf : Runs Γ (.fn f us [] (.c (.bool t)) [])) (hl : LA H T as us) (h : Nx Γ os (upd T d (.c (.bool t))) H H n R) : WO Γ (⟨ix, some d, none, .call f as⟩ :: os) ⟨T, H, n⟩ R := .cim hf hl rfl h
theorem WO.ci (hf : Runs Γ (.fn f us [] (.c (.int k i)) [])) (hl : LA H T as us) (h : Nx Γ os (upd T d (.c (.int k i))) H H n R) : WO Γ (⟨ix, some d, none, .call f as⟩ :: os) ⟨T, H, n⟩ R := .cim hf hl rfl h
theorem WO.cr {α : Type} {_ : Enc α} {L : List α} (hf : Runs Γ (.fn f us [] (.c (rS L).ow) [])) (hl : LA H T as us) (h : Nx Γ os (upd T d (.c (.ref (n, ix, 0, 0) [] (Enc.k α) 0 L.length))) H (upd H (n, ix, 0, 0) (some (co L))) n R) :
    WO Γ (⟨ix, some d, none, .call f as⟩ :: os) ⟨T, H, n⟩ R := .cim hf hl rfl h

/-! ### guards -/

theorem WO.on1 {t : Nat} {w : Bool} {op : AOp} {dd : Option Nat} (ht : T t = .c (.bool w)) (h : WO Γ (⟨ix, dd, none, op⟩ :: os) ⟨T, H, n⟩ R) : WO Γ (⟨ix, dd, some (t, w), op⟩ :: os) ⟨T, H, n⟩ R := by
  obtain ⟨hs, s', h1, h2⟩ := h
  cases h1 with
  | off hg _ => obtain ⟨_, _, hg, _⟩ := hg; cases hg
  | one hg h1 h3 => exact ⟨_, _, .one (.inr ⟨_, _, rfl, ht⟩) (by cases op <;> exact h1) h3, h2⟩
  | call ho hg hr hm hp hf hb hv h3 => exact ⟨_, _, .call ho (.inr ⟨_, _, rfl, ht⟩) hr hm hp hf hb hv h3, h2⟩
  | icall ho hg hf ha h3 hx hr hv h4 => exact ⟨_, _, .icall ho (.inr ⟨_, _, rfl, ht⟩) hf ha h3 hx hr hv h4, h2⟩
theorem WO.g {t : Nat} {w u : Bool} {op : AOp} (ht : T t = .c (.bool u)) (hy : u = w → WO Γ (⟨ix, some d, none, op⟩ :: os) ⟨T, H, n⟩ R) (hn : u ≠ w → Nx Γ os (upd T d (.tup [])) H H n R) : WO Γ (⟨ix, some d, some (t, w), op⟩ :: os) ⟨T, H, n⟩ R := by
  by_cases hu : u = w
  · subst hu
    exact WO.on1 ht (hy rfl)
  · exact WO.off ⟨_, _, rfl, .inl ⟨u, ht, hu⟩⟩ (hn hu)
/-- Left out because its guard is. -/
theorem WO.gD {t : Nat} {w : Bool} {op : AOp} (ht : T t = .tup []) (hn : Nx Γ os (upd T d (.tup [])) H H n R) : WO Γ (⟨ix, some d, some (t, w), op⟩ :: os) ⟨T, H, n⟩ R := WO.off ⟨_, _, rfl, .inr ht⟩ hn
theorem WO.gT {t : Nat} {w : Bool} {op : AOp} (ht : T t = .c (.bool w)) (hy : WO Γ (⟨ix, some d, none, op⟩ :: os) ⟨T, H, n⟩ R) : WO Γ (⟨ix, some d, some (t, w), op⟩ :: os) ⟨T, H, n⟩ R := WO.g ht (fun _ => hy) (fun h => absurd rfl h)
theorem WO.gF {t : Nat} {w u : Bool} {op : AOp} (ht : T t = .c (.bool u)) (hu : u = !w) (hn : Nx Γ os (upd T d (.tup [])) H H n R) : WO Γ (⟨ix, some d, some (t, w), op⟩ :: os) ⟨T, H, n⟩ R := by
  refine WO.g ht (fun h => ?_) (fun _ => hn)
  subst h
  cases u <;> cases hu
/-- A guard that is not known: both ways. -/
theorem WO.gs {t : Nat} {w u : Bool} {op : AOp} (ht : T t = .c (.bool u)) (hn : u = !w → Nx Γ os (upd (upd T t (.c (.bool (!w)))) d (.tup [])) H H n R) (hy : u = w → WO Γ (⟨ix, some d, none, op⟩ :: os) ⟨upd T t (.c (.bool w)), H, n⟩ R) : WO Γ (⟨ix, some d, some (t, w), op⟩ :: os) ⟨T, H, n⟩ R := by
  refine WO.g ht (fun hu => ?_) (fun hu => ?_)
  · subst hu
    rw [← upd_id' ht]
    exact hy rfl
  · have hu' : u = !w := by cases u <;> cases w <;> simp_all
    have := hn hu'
    rw [← hu', upd_id' ht] at this
    exact this
/-- A call that answers a struct of numbers. -/
theorem WO.cs {f : FuncId} {as : List (Mode × Opd)} {us : List V} (hf : Runs Γ (.fn f us [] (.agg xs) [])) (hl : LA H T as us) (hp : xs.all flatC = true) (h : Nx Γ os (upd T d (.agg xs)) H H n R) : WO Γ (⟨ix, some d, none, .call f as⟩ :: os) ⟨T, H, n⟩ R := by
  have hb : ∀ (xs : List C) (k : Nat), xs.all flatC = true → bring (n, ix, 0) k H xs = (xs, H) := by
    intro xs
    induction xs with
    | nil => intros; rfl
    | cons c cs ih =>
      intro k hp
      simp only [List.all_cons, Bool.and_eq_true] at hp
      cases c <;> first
        | (simp only [bring, ih _ hp.2]; done)
        | cases hp.1
  exact .cim hf hl (by simp only [bringV, bringT, hb xs _ hp, List.headD_cons]) h
end

section
variable {Γ : FuncId → Option AFn} {s : St} {Q : AEx → St → Prop} {a b : ACode} {os : List AOper} {T : Nat → V} {H : Heap} {n : Nat}
theorem W.if {x : Opd} {t : Bool} (hc : ev s.T x = .c (.bool t)) (hT : t = true → W Γ a s Q) (hF : t = false → W Γ b s Q) : W Γ (.cond x a b) s Q := by
  refine W.cond t hc ?_
  cases t with
  | true => exact hT rfl
  | false => exact hF rfl
theorem W.ifT {x : Opd} (hc : ev s.T x = .c (.bool true)) (hT : W Γ a s Q) : W Γ (.cond x a b) s Q := W.cond true hc hT
theorem W.ifF {x : Opd} (hc : ev s.T x = .c (.bool false)) (hF : W Γ b s Q) : W Γ (.cond x a b) s Q := W.cond false hc hF
/-- What must hold behind a region. -/
def endR (Q : AEx → St → Prop) : St → Prop
  | ⟨T, H, n⟩ => Q .normal ⟨T, H, n + 1⟩
theorem endR.mk (h : Q .normal ⟨T, H, n + 1⟩) : endR Q ⟨T, H, n⟩ := h
theorem WO.nil0 (h : Q .normal ⟨T, H, n + 1⟩) : WO Γ [] ⟨T, H, n⟩ (fun _ => endR Q) := WO.nil h
def endD (n0 : Nat) (Q : AEx → St → Prop) : St → Prop
  | ⟨T, H, n⟩ => n = n0 ∧ Q .normal ⟨T, H, n + 1⟩
theorem WO.nilD (h : Q .normal ⟨T, H, n + 1⟩) : WO Γ [] ⟨T, H, n⟩ (fun _ => endD n Q) := WO.nil ⟨rfl, h⟩
theorem W.dreg0 (h : WO Γ os ⟨T, H, n⟩ (fun _ => endD n Q)) : W Γ (.dreg os []) ⟨T, H, n⟩ Q := by
  refine W.dreg ?_
  obtain ⟨hs, ⟨T', H', n'⟩, h1, h0, h2⟩ := h
  exact ⟨hs, ⟨T', H', n'⟩, h1, h0, trivial, h2⟩
theorem W.reg0 (h : WO Γ os s (fun _ => endR Q)) : W Γ (.reg os) s Q := by
  refine W.reg ?_
  obtain ⟨hs, s', h1, h2⟩ := h
  exact ⟨hs, s', h1, h2⟩
end

theorem recheck.cons {os : List AOper} {hs : List Heap} {fin : St} {l k : Nat} {rest : List (Nat × Nat)} (h : recheck1 os hs fin l k) (h' : recheck os hs fin rest) : recheck os hs fin ((l, k) :: rest) := ⟨h, h'⟩
theorem recheck.nil {os : List AOper} {hs : List Heap} {fin : St} : recheck os hs fin [] := trivial
theorem recheck1.ld {os : List AOper} {hs : List Heap} {fin : St} {l k ix d s : Nat} {g : Option (Nat × Bool)} {x : Opd} {ag : Bool} {H : Heap} (ho : os[l]? = some ⟨ix, some d, g, .load x s ag⟩) (hH : (hs ++ [fin.H])[k]? = some H)
    (h : loadV H (ev fin.T x) s ag = some (fin.T d)) : recheck1 os hs fin l k := ⟨_, H, ho, hH, .inr ⟨d, rfl, h⟩⟩
theorem recheck1.off {os : List AOper} {hs : List Heap} {fin : St} {l k ix d s t : Nat} {w b : Bool} {x : Opd} {ag : Bool} {H : Heap} (ho : os[l]? = some ⟨ix, some d, some (t, w), .load x s ag⟩) (hH : (hs ++ [fin.H])[k]? = some H)
    (h : fin.T t = .c (.bool b)) (hb : b ≠ w) : recheck1 os hs fin l k := ⟨_, H, ho, hH, .inl ⟨t, w, rfl, .inl ⟨b, h, hb⟩⟩⟩
theorem recheck1.offD {os : List AOper} {hs : List Heap} {fin : St} {l k ix d s t : Nat} {w : Bool} {x : Opd} {ag : Bool} {H : Heap} (ho : os[l]? = some ⟨ix, some d, some (t, w), .load x s ag⟩) (hH : (hs ++ [fin.H])[k]? = some H)
    (h : fin.T t = .tup []) : recheck1 os hs fin l k := ⟨_, H, ho, hH, .inl ⟨t, w, rfl, .inr h⟩⟩
theorem ld_all {H : Heap} {e : Id} {xs : List C} {s : Nat} (hH : H e = some xs) (hl : xs.length = s) (hp : xs.all plainC = true) : loadV H (.c (.ptr e [] 0)) s true = some (.agg xs) := by
  subst hl
  simp only [loadV, getN, hH, walk]
  rw [cut_get (by omega)]
  simp [looks_plain hp, mkV]
theorem ld_cell {H : Heap} {e : Id} {xs : List C} {o : Nat} {c : C} (hH : H e = some xs) (hc : xs[o]? = some c) (hp : plainC c = true) : loadV H (.c (.ptr e [] o)) 1 false = some (.c c) := by
  rw [ld_ptr (xs := xs) (by simp only [getN, hH, walk]) hc, look_plain hp]

theorem dregQ.mk {os : List AOper} {chk : List (Nat × Nat)} {Q : AEx → St → Prop} {hs : List Heap} {T : Nat → V} {H : Heap} {n : Nat} (h : recheck os hs ⟨T, H, n⟩ chk) (h' : Q .normal ⟨T, H, n + 1⟩) : dregQ os chk n Q hs ⟨T, H, n⟩ := ⟨rfl, h, h'⟩
theorem recheck1.al {os : List AOper} {hs : List Heap} {fin : St} {l k : Nat} {o : AOper} {H H1 : Heap} (ho : os[l]? = some o) (hl : ∀ x s ag, o.o ≠ .load x s ag) (hH : (hs ++ [fin.H])[k]? = some H) (hH1 : (hs ++ [fin.H])[l + 1]? = some H1) (h : H (fin.n, o.ix, 0, 0) = H1 (fin.n, o.ix, 0, 0)) : recheck1 os hs fin l k := by
  refine ⟨o, H, ho, hH, ?_⟩
  obtain ⟨ix, d, g, op⟩ := o
  cases op <;> first
    | exact absurd rfl (hl _ _ _)
    | exact ⟨H1, hH1, h⟩
section
variable {H : Heap} {fl : Bool} {α : Type} {_ : Enc α} {L : List α} {q r s off : Nat} {u : α} {c : C}
theorem ld_c (hk : Enc.k α = s) (hL : L[q]? = some u) : loadV H (.c (.iptr fl (cl fl L) (q * s))) s true = some (.agg (imL fl (Enc.d u))) := ld_cl H fl L hL hk
theorem ld_f (hk : Enc.k α = r) (hj : off < r) (hL : L[q]? = some u) (hc : (imL fl (Enc.d u))[off]? = some c) : loadV H (.c (.iptr fl (cl fl L) (q * r + off))) 1 false = some (.c c) := by
  rw [ld_clf H fl L hL hk hj, hc]; rfl
theorem ld_f0 (hk : Enc.k α = r) (hj : 0 < r) (hL : L[q]? = some u) (hc : (imL fl (Enc.d u))[0]? = some c) : loadV H (.c (.iptr fl (cl fl L) (q * r))) 1 false = some (.c c) := by
  rw [ld_clf0 H fl L hL hk hj, hc]; rfl
theorem ld_i {xs : List C} (hc : xs[off]? = some c) : loadV H (.c (.iptr fl xs off)) 1 false = some (.c c) := ld_one hc
end

/-! ### what is known of the temporaries -/

def Ag : List (Nat × V) → (Nat → V) → Prop
  | [], _ => True
  | (t, v) :: l, T => T t = v ∧ Ag l T
def ups (T : Nat → V) : List (Nat × V) → Nat → V
  | [] => T
  | (t, v) :: l => upd (ups T l) t v
theorem upd_id {T : Nat → V} {t : Nat} {v : V} (h : T t = v) : upd T t v = T := by
  funext x
  unfold upd
  split
  · next hx => rw [hx, h]
  · rfl
theorem Ag.ups : ∀ {l : List (Nat × V)} {T : Nat → V}, Ag l T → Go.Proofs.Ytgodaiiegcdpcaa.Abs.ups T l = T
  | [], _, _ => rfl
  | (t, v) :: l, T, h => by simp only [Go.Proofs.Ytgodaiiegcdpcaa.Abs.ups, Ag.ups h.2, upd_id h.1]
theorem Ag.fix {l : List (Nat × V)} {T : Nat → V} (h : Ag l T) : ∃ T', T = Go.Proofs.Ytgodaiiegcdpcaa.Abs.ups T' l := ⟨T, h.ups.symm⟩
theorem Ag.nil {T : Nat → V} : Ag [] T := trivial
theorem Ag.cons {l : List (Nat × V)} {T : Nat → V} {t : Nat} {v : V} (h : T t = v) (h' : Ag l T) : Ag ((t, v) :: l) T := ⟨h, h'⟩

theorem wrap_nat {i : Nat} (h : i < 2 ^ 62) : IntKind.i64.wrap (((i : Nat) : Int) + 1) = ((i + 1 : Nat) : Int) := wrap_succ h

theorem wrap_c {i : Nat} (h : i < 2 ^ 62) : V.c (.int .i64 (IntKind.i64.wrap (((i : Nat) : Int) + 1))) = .c (.int .i64 ((i + 1 : Nat) : Int)) := by rw [wrap_nat h]

theorem not_t {b : Bool} (h : (!b) = true) : b = false := by cases b <;> simp_all
theorem not_f {b : Bool} (h : (!b) = false) : b = true := by cases b <;> simp_all

theorem ne_id {a b : Id} (h : a.1 ≠ b.1 ∨ a.2.1 ≠ b.2.1 ∨ a.2.2.1 ≠ b.2.2.1 ∨ a.2.2.2 ≠ b.2.2.2) : a ≠ b := by
  rintro rfl
  simp at h
theorem up_ne {H : Heap} {e e' : Id} {v w : Option (List C)} (hn : e ≠ e') (h : H e = w) : upd H e' v e = w := by rw [upd_ne _ _ hn, h]

theorem endQ.agg {P : V → Prop} {ex : AEx} {s : St} {t m : Nat} {e : Id} {xs : List C} (hx : ex = .normal ∨ ex = .ret) (ht : s.T t = .c (.ptr e [] 0)) (hH : s.H e = some xs) (hm : xs.length = m) (hs : xs.all Go.Proofs.Ytgodaiiegcdpcaa.Abs.sc = true) (hp : P (.agg xs)) : endQ [.cell t m true] P ex s := by
  have hpl : xs.all plainC = true := by
    rw [List.all_eq_true] at hs ⊢
    intro c hc
    have := hs c hc
    cases c <;> first | rfl | cases this
  refine ⟨hx, [.agg xs], [.agg xs], xs.length + 1, s.H, by simp only [resAll, resOne, ht, ld_all hH hm hpl], ?_, hp⟩
  simp only [takeT, takeU, takeL_flat hs (Nat.lt_succ_self _)]

end Go.Proofs.Ytgodaiiegcdpcaa.Abs
end
section
set_option linter.unusedVariables false
set_option linter.unusedSimpArgs false
namespace Go.Proofs.Ytgodaiiegcdpcaa.Abs

/-- Cells that are taken in: refs of whole events with all inline. -/
inductive AbT : Heap → List C → List D → Heap → Prop
  | nil {H} : AbT H [] [] H
  | int {H k n cs ds H'} (h : AbT H cs ds H') : AbT H (.int k n :: cs) (.int k n :: ds) H'
  | bool {H b cs ds H'} (h : AbT H cs ds H') : AbT H (.bool b :: cs) (.bool b :: ds) H'
  | str {H b cs ds H'} (h : AbT H cs ds H') : AbT H (.str b :: cs) (.str b :: ds) H'
  | nils {H cs ds H'} (h : AbT H cs ds H') : AbT H (.nils :: cs) (.nil :: ds) H'
  | ref {H e sz n xs cs ds H'} (hH : H e = some (owL xs)) (hl : xs.length = n * sz) (h : AbT (upd H e none) cs ds H') : AbT H (.ref e [] sz 0 n :: cs) (.row sz n xs :: ds) H'

theorem AbT.row {α : Type} {_ : Enc α} {H H' : Heap} {e : Id} {sz n : Nat} {L : List α} {cs : List C} {ds : List D} (hH : H e = some (co L)) (hk : Enc.k α = sz) (hn : L.length = n) (h : AbT (upd H e none) cs ds H') : AbT H (.ref e [] sz 0 n :: cs) (rS L :: ds) H' := by
  subst hk hn
  exact .ref hH (dlen L) h

theorem absorb_abt {H : Heap} {cs : List C} {ds : List D} {H' : Heap} (h : AbT H cs ds H') : absorb H cs = (owL ds, H') := by
  induction h with
  | nil => rfl
  | int _ ih => simp only [absorb, ih, owL, D.ow]
  | bool _ ih => simp only [absorb, ih, owL, D.ow]
  | str _ ih => simp only [absorb, ih, owL, D.ow]
  | nils _ ih => simp only [absorb, ih, owL, D.ow]
  | ref hH hl _ ih => simp only [absorb, hH, owL_len, hl, if_true, ih, owL, D.ow]

mutual
theorem Own.some {H : Heap} : ∀ {es : List Id} {c : C} {d : D}, Own H es c d → ∀ e ∈ es, H e ≠ none
  | _, _, _, .ow d, e, he => by simp at he
  | _, _, _, .inl h, e, he => Owns.some h e he
  | _, _, _, .ref hH hl hn h, e, he => by
    rcases List.mem_cons.1 he with rfl | he
    · rw [hH]; simp
    · exact Owns.some h e he
  | _, _, _, .part hH hc hv hn h, e, he => by
    rcases List.mem_cons.1 he with rfl | he
    · rw [hH]; simp
    · exact Owns.some h e he
theorem Owns.some {H : Heap} : ∀ {es : List Id} {cs : List C} {ds : List D}, Owns H es cs ds → ∀ e ∈ es, H e ≠ none
  | _, _, _, .nil, e, he => by simp at he
  | _, _, _, .cons h h' hd, e, he => by
    rcases List.mem_append.1 he with he | he
    · exact Own.some h e he
    · exact Owns.some h' e he
end

theorem Owns.con0 {H : Heap} {es : List Id} {cs : List C} {ds : List D} (c : C) (d : D) (hc : d.ow = c) (h : Owns H es cs ds) : Owns H es (c :: cs) (d :: ds) := by
  subst hc
  have := Owns.cons (Own.ow (H := H) d) h (by simp)
  rwa [List.nil_append] at this

theorem AbT.owns {H : Heap} {cs : List C} {ds : List D} {H' : Heap} (h : AbT H cs ds H') : ∃ es, Owns H es cs ds ∧ H' = less es H := by
  induction h with
  | nil => exact ⟨[], .nil, by rw [less_nil]⟩
  | @int H k n cs ds H' _ ih => obtain ⟨es, h1, h2⟩ := ih; exact ⟨es, h1.con0 _ (.int k n) rfl, h2⟩
  | @bool H b cs ds H' _ ih => obtain ⟨es, h1, h2⟩ := ih; exact ⟨es, h1.con0 _ (.bool b) rfl, h2⟩
  | @str H b cs ds H' _ ih => obtain ⟨es, h1, h2⟩ := ih; exact ⟨es, h1.con0 _ (.str b) rfl, h2⟩
  | @nils H cs ds H' _ ih => obtain ⟨es, h1, h2⟩ := ih; exact ⟨es, h1.con0 _ .nil rfl, h2⟩
  | @ref H e sz n xs cs ds H' hH hl _ ih =>
    obtain ⟨es, h1, h2⟩ := ih
    have hne : e ∉ es := fun he => h1.some e he (upd_same _ _ _)
    have h3 : Owns H es cs ds := h1.mono fun e' he' => (upd_ne _ _ (fun h4 : e' = e => hne (by rw [← h4]; exact he'))).symm
    refine ⟨[e] ++ es, .cons (.ref hH hl (by simp) (Owns.ow _ _)) h3 (by intro e' he'; simp only [List.mem_singleton] at he'; subst he'; exact hne), ?_⟩
    rw [h2, less_cons]
    rfl

theorem Lend.abt {H H' : Heap} {cs : List C} {ds : List D} (h : AbT H cs ds H') : Lend H (.agg cs) (.agg (imL true ds)) := by
  obtain ⟨es, h1, _⟩ := h.owns
  exact Lend.owns h1 (erL.refl ds)
theorem Lend.abtE {H H' : Heap} {cs : List C} {ds ds' : List D} (h : AbT H cs ds H') (he : erL ds ds') : Lend H (.agg cs) (.agg (imL true ds')) := by
  obtain ⟨es, h1, _⟩ := h.owns
  exact Lend.owns h1 he
theorem LA.abt {H H' : Heap} {T : Nat → V} {x : Opd} {cs : List C} {ds : List D} {as : List (Mode × Opd)} {us : List V} (hx : Go.Proofs.Ytgodaiiegcdpcaa.Abs.ev T x = .agg cs) (ha : AbT H cs ds H') (h : LA H T as us) : LA H T ((.im, x) :: as) (.agg (imL true ds) :: us) := .cons (by rw [hx]; exact Lend.abt ha) h

theorem endQ.abt {P : V → Prop} {ex : AEx} {s : St} {t m : Nat} {e : Id} {xs : List C} {ds : List D} {H' : Heap} (hx : ex = .normal ∨ ex = .ret) (ht : s.T t = .c (.ptr e [] 0)) (hH : s.H e = some xs) (hm : xs.length = m) (hp : xs.all plainC = true) (ha : AbT s.H xs ds H') (hP : P (.agg (owL ds))) : endQ [.cell t m true] P ex s := by
  obtain ⟨es, h1, h2⟩ := ha.owns
  refine ⟨hx, [.agg xs], [.agg (owL ds)], depL ds + 1, less es s.H, by simp only [resAll, resOne, ht, ld_all hH hm hp], ?_, hP⟩
  simp only [takeT, takeU, h1.take (depL ds + 1) (by omega)]
/-- A row that is answered. -/
theorem endQ.row {α : Type} {_ : Enc α} {P : V → Prop} {ex : AEx} {s : St} {t : Nat} {e : Id} {sz n : Nat} {L : List α} (hx : ex = .normal ∨ ex = .ret) (ht : s.T t = .c (.ref e [] sz 0 n)) (hk : Enc.k α = sz) (hn : L.length = n) (hH : s.H e = some (co L)) (hP : P (.c (rS L).ow)) : endQ [.tmp t] P ex s := by
  subst hk hn
  exact endQ.own hx ht (Own.ref hH (dlen L) (by simp) (Owns.ow _ _)) hP

/-- A row that may be none. -/
def RowC {α : Type} [Enc α] (H : Heap) (c : C) (L : List α) : Prop := (c = .nils ∧ L = []) ∨ ∃ e, c = .ref e [] (Enc.k α) 0 L.length ∧ H e = some (co L)

/-- Types of scalars alone. -/
class FlatE (α : Type) [Enc α] : Prop where
  flat : ∀ (fl : Bool) (a : α), imL fl (Enc.d a) = owL (Enc.d a)
instance : FlatE Int := ⟨fun _ _ => rfl⟩
theorem cl_co {α : Type} [Enc α] [FlatE α] (fl : Bool) (L : List α) : cl fl L = co L := by
  rw [imL_flat, owL_flat]
  congr 1
  funext a
  exact FlatE.flat fl a

section
variable {Γ : FuncId → Option AFn} {T : Nat → V} {H H' : Heap} {n ix d : Nat} {os : List AOper} {R : List Heap → St → Prop}
variable {x y : Opd} {e e2 : Id} {sz m bytes : Nat} {fl : Bool} {cells : List C}
variable {α : Type} {_ : Enc α} {L : List α} {a : α}

theorem all_lies_plain : ∀ {cs : List C} {H H' : Heap} {ds : List D}, AbT H cs ds H' → cs.all lies = true ∧ cs.all plainC = true
  | _, _, _, _, .nil => ⟨rfl, rfl⟩
  | _, _, _, _, .int h => by have := all_lies_plain h; exact ⟨by simpa [lies] using this.1, by simpa [plainC] using this.2⟩
  | _, _, _, _, .bool h => by have := all_lies_plain h; exact ⟨by simpa [lies] using this.1, by simpa [plainC] using this.2⟩
  | _, _, _, _, .str h => by have := all_lies_plain h; exact ⟨by simpa [lies] using this.1, by simpa [plainC] using this.2⟩
  | _, _, _, _, .nils h => by have := all_lies_plain h; exact ⟨by simpa [lies] using this.1, by simpa [plainC] using this.2⟩
  | _, _, _, _, .ref _ _ h => by have := all_lies_plain h; exact ⟨by simpa [lies] using this.1, by simpa [plainC] using this.2⟩

theorem AbT.len {cs : List C} {ds : List D} {H H' : Heap} (h : AbT H cs ds H') : cs.length = ds.length := by
  obtain ⟨es, h1, _⟩ := h.owns
  exact h1.len

theorem co_app (L : List α) (a : α) : co (L ++ [a]) = co L ++ owL (Enc.d a) := by
  simp only [co, List.flatMap_append, List.flatMap_cons, List.flatMap_nil, List.append_nil, owL_app]

/-- One more, behind a row. -/
theorem appV_one (hk : Enc.k α = sz) (hm : L.length = m) (hH : H e = some (co L)) (hb : (m + 1) * bytes ≤ 2 ^ 46) (hH2 : H e2 = some cells) (hab : AbT (upd H e none) cells (Enc.d a) H') (id : Id) :
    appV H id sz bytes (.c (.ref e [] sz 0 m)) (.c (.ref e2 [] sz 0 1)) = some (.c (.ref id [] sz 0 (m + 1)), upd H' id (some (co (L ++ [a])))) := by
  subst hk hm
  obtain ⟨h1, h2⟩ := all_lies_plain hab
  have hlen : cells.length = Enc.k α := by rw [hab.len, Enc.len]
  have hs : srcCells H (Enc.k α) (.c (.ref e2 [] (Enc.k α) 0 1)) = some (1, cells) := by
    simp only [srcCells, if_true, getN, hH2, walk]
    rw [cut_get (by omega), List.drop_zero, List.take_of_length_le (by omega)]
    simp only [looks_plain h2]
  have hc : cut 0 (L.length * Enc.k α) (co L) = some (co L) := by rw [cut_get (by rw [co_len]; omega), List.drop_zero, List.take_of_length_le (by rw [co_len]; omega)]
  simp only [appV, hs, h1, if_true]
  rw [if_pos ⟨trivial, hb⟩]
  simp only [getN, hH, walk, hc, kill, absorb_abt hab, co_app]
theorem appV_first (hk : Enc.k α = sz) (hb : bytes ≤ 2 ^ 46) (hH2 : H e2 = some cells) (hab : AbT H cells (Enc.d a) H') (id : Id) :
    appV H id sz bytes (.c .nils) (.c (.ref e2 [] sz 0 1)) = some (.c (.ref id [] sz 0 1), upd H' id (some (co [a]))) := by
  subst hk
  obtain ⟨h1, h2⟩ := all_lies_plain hab
  have hlen : cells.length = Enc.k α := by rw [hab.len, Enc.len]
  have hs : srcCells H (Enc.k α) (.c (.ref e2 [] (Enc.k α) 0 1)) = some (1, cells) := by
    simp only [srcCells, if_true, getN, hH2, walk]
    rw [cut_get (by omega), List.drop_zero, List.take_of_length_le (by omega)]
    simp only [looks_plain h2]
  have e0 : co [a] = owL (Enc.d a) := by simp [co]
  simp only [appV, hs, h1, if_true]
  rw [if_neg (by decide), if_pos (by omega)]
  simp only [absorb_abt hab, e0]

theorem WO.ap1r (a : α) (hx : ev T x = .c (.ref e [] sz 0 m)) (hH : H e = some (co L)) (hk : Enc.k α = sz) (hm : L.length = m) (hb : (m + 1) * bytes ≤ 2 ^ 46) (hy : ev T y = .c (.ref e2 [] sz 0 1)) (hH2 : H e2 = some cells) (hab : AbT (upd H e none) cells (Enc.d a) H')
    (h : Nx Γ os (upd T d (.c (.ref (n, ix, 0, 0) [] sz 0 (m + 1)))) H (upd H' (n, ix, 0, 0) (some (co (L ++ [a])))) n R) : WO Γ (⟨ix, some d, none, .app sz bytes x y⟩ :: os) ⟨T, H, n⟩ R :=
  WO.ap (by rw [hx, hy]; exact appV_one hk hm hH hb hH2 hab _) h
theorem WO.ap1n (a : α) (hx : ev T x = .c .nils) (hk : Enc.k α = sz) (hb : bytes ≤ 2 ^ 46) (hy : ev T y = .c (.ref e2 [] sz 0 1)) (hH2 : H e2 = some cells) (hab : AbT H cells (Enc.d a) H')
    (h : Nx Γ os (upd T d (.c (.ref (n, ix, 0, 0) [] sz 0 1))) H (upd H' (n, ix, 0, 0) (some (co [a]))) n R) : WO Γ (⟨ix, some d, none, .app sz bytes x y⟩ :: os) ⟨T, H, n⟩ R :=
  WO.ap (by rw [hx, hy]; exact appV_first hk hb hH2 hab _) h

theorem absorb_flat : ∀ {cs : List C} {H : Heap}, cs.all sc = true → absorb H cs = (cs, H)
  | [], _, _ => rfl
  | c :: cs, H, h => by
    simp only [List.all_cons, Bool.and_eq_true] at h
    have ih := absorb_flat (H := H) h.2
    cases c <;> first
      | (simp only [absorb, ih]; done)
      | cases h.1

theorem co_sc [FlatE α] (L : List α) : (co L).all sc = true := by
  have key : ∀ ds : List D, imL true ds = owL ds → (owL ds).all sc = true := by
    intro ds
    induction ds with
    | nil => intro _; rfl
    | cons d ds ih =>
      intro h
      simp only [imL, owL, List.cons.injEq] at h
      simp only [owL, List.all_cons, ih h.2, Bool.and_true]
      cases d <;> first
        | rfl
        | (simp only [D.im, D.ow] at h; cases h.1)
  exact key _ (cl_co true L)
theorem sc_lies : ∀ {cs : List C}, cs.all sc = true → cs.all lies = true
  | [], _ => rfl
  | c :: cs, h => by
    simp only [List.all_cons, Bool.and_eq_true] at h ⊢
    refine ⟨?_, sc_lies h.2⟩
    cases c <;> first
      | rfl
      | (rename_i fl _ _ _; cases fl <;> first | rfl | cases h.1)
      | cases h.1

/-- A copy of a row of scalars that is lent. -/
theorem WO.apc (hx : ev T x = .c (.ref e [] sz 0 0)) (hH : H e = some []) (hy : ev T y = .c (.imm fl sz m (cl fl L))) (hk : Enc.k α = sz) (hm : L.length = m) (hb : m * bytes ≤ 2 ^ 46) (hf : FlatE α)
    (h : Nx Γ os (upd T d (.c (.ref (n, ix, 0, 0) [] sz 0 m))) H (upd (upd H e none) (n, ix, 0, 0) (some (co L))) n R) : WO Γ (⟨ix, some d, none, .app sz bytes x y⟩ :: os) ⟨T, H, n⟩ R := by
  subst hk hm
  refine WO.ap (v := .c (.ref (n, ix, 0, 0) [] (Enc.k α) 0 L.length)) ?_ h
  rw [hx, hy, cl_co fl L]
  simp only [appV, srcCells, if_true, sc_lies (co_sc L)]
  rw [if_pos ⟨trivial, by rw [Nat.zero_add]; exact hb⟩]
  have hc : cut 0 (0 * Enc.k α) ([] : List C) = some [] := by rw [Nat.zero_mul]; rfl
  simp only [getN, hH, walk, hc, kill, absorb_flat (co_sc L), Nat.zero_add, List.nil_append]
/-- .. that is owned. -/
theorem WO.apo (hx : ev T x = .c (.ref e [] sz 0 0)) (hH : H e = some []) (hy : ev T y = .c (.ref e2 [] sz 0 m)) (hH2 : H e2 = some (co L)) (hk : Enc.k α = sz) (hm : L.length = m) (hb : m * bytes ≤ 2 ^ 46) (hf : FlatE α)
    (h : Nx Γ os (upd T d (.c (.ref (n, ix, 0, 0) [] sz 0 m))) H (upd (upd H e none) (n, ix, 0, 0) (some (co L))) n R) : WO Γ (⟨ix, some d, none, .app sz bytes x y⟩ :: os) ⟨T, H, n⟩ R := by
  subst hk hm
  refine WO.ap (v := .c (.ref (n, ix, 0, 0) [] (Enc.k α) 0 L.length)) ?_ h
  have hpl : (co L).all plainC = true := by
    have := co_sc L
    rw [List.all_eq_true] at this ⊢
    intro c hc
    have := this c hc
    cases c <;> first | rfl | cases this
  have hc2 : cut 0 (L.length * Enc.k α) (co L) = some (co L) := by rw [cut_get (by rw [co_len]; omega), List.drop_zero, List.take_of_length_le (by rw [co_len]; omega)]
  rw [hx, hy]
  simp only [appV, srcCells, if_true, getN, hH2, walk, hc2, looks_plain hpl, sc_lies (co_sc L)]
  rw [if_pos ⟨trivial, by rw [Nat.zero_add]; exact hb⟩]
  have hc : cut 0 (0 * Enc.k α) ([] : List C) = some [] := by rw [Nat.zero_mul]; rfl
  simp only [hH, hc, kill, absorb_flat (co_sc L), Nat.zero_add, List.nil_append]

/-- A new row without anything. -/
theorem WO.bs0 {zero : List C} (hz : zero.length = sz) (hl : zero.all lies = true) (h : Nx Γ os (upd T d (.c (.ref (n, ix, 0, 0) [] sz 0 0))) H (upd H (n, ix, 0, 0) (some [])) n R) : WO Γ (⟨ix, some d, none, .bslice sz 0 zero []⟩ :: os) ⟨T, H, n⟩ R :=
  WO.bs (cs := []) ⟨by omega, hz, hl⟩ rfl h
/-- A new row of one. -/
theorem WO.bs1 {zero : List C} (hx : ev T x = .agg cells) (hs : cells.length = sz) (hz : zero.length = sz) (hb : 1 * sz ≤ 2 ^ 24) (hl : zero.all lies = true) (hc : cells.all lies = true) (h : Nx Γ os (upd T d (.c (.ref (n, ix, 0, 0) [] sz 0 1))) H (upd H (n, ix, 0, 0) (some cells)) n R) :
    WO Γ (⟨ix, some d, none, .bslice sz 1 zero [(0, sz, x)]⟩ :: os) ⟨T, H, n⟩ R :=
  WO.bs (cs := cells) ⟨hb, hz, hl⟩ (by
    simp only [fillC, hx, cellsV, hs, hc, and_self, if_true, wr]
    have h1 : (rep 1 zero).length = sz := by rw [rep_len]; omega
    rw [if_pos (by rw [h1]; omega)]
    simp [h1, List.drop_eq_nil_of_le]) h
theorem WO.bs1c {zero : List C} {c : C} (hx : ev T x = .c c) (hz : zero.length = 1) (hl : zero.all lies = true) (hc : lies c = true) (h : Nx Γ os (upd T d (.c (.ref (n, ix, 0, 0) [] 1 0 1))) H (upd H (n, ix, 0, 0) (some [c])) n R) :
    WO Γ (⟨ix, some d, none, .bslice 1 1 zero [(0, 1, x)]⟩ :: os) ⟨T, H, n⟩ R :=
  WO.bs (cs := [c]) ⟨by omega, hz, hl⟩ (by
    obtain ⟨z, rfl⟩ : ∃ z, zero = [z] := by
      match zero, hz with
      | [z], _ => exact ⟨z, rfl⟩
    simp [fillC, hx, cellsV, hc, wr, rep]) h
theorem rep_co (l : Nat) : rep l [.int .i64 0] = co (List.replicate l (0 : Int)) := by
  induction l with
  | zero => rfl
  | succ l ih => rw [rep_succ, ih]; rfl
/-- A new row of noughts. -/
theorem WO.mki {l : Nat} (hx : ev T x = .c (.int .i64 (l : Nat))) (hy : ev T y = .c (.int .i64 (l : Nat))) (hb : l < 2 ^ 40) (h : Nx Γ os (upd T d (.c (.ref (n, ix, 0, 0) [] 1 0 l))) H (upd H (n, ix, 0, 0) (some (co (List.replicate l (0 : Int))))) n R) :
    WO Γ (⟨ix, some d, none, .mks 1 8 [.int .i64 0] x y⟩ :: os) ⟨T, H, n⟩ R :=
  WO.mks hx hy (by omega) (by omega) rfl rfl (by rw [rep_co]; exact h)
end
/-! ### what a call answers, laid into the frame -/

inductive Br (a b c : Nat) : Nat → Heap → List D → List C → Heap → Prop
  | nil {k H} : Br a b c k H [] [] H
  | int {k H kd n ds cs H'} (h : Br a b c (k + 1) H ds cs H') : Br a b c k H (.int kd n :: ds) (.int kd n :: cs) H'
  | bool {k H t ds cs H'} (h : Br a b c (k + 1) H ds cs H') : Br a b c k H (.bool t :: ds) (.bool t :: cs) H'
  | nils {k H ds cs H'} (h : Br a b c (k + 1) H ds cs H') : Br a b c k H (.nil :: ds) (.nils :: cs) H'
  | row {k H sz n xs ds cs H'} (h : Br a b c (k + 1) (upd H (a, b, c, k) (some (owL xs))) ds cs H') : Br a b c k H (.row sz n xs :: ds) (.ref (a, b, c, k) [] sz 0 n :: cs) H'

theorem Br.rs {a b c : Nat} {k : Nat} {α : Type} {_ : Enc α} {L : List α} {H H' : Heap} {ds : List D} {cs : List C} (h : Br a b c (k + 1) (upd H (a, b, c, k) (some (co L))) ds cs H') : Br a b c k H (rS L :: ds) (.ref (a, b, c, k) [] (Enc.k α) 0 L.length :: cs) H' := .row h

theorem Br.eq {a b c : Nat} {k : Nat} {H : Heap} {ds : List D} {cs : List C} {H' : Heap} (h : Br a b c k H ds cs H') : bring (a, b, c) k H (owL ds) = (cs, H') := by
  induction h with
  | nil => rfl
  | int _ ih => simp only [owL, D.ow, bring, ih]
  | bool _ ih => simp only [owL, D.ow, bring, ih]
  | nils _ ih => simp only [owL, D.ow, bring, ih]
  | row _ ih => simp only [owL, D.ow, bring, ih]

inductive BrT (a b c : Nat) : Nat → Heap → List V → List V → Heap → Prop
  | nil {k H} : BrT a b c k H [] [] H
  | int {k H kd n vs us H'} (h : BrT a b c (k + 1) H vs us H') : BrT a b c k H (.c (.int kd n) :: vs) (.c (.int kd n) :: us) H'
  | bool {k H t vs us H'} (h : BrT a b c (k + 1) H vs us H') : BrT a b c k H (.c (.bool t) :: vs) (.c (.bool t) :: us) H'
  | row {k H} {α : Type} [Enc α] {L : List α} {vs us H'} (h : BrT a b c (k + 1) (upd H (a, b, c, k) (some (co L))) vs us H') : BrT a b c k H (.c (rS L).ow :: vs) (.c (.ref (a, b, c, k) [] (Enc.k α) 0 L.length) :: us) H'
  | agg {k H ds cs H1 vs us H'} (hb : Br a b c k H ds cs H1) (h : BrT a b c (k + ds.length) H1 vs us H') : BrT a b c k H (.agg (owL ds) :: vs) (.agg cs :: us) H'

theorem BrT.eq {a b c : Nat} {k : Nat} {H : Heap} {vs us : List V} {H' : Heap} (h : BrT a b c k H vs us H') : bringT (a, b, c) k H vs = (us, H') := by
  induction h with
  | nil => rfl
  | int _ ih => simp only [bringT, bring, ih, List.headD_cons]
  | bool _ ih => simp only [bringT, bring, ih, List.headD_cons]
  | row _ ih => simp only [rS, D.ow, bringT, bring, List.headD_cons]; rw [show owL (List.flatMap Enc.d _) = co _ from rfl, ih]
  | agg hb _ ih => simp only [bringT, hb.eq, owL_len, ih]

section
variable {Γ : FuncId → Option AFn} {T : Nat → V} {H H' : Heap} {n ix d : Nat} {os : List AOper} {R : List Heap → St → Prop} {f : FuncId} {as : List (Mode × Opd)} {us : List V}
/-- A call that answers a struct. -/
theorem WO.ca {ds : List D} {cs : List C} (hf : Runs Γ (.fn f us [] (.agg (owL ds)) [])) (hl : LA H T as us) (hb : Br n ix 0 0 H ds cs H') (h : Nx Γ os (upd T d (.agg cs)) H H' n R) : WO Γ (⟨ix, some d, none, .call f as⟩ :: os) ⟨T, H, n⟩ R :=
  .cim hf hl (by simp only [bringV, bringT, hb.eq, List.headD_cons]) h
/-- A call with several answers. -/
theorem WO.ct {vs ws : List V} (hf : Runs Γ (.fn f us [] (.tup vs) [])) (hl : LA H T as us) (hb : BrT n ix 0 0 H vs ws H') (h : Nx Γ os (upd T d (.tup ws)) H H' n R) : WO Γ (⟨ix, some d, none, .call f as⟩ :: os) ⟨T, H, n⟩ R :=
  .cim hf hl (by simp only [bringV, hb.eq]) h
end
/-! ### rows whose parts are events of their own -/

theorem Owns.append {H : Heap} : ∀ {es es' : List Id} {xs ys : List C} {ds ds' : List D}, Owns H es xs ds → Owns H es' ys ds' → (∀ e ∈ es, e ∉ es') → Owns H (es ++ es') (xs ++ ys) (ds ++ ds')
  | _, _, _, _, _, _, .nil, h', _ => by simpa using h'
  | _, _, _, _, _, _, .cons (es := e1) (es' := e2) h h1 hd, h', hx => by
    have ih := h1.append h' fun e he => hx e (by simp [he])
    have := Owns.cons h ih fun e he hm => by
      rcases List.mem_append.1 hm with hm | hm
      · exact hd e he hm
      · exact hx e (by simp [he]) hm
    simpa using this

theorem endQ.owns {P : V → Prop} {ex : AEx} {s : St} {t m : Nat} {e : Id} {es : List Id} {xs : List C} {ds : List D} (hx : ex = .normal ∨ ex = .ret) (ht : s.T t = .c (.ptr e [] 0)) (hH : s.H e = some xs) (hm : xs.length = m) (hp : xs.all plainC = true) (ha : Owns s.H es xs ds) (hP : P (.agg (owL ds))) : endQ [.cell t m true] P ex s := by
  refine ⟨hx, [.agg xs], [.agg (owL ds)], depL ds + 1, less es s.H, by simp only [resAll, resOne, ht, ld_all hH hm hp], ?_, hP⟩
  simp only [takeT, takeU, ha.take (depL ds + 1) (by omega)]

section
variable {Γ : FuncId → Option AFn} {T : Nat → V} {H H' : Heap} {n ix d : Nat} {os : List AOper} {R : List Heap → St → Prop}
variable {x y : Opd} {e e2 : Id} {sz m bytes : Nat} {cells cells' xs : List C}

theorem WO.apg (hx : ev T x = .c (.ref e [] sz 0 m)) (hH : H e = some xs) (hm : xs.length = m * sz) (hb : (m + 1) * bytes ≤ 2 ^ 46) (hy : ev T y = .c (.ref e2 [] sz 0 1)) (hH2 : H e2 = some cells) (hl : cells.length = sz) (hp : cells.all plainC = true) (hli : cells.all lies = true)
    (hab : absorb (upd H e none) cells = (cells', H')) (h : Nx Γ os (upd T d (.c (.ref (n, ix, 0, 0) [] sz 0 (m + 1)))) H (upd H' (n, ix, 0, 0) (some (xs ++ cells'))) n R) : WO Γ (⟨ix, some d, none, .app sz bytes x y⟩ :: os) ⟨T, H, n⟩ R := by
  refine WO.ap (v := .c (.ref (n, ix, 0, 0) [] sz 0 (m + 1))) ?_ h
  have hs : srcCells H sz (.c (.ref e2 [] sz 0 1)) = some (1, cells) := by
    simp only [srcCells, if_true, getN, hH2, walk]
    rw [cut_get (by omega), List.drop_zero, List.take_of_length_le (by omega)]
    simp only [looks_plain hp]
  have hc : cut 0 (m * sz) xs = some xs := by rw [cut_get (by omega), List.drop_zero, List.take_of_length_le (by omega)]
  rw [hx, hy]
  simp only [appV, hs, hli, if_true]
  rw [if_pos ⟨trivial, hb⟩]
  simp only [getN, hH, walk, hc, kill, hab]
theorem WO.apgn (hx : ev T x = .c .nils) (hb : bytes ≤ 2 ^ 46) (hy : ev T y = .c (.ref e2 [] sz 0 1)) (hH2 : H e2 = some cells) (hl : cells.length = sz) (hp : cells.all plainC = true) (hli : cells.all lies = true)
    (hab : absorb H cells = (cells', H')) (h : Nx Γ os (upd T d (.c (.ref (n, ix, 0, 0) [] sz 0 1))) H (upd H' (n, ix, 0, 0) (some cells')) n R) : WO Γ (⟨ix, some d, none, .app sz bytes x y⟩ :: os) ⟨T, H, n⟩ R := by
  refine WO.ap (v := .c (.ref (n, ix, 0, 0) [] sz 0 1)) ?_ h
  have hs : srcCells H sz (.c (.ref e2 [] sz 0 1)) = some (1, cells) := by
    simp only [srcCells, if_true, getN, hH2, walk]
    rw [cut_get (by omega), List.drop_zero, List.take_of_length_le (by omega)]
    simp only [looks_plain hp]
  rw [hx, hy]
  simp only [appV, hs, hli, if_true]
  rw [if_neg (by decide), if_pos (by omega)]
  simp only [hab]
theorem absorb_ref {H : Heap} {e : Id} {sz n : Nat} {xs : List C} (hH : H e = some xs) (hl : xs.length = n * sz) : absorb H [.ref e [] sz 0 n] = ([.inl sz n xs], upd H e none) := by
  simp only [absorb, hH, hl, if_true]
end
section
variable {Γ : FuncId → Option AFn} {T : Nat → V} {H : Heap} {n ix : Nat} {os : List AOper} {R : List Heap → St → Prop} {x y : Opd} {e : Id}
/-- A number written into a row of numbers. -/
theorem WO.sti {L : List Int} {i : Nat} {v : Int} (hx : ev T x = .c (.ptr e [] (0 + i * 1))) (hv : ev T y = .c (.int .i64 v)) (hH : H e = some (co L)) (hi : i < L.length) (h : Nx Γ os T H (upd H e (some (co (L.set i v)))) n R) : WO Γ (⟨ix, none, none, .store x y 1⟩ :: os) ⟨T, H, n⟩ R :=
  WO.st (H' := upd H e (some (co (L.set i v)))) (by
    rw [hx, hv, show 0 + i * 1 = i by omega]
    simp only [storeV, cellsV, List.length_singleton, List.all_cons, List.all_nil, lies, Bool.and_self, and_self, if_true, turnN, hH, turn, wr_int hi]) h
end

/-! ### several answers -/

/-- What is answered, taken out of the frame one behind the other; the heap that is left. -/
inductive Ans (s : St) : Heap → List ARes → List V → Heap → Prop
  | nil {H} : Ans s H [] [] H
  | sc {H t c rs us H'} (ht : s.T t = .c c) (hc : sc c = true) (h : Ans s H rs us H') : Ans s H (.tmp t :: rs) (.c c :: us) H'
  | row {H t} {e : Id} {sz n : Nat} {α : Type} {_ : Enc α} {L : List α} {rs us H'} (ht : s.T t = .c (.ref e [] sz 0 n)) (hk : Enc.k α = sz) (hn : L.length = n) (hH : H e = some (co L)) (h : Ans s (upd H e none) rs us H') : Ans s H (.tmp t :: rs) (.c (rS L).ow :: us) H'
  | cell {H t m} {e : Id} {xs : List C} {ds : List D} {H1 rs us H'} (ht : s.T t = .c (.ptr e [] 0)) (hH : s.H e = some xs) (hm : xs.length = m) (hp : xs.all plainC = true) (ha : AbT H xs ds H1) (h : Ans s H1 rs us H') : Ans s H (.cell t m true :: rs) (.agg (owL ds) :: us) H'
  | cello {H t m} {e : Id} {xs : List C} {ds : List D} {es : List Id} {rs us H'} (ht : s.T t = .c (.ptr e [] 0)) (hH : s.H e = some xs) (hm : xs.length = m) (hp : xs.all plainC = true) (ha : Owns H es xs ds) (h : Ans s (less es H) rs us H') : Ans s H (.cell t m true :: rs) (.agg (owL ds) :: us) H'

theorem Ans.take {s : St} {H H' : Heap} {res : List ARes} {us : List V} (h : Ans s H res us H') : ∃ vs, resAll s res = some vs ∧ ∃ k0, ∀ k, k0 ≤ k → takeT k H vs = some (us, H') := by
  induction h with
  | nil => exact ⟨[], rfl, 0, fun k _ => rfl⟩
  | @sc H t c rs us H' ht hc h ih =>
    obtain ⟨vs, h1, k0, h2⟩ := ih
    refine ⟨.c c :: vs, by simp only [resAll, resOne, ht, h1], max k0 3, fun k hk => ?_⟩
    have h3 := h2 k (by omega)
    have h4 : takeL k H [c] = some ([c], H) := takeL_flat (by simp [hc]) (by simp; omega)
    cases c with
    | ptr e p o => cases hc
    | _ => simp only [takeT, takeU, h4, h3]
  | @row H t e sz n α _ L rs us H' ht hk hn hH h ih =>
    subst hk hn
    obtain ⟨vs, h1, k0, h2⟩ := ih
    have ho : Own H [e] (.ref e [] (Enc.k α) 0 L.length) (rS L) := Own.ref hH (dlen L) (by simp) (Owns.ow _ _)
    refine ⟨.c (.ref e [] (Enc.k α) 0 L.length) :: vs, by simp only [resAll, resOne, ht, h1], max k0 (depL [rS L] + 1), fun k hk => ?_⟩
    have h3 := h2 k (by omega)
    have h4 : takeL k H [.ref e [] (Enc.k α) 0 L.length] = some ([(rS L).ow], less [e] H) := by simpa [owL] using ho.one.take k (by omega)
    rw [← less_cons, less_nil] at h4
    simp only [takeT, takeU, h4, h3]
  | @cell H t m e xs ds H1 rs us H' ht hH hm hp ha h ih =>
    obtain ⟨vs, h1, k0, h2⟩ := ih
    obtain ⟨es, h5, h6⟩ := ha.owns
    refine ⟨.agg xs :: vs, by simp only [resAll, resOne, ht, ld_all hH hm hp, h1], max k0 (depL ds + 1), fun k hk => ?_⟩
    have h3 := h2 k (by omega)
    have h4 := h5.take k (by omega)
    rw [← h6] at h4
    simp only [takeT, takeU, h4, h3]
  | @cello H t m e xs ds es rs us H' ht hH hm hp ha h ih =>
    obtain ⟨vs, h1, k0, h2⟩ := ih
    refine ⟨.agg xs :: vs, by simp only [resAll, resOne, ht, ld_all hH hm hp, h1], max k0 (depL ds + 1), fun k hk => ?_⟩
    have h3 := h2 k (by omega)
    have h4 := ha.take k (by omega)
    simp only [takeT, takeU, h4, h3]

theorem endQ.many {res : List ARes} {P : V → Prop} {ex : AEx} {s : St} {us : List V} {H' : Heap} (hx : ex = .normal ∨ ex = .ret) (h : Ans s s.H res us H') (hP : P (pack us)) : endQ res P ex s := by
  obtain ⟨vs, h1, k0, h2⟩ := h.take
  exact ⟨hx, vs, us, k0, H', h1, h2 k0 (Nat.le_refl _), hP⟩

/-- How a function with one root ends. -/
structure endR1 (res : List ARes) (P : V → List D → Prop) (ex : AEx) (s : St) : Prop where
  ex : ex = .normal ∨ ex = .ret
  ans : ∃ us H1 xs ds es, Ans s s.H res us H1 ∧ H1 (0, 0, 0, 0) = some xs ∧ Owns (upd H1 (0, 0, 0, 0) none) es xs ds ∧ P (pack us) ds

theorem W.root {Γ : FuncId → Option AFn} {f : FuncId} {fn : AFn} {args : List V} {root : List C} {P : V → List D → Prop} (hf : Γ f = some fn) (ha : args.length = fn.np) (h : W Γ fn.body (start args [root]) (endR1 fn.res P)) :
    ∃ v ds, P v ds ∧ Runs Γ (.fn f args [root] v [owL ds]) := by
  obtain ⟨ex, s', h1, ⟨h2, us, H1, xs, ds, es, h3, h4, h5, h6⟩⟩ := h
  obtain ⟨vs, q1, k0, q2⟩ := h3.take
  have q3 := q2 (max k0 (depL ds + 1)) (by omega)
  have q4 := h5.take (max k0 (depL ds + 1)) (by omega)
  refine ⟨_, ds, h6, .fn hf ha h1 h2 q1 q3 (H2 := less es (upd H1 (0, 0, 0, 0) none)) ?_⟩
  simp only [List.length_singleton, takeBack, h4, q4]

end Go.Proofs.Ytgodaiiegcdpcaa.Abs
end
section
set_option linter.unusedVariables false
set_option linter.unusedSimpArgs false
namespace Go.Proofs.Ytgodaiiegcdpcaa.Abs

theorem walk_cons {xs ys zs : List C} {j sz n : Nat} {q : List Nat} (h : xs[j]? = some (.inl sz n ys)) (h' : walk q ys = some zs) : walk (j :: q) xs = some zs := by
  simp only [walk, h, h']
theorem getN_of {H : Heap} {e : Id} {p : List Nat} {xs ys : List C} (hH : H e = some xs) (h : walk p xs = some ys) : getN H e p = some ys := by simp only [getN, hH, h]
theorem getN_nil {H : Heap} {e : Id} {xs : List C} (hH : H e = some xs) : getN H e [] = some xs := getN_of hH rfl

section
variable {Γ : FuncId → Option AFn} {T : Nat → V} {H H' : Heap} {n ix d : Nat} {os : List AOper} {R : List Heap → St → Prop}
variable {x y : Opd} {e : Id} {p : List Nat} {off sz m s : Nat} {xs ys vs : List C} {c : C} {v : V}
/-- A row that lies in an owned place. -/
theorem WO.ldo (hx : ev T x = .c (.ptr e p off)) (hg : getN H e p = some xs) (hc : xs[off]? = some (.inl sz m ys)) (h : Nx Γ os (upd T d (.c (.ref e (p ++ [off]) sz 0 m))) H H n R) : WO Γ (⟨ix, some d, none, .load x 1 false⟩ :: os) ⟨T, H, n⟩ R :=
  WO.ld (v := .c (.ref e (p ++ [off]) sz 0 m)) (by rw [hx, ld_ptr hg hc]; rfl) h
theorem WO.ldpc (hx : ev T x = .c (.ptr e p off)) (hg : getN H e p = some xs) (hc : xs[off]? = some c) (hp : plainC c = true) (h : Nx Γ os (upd T d (.c c)) H H n R) : WO Γ (⟨ix, some d, none, .load x 1 false⟩ :: os) ⟨T, H, n⟩ R :=
  WO.ld (v := .c c) (by rw [hx, ld_ptr hg hc, look_plain hp]) h
/-- A store at a place. -/
theorem WO.stp (hx : ev T x = .c (.ptr e p off)) (hv : ev T y = .c c) (hl : lies c = true) (ht : turnN H e p (wr off [c]) = some H') (h : Nx Γ os T H H' n R) : WO Γ (⟨ix, none, none, .store x y 1⟩ :: os) ⟨T, H, n⟩ R :=
  WO.st (by rw [hx, hv]; simp [storeV, cellsV, hl, ht]) h
end

theorem turnN_of' {H : Heap} {e : Id} {p : List Nat} {f : List C → Option (List C)} {xs ys : List C} (hH : H e = some xs) (h : turn f p xs = some ys) : turnN H e p f = some (upd H e (some ys)) := by simp only [turnN, hH, h]

section
variable {Γ : FuncId → Option AFn} {T : Nat → V} {H H' : Heap} {n ix d : Nat} {os : List AOper} {R : List Heap → St → Prop}
variable {x y : Opd} {e e2 : Id} {q : List Nat} {j sz m bytes : Nat} {xs ys zs cells cells' : List C}
/-- A number of a row of numbers. -/
theorem WO.ldn {L : List Int} {i : Nat} {v : Int} (hx : ev T x = .c (.ptr e [] (0 + i * 1))) (hH : H e = some (co L)) (hL : L[i]? = some v) (h : Nx Γ os (upd T d (.c (.int .i64 v))) H H n R) : WO Γ (⟨ix, some d, none, .load x 1 false⟩ :: os) ⟨T, H, n⟩ R :=
  WO.ldpc hx (getN_nil hH) (by rw [show 0 + i * 1 = i * 1 + 0 by omega, co_get (k := 1) L hL rfl (by omega)]; rfl) rfl h
/-- One more, behind a row that lies in a place: it moves out. -/
theorem WO.apq (hx : ev T x = .c (.ref e (q ++ [j]) sz 0 m)) (hg : getN H e (q ++ [j]) = some xs) (hm : xs.length = m * sz) (hb : (m + 1) * bytes ≤ 2 ^ 46) (hy : ev T y = .c (.ref e2 [] sz 0 1)) (hH2 : H e2 = some cells) (hl : cells.length = sz) (hp : cells.all plainC = true) (hli : cells.all lies = true)
    {H1 : Heap} (hk : kill H e (q ++ [j]) = some H1) (hab : absorb H1 cells = (cells', H')) (h : Nx Γ os (upd T d (.c (.ref (n, ix, 0, 0) [] sz 0 (m + 1)))) H (upd H' (n, ix, 0, 0) (some (xs ++ cells'))) n R) : WO Γ (⟨ix, some d, none, .app sz bytes x y⟩ :: os) ⟨T, H, n⟩ R := by
  refine WO.ap (v := .c (.ref (n, ix, 0, 0) [] sz 0 (m + 1))) ?_ h
  have hs : srcCells H sz (.c (.ref e2 [] sz 0 1)) = some (1, cells) := by
    simp only [srcCells, if_true, getN, hH2, walk]
    rw [cut_get (by omega), List.drop_zero, List.take_of_length_le (by omega)]
    simp only [looks_plain hp]
  have hc : cut 0 (m * sz) xs = some xs := by rw [cut_get (by omega), List.drop_zero, List.take_of_length_le (by omega)]
  rw [hx, hy]
  simp only [appV, hs, hli, if_true]
  rw [if_pos ⟨trivial, hb⟩]
  simp only [hg, hc, hk, hab]
/-- What lay at a place is gone. -/
theorem kill_at (hH : H e = some xs) (ht : turn (fun xs => if j < xs.length then some (xs.set j .dead) else none) q xs = some ys) : kill H e (q ++ [j]) = some (upd H e (some ys)) := by
  have h1 : (q ++ [j]).dropLast = q := by simp
  have h2 : ∀ h, (q ++ [j]).getLast h = j := fun h => by simp
  cases hq : q ++ [j] with
  | nil => simp at hq
  | cons a as =>
    rw [hq] at h1
    have h3 : ∀ h, (a :: as).getLast h = j := fun h => by rw [← h2 (by simp)]; congr 1; exact hq.symm
    simp only [kill, h1, h3]
    exact turnN_of' hH ht
end

theorem turnN_of {H : Heap} {e : Id} {p : List Nat} {f : List C → Option (List C)} {xs ys : List C} (hH : H e = some xs) (h : turn f p xs = some ys) : turnN H e p f = some (upd H e (some ys)) := by simp only [turnN, hH, h]
theorem turn_cons {xs ys ys' : List C} {j sz n : Nat} {q : List Nat} {f : List C → Option (List C)} (h : xs[j]? = some (.inl sz n ys)) (h' : turn f q ys = some ys') : turn f (j :: q) xs = some (xs.set j (.inl sz n ys')) := by
  simp only [turn, h, h']

/-- One row of rows is turned into another, that lies elsewhere. -/
theorem owns_set {α : Type} [Enc α] {H : Heap} {L : List α} {i : Nat} {x' : α} {c : C} {d : D} {es : List Id} (hi : i < L.length) (hk : Enc.k α = 1) (hd : Enc.d x' = [d]) (ho : Own H es c d) : Owns H es ((co L).set i c) ((L.set i x').flatMap Enc.d) := by
  have h1 : co L = co (L.take i) ++ (owL (Enc.d L[i]) ++ co (L.drop (i + 1))) := by
    have : L = L.take i ++ (L[i] :: L.drop (i + 1)) := by rw [← List.drop_eq_getElem_cons hi, List.take_append_drop]
    conv => lhs; rw [this]
    simp only [co, List.flatMap_append, List.flatMap_cons, owL_app]
  have h2 : (co (L.take i)).length = i := by rw [co_len, hk, List.length_take]; omega
  have h3 : (owL (Enc.d L[i])).length = 1 := by rw [owL_len, Enc.len, hk]
  obtain ⟨z, hz⟩ : ∃ z, owL (Enc.d L[i]) = [z] := by
    match owL (Enc.d L[i]), h3 with
    | [z], _ => exact ⟨z, rfl⟩
  have h4 : (co L).set i c = co (L.take i) ++ (c :: co (L.drop (i + 1))) := by
    rw [h1, hz, List.set_append, if_neg (by omega), h2, Nat.sub_self]
    rfl
  have h5 : (L.set i x').flatMap Enc.d = (L.take i).flatMap Enc.d ++ (d :: (L.drop (i + 1)).flatMap Enc.d) := by
    rw [List.set_eq_take_append_cons_drop, if_pos hi, List.flatMap_append, List.flatMap_cons, hd]
    rfl
  rw [h4, h5]
  have h6 : Owns H (es ++ []) (c :: co (L.drop (i + 1))) (d :: (L.drop (i + 1)).flatMap Enc.d) := Owns.cons ho (Owns.ow H _) (by simp)
  rw [List.append_nil] at h6
  have := Owns.append (Owns.ow H ((L.take i).flatMap Enc.d)) h6 (by simp)
  simpa [co] using this

end Go.Proofs.Ytgodaiiegcdpcaa.Abs
end
section
set_option linter.unusedVariables false
set_option linter.unusedSimpArgs false
namespace Go.Proofs.Ytgodaiiegcdpcaa.Abs

theorem detach_at {H : Heap} {e : Id} {xs ys : List C} {j sz m : Nat} {i : Id} (hH : H e = some xs) (hj : xs[j]? = some (.inl sz m ys)) :
    detach H e [] j i = some (upd (upd H e (some (xs.set j (.ref i [] sz 0 m)))) i (some ys)) := by
  have hlt : j < xs.length := (List.getElem?_eq_some_iff.1 hj).1
  simp only [detach, getN_nil hH, hj, turnN, hH, turn, if_pos hlt]

section
variable {Γ : FuncId → Option AFn} {c : ACode} {T : Nat → V} {H : Heap} {n : Nat} {Q : AEx → St → Prop}
/-- A row that lies in an event becomes an event of its own. -/
theorem W.det0 {e : Id} {xs ys zs : List C} {j sz m : Nat} (hH : H e = some xs) (hj : xs[j]? = some (.inl sz m ys)) (hz : xs.set j (.ref (n, 0, 0, 0) [] sz 0 m) = zs)
    (h : W Γ c ⟨T, upd (upd H e (some zs)) (n, 0, 0, 0) (some ys), n + 1⟩ Q) : W Γ c ⟨T, H, n⟩ Q := by
  subst hz
  exact W.det e [] j (detach_at hH hj) h
end

/-! ### one element of a row -/

/-- A row of which one element's cells are told. -/
def seg {α : Type} [Enc α] (L : List α) (q : Nat) (xs : List C) : List C := co (L.take q) ++ (xs ++ co (L.drop (q + 1)))

section
variable {α : Type} [Enc α] {L : List α} {q r j : Nat} {xs : List C} {x : α}
theorem seg_pre (hk : Enc.k α = r) (hq : q < L.length) : (co (L.take q)).length = q * r := by
  rw [co_len, hk, List.length_take, Nat.min_eq_left (Nat.le_of_lt hq)]
theorem seg_co (hx : L[q]? = some x) : co L = seg L q (owL (Enc.d x)) := by
  obtain ⟨hlt, rfl⟩ := List.getElem?_eq_some_iff.1 hx
  have : L = L.take q ++ (L[q] :: L.drop (q + 1)) := by rw [← List.drop_eq_getElem_cons hlt, List.take_append_drop]
  conv => lhs; rw [this]
  simp only [seg, co, List.flatMap_append, List.flatMap_cons, owL_app]
theorem seg_get (hk : Enc.k α = r) (hq : q < L.length) (hl : xs.length = r) (hj : j < r) : (seg L q xs)[q * r + j]? = xs[j]? := by
  have h1 := seg_pre hk hq
  rw [seg, List.getElem?_append_right (by omega), h1, Nat.add_sub_cancel_left, List.getElem?_append_left (by omega)]
theorem seg_len (hk : Enc.k α = r) (hq : q < L.length) (hl : xs.length = r) : (seg L q xs).length = L.length * r := by
  have h1 := seg_pre hk hq
  have h2 : (co (L.drop (q + 1))).length = (L.length - (q + 1)) * r := by rw [co_len, hk, List.length_drop]
  rw [seg, List.length_append, List.length_append, h1, h2, hl]
  obtain ⟨d, hd⟩ : ∃ d, L.length = q + 1 + d := ⟨L.length - (q + 1), by omega⟩
  rw [hd, Nat.add_sub_cancel_left, Nat.add_mul, Nat.add_mul, Nat.one_mul]
  omega
theorem seg_set {c : C} (hk : Enc.k α = r) (hq : q < L.length) (hl : xs.length = r) (hj : j < r) : (seg L q xs).set (q * r + j) c = seg L q (xs.set j c) := by
  have h1 := seg_pre hk hq
  rw [seg, List.set_append, if_neg (by omega), h1, Nat.add_sub_cancel_left, List.set_append, if_pos (by omega), seg]
theorem seg_cut (hk : Enc.k α = r) (hq : q < L.length) (hl : xs.length = r) : cut (q * r) r (seg L q xs) = some xs := by
  have h1 := seg_pre hk hq
  have h2 := seg_len hk hq hl
  have h3 : (q + 1) * r ≤ L.length * r := Nat.mul_le_mul_right _ hq
  rw [Nat.add_mul, Nat.one_mul] at h3
  rw [cut_get (by omega), seg, List.drop_left' h1, List.take_left' hl]
theorem seg_wr {ys : List C} (hk : Enc.k α = r) (hq : q < L.length) (hl : xs.length = r) (hy : ys.length = r) : wr (q * r) ys (seg L q xs) = some (seg L q ys) := by
  have h1 := seg_pre hk hq
  have h2 := seg_len hk hq hl
  have h3 : (q + 1) * r ≤ L.length * r := Nat.mul_le_mul_right _ hq
  rw [Nat.add_mul, Nat.one_mul] at h3
  unfold wr
  rw [if_pos (by omega)]
  congr 1
  have e1 : (seg L q xs).take (q * r) = co (L.take q) := by rw [seg, List.take_left' h1]
  have e2 : (seg L q xs).drop (q * r + ys.length) = co (L.drop (q + 1)) := by
    rw [seg, ← List.append_assoc, List.drop_left' (by rw [List.length_append, h1, hl, hy])]
  rw [e1, e2, seg, List.append_assoc]
theorem seg_own {H : Heap} {es : List Id} {x' : α} (hq : q < L.length) (ho : Owns H es xs (Enc.d x')) : Owns H es (seg L q xs) ((L.set q x').flatMap Enc.d) := by
  have h5 : (L.set q x').flatMap Enc.d = (L.take q).flatMap Enc.d ++ (Enc.d x' ++ (L.drop (q + 1)).flatMap Enc.d) := by
    rw [List.set_eq_take_append_cons_drop, if_pos hq, List.flatMap_append, List.flatMap_cons]
  rw [h5, seg]
  have h6 := Owns.append ho (Owns.ow H ((L.drop (q + 1)).flatMap Enc.d)) (by simp)
  rw [List.append_nil] at h6
  have := Owns.append (Owns.ow H ((L.take q).flatMap Enc.d)) h6 (by simp)
  simpa [co] using this
/-- The same element as it was. -/
theorem seg_same {H : Heap} {es : List Id} (hx : L[q]? = some x) (ho : Owns H es xs (Enc.d x)) : Owns H es (seg L q xs) (L.flatMap Enc.d) := by
  have h := seg_own (L := L) (List.getElem?_eq_some_iff.1 hx).1 ho
  have e : L.set q x = L := by
    obtain ⟨hlt, rfl⟩ := List.getElem?_eq_some_iff.1 hx
    exact List.set_getElem_self hlt
  rwa [e] at h
end

section
variable {Γ : FuncId → Option AFn} {T : Nat → V} {H : Heap} {n ix d : Nat} {os : List AOper} {R : List Heap → St → Prop} {c : ACode} {Q : AEx → St → Prop}
variable {x y : Opd} {e : Id} {α : Type} {_ : Enc α} {L : List α} {q r j s sz m : Nat} {xs ys : List C} {a a0 a1 a2 a3 w : C}

theorem W.detS {e : Id} {zs : List C} (hH : H e = some (seg L q xs)) (hk : Enc.k α = r) (hq : q < L.length) (hl : xs.length = r) (hj : Nat.blt j r = true) (hc : xs[j]? = some (.inl sz m ys)) (hz : xs.set j (.ref (n, 0, 0, 0) [] sz 0 m) = zs)
    (h : W Γ c ⟨T, upd (upd H e (some (seg L q zs))) (n, 0, 0, 0) (some ys), n + 1⟩ Q) : W Γ c ⟨T, H, n⟩ Q := by
  subst hz
  have hj' := Nat.le_of_ble_eq_true hj
  exact W.det0 (j := q * r + j) hH (by rw [seg_get hk hq hl hj']; exact hc) (seg_set hk hq hl hj') h

theorem WO.ldS (hx : ev T x = .c (.ptr e [] (0 + q * r + j))) (hH : H e = some (seg L q xs)) (hk : Enc.k α = r) (hq : q < L.length) (hl : xs.length = r) (hj : Nat.blt j r = true) (hc : xs[j]? = some a) (hp : plainC a = true)
    (h : Nx Γ os (upd T d (.c a)) H H n R) : WO Γ (⟨ix, some d, none, .load x 1 false⟩ :: os) ⟨T, H, n⟩ R :=
  .ld1 hx hH (by rw [Nat.zero_add, seg_get hk hq hl (Nat.le_of_ble_eq_true hj)]; exact hc) hp h
theorem WO.ldS1 (hx : ev T x = .c (.ptr e [] (0 + q * 1))) (hH : H e = some (seg L q [a])) (hk : Enc.k α = 1) (hq : q < L.length) (hp : plainC a = true)
    (h : Nx Γ os (upd T d (.c a)) H H n R) : WO Γ (⟨ix, some d, none, .load x 1 false⟩ :: os) ⟨T, H, n⟩ R :=
  .ld1 hx hH (by have := seg_get (j := 0) hk hq (xs := [a]) rfl (by omega); rw [Nat.zero_add]; exact this) hp h
theorem WO.ldSa (hx : ev T x = .c (.ptr e [] (0 + q * r))) (hH : H e = some (seg L q xs)) (hk : Enc.k α = r) (hq : q < L.length) (hl : xs.length = r) (hp : xs.all plainC = true)
    (h : Nx Γ os (upd T d (.agg xs)) H H n R) : WO Γ (⟨ix, some d, none, .load x r true⟩ :: os) ⟨T, H, n⟩ R :=
  .ldp hx hH (by rw [Nat.zero_add]; exact seg_cut hk hq hl) hp h
theorem WO.stS (hx : ev T x = .c (.ptr e [] (0 + q * r + j))) (hv : ev T y = .c w) (hH : H e = some (seg L q xs)) (hk : Enc.k α = r) (hq : q < L.length) (hl : xs.length = r) (hj : Nat.blt j r = true) (hli : lies w = true) (hs : xs.set j w = ys)
    (h : Nx Γ os T H (upd H e (some (seg L q ys))) n R) : WO Γ (⟨ix, none, none, .store x y 1⟩ :: os) ⟨T, H, n⟩ R := by
  subst hs
  have hj' := Nat.le_of_ble_eq_true hj
  have h3 : (q + 1) * r ≤ L.length * r := Nat.mul_le_mul_right _ hq
  rw [Nat.add_mul, Nat.one_mul] at h3
  have h2 := seg_len hk hq hl
  exact WO.stol hx hv hH hli (by omega) (by rw [Nat.zero_add]; exact seg_set hk hq hl hj') h
theorem WO.stS1 (hx : ev T x = .c (.ptr e [] (0 + q * 1))) (hv : ev T y = .c w) (hH : H e = some (seg L q xs)) (hk : Enc.k α = 1) (hq : q < L.length) (hl : xs.length = 1) (hli : lies w = true)
    (h : Nx Γ os T H (upd H e (some (seg L q [w]))) n R) : WO Γ (⟨ix, none, none, .store x y 1⟩ :: os) ⟨T, H, n⟩ R := by
  have e1 : xs.set 0 w = [w] := by
    match xs, hl with
    | [_], _ => rfl
  exact WO.stS (j := 0) (r := 1) (by rw [hx]; rfl) hv hH hk hq hl rfl hli e1 h
theorem WO.stS4 (hx : ev T x = .c (.ptr e [] (0 + q * 4 + j))) (hv : ev T y = .c w) (hH : H e = some (seg L q xs)) (hk : Enc.k α = 4) (hq : q < L.length) (hl : xs.length = 4) (hj : Nat.blt j 4 = true) (hli : lies w = true) (hs : xs.set j w = [a0, a1, a2, a3])
    (h : Nx Γ os T H (upd H e (some (seg L q [a0, a1, a2, a3]))) n R) : WO Γ (⟨ix, none, none, .store x y 1⟩ :: os) ⟨T, H, n⟩ R := .stS hx hv hH hk hq hl hj hli hs h
theorem WO.stS3 (hx : ev T x = .c (.ptr e [] (0 + q * 3 + j))) (hv : ev T y = .c w) (hH : H e = some (seg L q xs)) (hk : Enc.k α = 3) (hq : q < L.length) (hl : xs.length = 3) (hj : Nat.blt j 3 = true) (hli : lies w = true) (hs : xs.set j w = [a0, a1, a2])
    (h : Nx Γ os T H (upd H e (some (seg L q [a0, a1, a2]))) n R) : WO Γ (⟨ix, none, none, .store x y 1⟩ :: os) ⟨T, H, n⟩ R := .stS hx hv hH hk hq hl hj hli hs h
theorem WO.stSa (hx : ev T x = .c (.ptr e [] (0 + q * r))) (hv : ev T y = .agg ys) (hH : H e = some (seg L q xs)) (hk : Enc.k α = r) (hq : q < L.length) (hl : xs.length = r) (hy : ys.length = r) (hli : ys.all lies = true)
    (h : Nx Γ os T H (upd H e (some (seg L q ys))) n R) : WO Γ (⟨ix, none, none, .store x y r⟩ :: os) ⟨T, H, n⟩ R :=
  WO.st (H' := upd H e (some (seg L q ys))) (by
    rw [hx, hv, Nat.zero_add]
    simp only [storeV, cellsV]
    rw [if_pos ⟨hy, hli⟩]
    exact turnN_of hH (seg_wr hk hq hl hy)) h
/-- A number of a row of numbers, read and written. -/
theorem WO.ldn1 {L : List Int} {i : Nat} {v : Int} (hx : ev T x = .c (.ptr e [] (0 + i * 1))) (hH : H e = some (co L)) (hL : L[i]? = some v) (h : Nx Γ os (upd T d (.c (.int .i64 v))) H H n R) : WO Γ (⟨ix, some d, none, .load x 1 false⟩ :: os) ⟨T, H, n⟩ R := .ldn hx hH hL h
end

section
variable {H : Heap} {e : Id} {α : Type} {_ : Enc α} {L : List α} {q r j : Nat} {xs : List C} {a : C}
theorem ld_S (hH : H e = some (seg L q xs)) (hk : Enc.k α = r) (hq : q < L.length) (hl : xs.length = r) (hj : Nat.blt j r = true) (hc : xs[j]? = some a) (hp : plainC a = true) : loadV H (.c (.ptr e [] (0 + q * r + j))) 1 false = some (.c a) :=
  ld_cell hH (by rw [Nat.zero_add, seg_get hk hq hl (Nat.le_of_ble_eq_true hj)]; exact hc) hp
theorem ld_S1 (hH : H e = some (seg L q [a])) (hk : Enc.k α = 1) (hq : q < L.length) (hp : plainC a = true) : loadV H (.c (.ptr e [] (0 + q * 1))) 1 false = some (.c a) :=
  ld_cell hH (by have := seg_get (j := 0) hk hq (xs := [a]) rfl (by omega); rw [Nat.zero_add]; exact this) hp
theorem ld_Sa (hH : H e = some (seg L q xs)) (hk : Enc.k α = r) (hq : q < L.length) (hl : xs.length = r) (hp : xs.all plainC = true) : loadV H (.c (.ptr e [] (0 + q * r))) r true = some (.agg xs) := by
  simp only [loadV, getN, hH, walk]
  rw [Nat.zero_add, seg_cut hk hq hl]
  simp only [looks_plain hp, mkV, if_true]
theorem ld_n {L : List Int} {i : Nat} {v : Int} (hH : H e = some (co L)) (hL : L[i]? = some v) : loadV H (.c (.ptr e [] (0 + i * 1))) 1 false = some (.c (.int .i64 v)) :=
  ld_cell hH (by rw [show 0 + i * 1 = i * 1 + 0 by omega, co_get (k := 1) L hL rfl (by omega)]; rfl) rfl
end

theorem LA.ev2 {H : Heap} {T : Nat → V} {x : Opd} {e : Id} {sz m : Nat} {as : List (Mode × Opd)} {us : List V} {α : Type} {_ : Enc α} {L : List α} (hx : Go.Proofs.Ytgodaiiegcdpcaa.Abs.ev T x = .c (.ref e [] sz 0 m)) (hk : Enc.k α = sz) (hH : H e = some (co L)) (hm : L.length = m) (h : LA H T as us) : LA H T ((.im, x) :: as) (.c (.imm true sz L.length (cl true L)) :: us) :=
  LA.ev (by rw [hm]; exact hx) hk rfl hH h

/-- A row told by an event of its own. -/
theorem own_row {H : Heap} {α : Type} [Enc α] {e : Id} {L : List α} {sz n : Nat} (hH : H e = some (co L)) (hk : Enc.k α = sz) (hn : L.length = n) : Own H [e] (.ref e [] sz 0 n) (rS L) := by
  subst hk hn
  exact Own.ref hH (dlen L) (by simp) (Owns.ow H _)
/-- A row whose parts are told otherwise. -/
theorem own_ref {H : Heap} {e : Id} {es : List Id} {sz n : Nat} {xs : List C} {ds : List D} (hH : H e = some xs) (hl : ds.length = n * sz) (he : e ∉ es) (h : Owns H es xs ds) : Own H (e :: es) (.ref e [] sz 0 n) (.row sz n ds) := .ref hH hl he h
theorem own_seg {H : Heap} {e : Id} {es : List Id} {α : Type} [Enc α] {L : List α} {q r n : Nat} {xs : List C} {x' : α} (hH : H e = some (seg L q xs)) (hk : Enc.k α = r) (hn : L.length = n) (hq : q < L.length) (he : e ∉ es) (ho : Owns H es xs (Enc.d x')) :
    Own H (e :: es) (.ref e [] r 0 n) (rS (L.set q x')) := by
  subst hk hn
  have h := own_ref (n := L.length) (sz := Enc.k α) (ds := (L.set q x').flatMap Enc.d) hH (by rw [dlen, List.length_set]) he (seg_own hq ho)
  rw [rS, List.length_set]
  exact h
theorem owns_con {H : Heap} {es es' : List Id} {c : C} {cs : List C} {d : D} {ds : List D} (h : Own H es c d) (h' : Owns H es' cs ds) (hd : ∀ e ∈ es, e ∉ es') : Owns H (es ++ es') (c :: cs) (d :: ds) := .cons h h' hd

end Go.Proofs.Ytgodaiiegcdpcaa.Abs
end
section
set_option linter.unusedVariables false
set_option linter.unusedSimpArgs false
namespace Go.Proofs.Ytgodaiiegcdpcaa.Abs

section
variable {H H0 : Heap} {T : Nat → V}
theorem LA.roots {as : List (Mode × Opd)} {us : List V} {H1 : Heap} (h : LA H1 T as us) (k : Nat) : ∀ (prev : List Root) (H : Heap), takeRoots k prev H (args2 T as) = some ([], [], H) := by
  induction h with
  | nil => intros; rfl
  | cons _ _ ih => intro prev H; exact ih prev H
theorem LA.mvs {as : List (Mode × Opd)} {us : List V} {H1 : Heap} (h : LA H1 T as us) (k : Nat) : ∀ (H : Heap), takeMvs k H (args2 T as) = some ([], H) := by
  induction h with
  | nil => intros; rfl
  | cons _ _ ih => intro H; exact ih H
theorem LA.passes {as : List (Mode × Opd)} {us : List V} (h : LA H T as us) : ∃ k0 ws, leVs ws us ∧ ∀ k, k0 ≤ k → ∀ H0 rs zss r ms, passArgs k H0 H rs zss r ms (args2 T as) = some ws := by
  induction h with
  | nil => exact ⟨0, [], by simp [leVs], fun _ _ _ _ _ _ _ => rfl⟩
  | @cons x u as us hl _ ih =>
    obtain ⟨k0, ws, h1, h2⟩ := ih
    obtain ⟨w, ⟨k1, h3⟩, h4⟩ := hl
    refine ⟨max k0 k1, w :: ws, ?_, fun k hk H0 rs zss r ms => ?_⟩
    · simp only [leVs]; exact ⟨u, us, rfl, h4, h1⟩
    · have e1 := h3 k (by omega)
      have e2 := h2 k (by omega) H0 rs zss r ms
      show passArgs k H0 H rs zss r ms ((Mode.im, Go.Proofs.Ytgodaiiegcdpcaa.Abs.ev T x) :: args2 T as) = some (w :: ws)
      simp only [passArgs, e1, e2]
end

section
variable {Γ : FuncId → Option AFn} {T : Nat → V} {H H2 H3 H4 : Heap} {n ix d : Nat} {os : List AOper} {R : List Heap → St → Prop}
variable {x : Opd} {e : Id} {off s : Nat} {xs ys zs cs : List C} {f : FuncId} {as : List (Mode × Opd)} {us : List V} {v v' : V} {ds ds' : List D}

theorem leV_refl : ∀ v : V, leV v v
  | .c x => by simp only [leV]; exact ⟨true, x, rfl, leC.refl true x⟩
  | .agg xs => by simp only [leV]; exact ⟨true, xs, rfl, leC.refl.go true xs⟩
  | .bx _ => by simp only [leV]
  | .tup _ => by simp only [leV]

/-- A call that is handed so many cells of an event to write. -/
theorem WO.io (hx : ev T x = .c (.ptr e [] off)) (hs : s ≠ 0) (hH : H e = some xs) (hc : cut off s xs = some ys) (hw : wr off (List.replicate s .dead) xs = some zs) {k0 : Nat} (ht : ∀ k, k0 ≤ k → takeL k (upd H e (some zs)) ys = some (owL ds, H2))
    (hl : LA H2 T as us) (hf : Runs Γ (.fn f (.c (.ptr (0, 0, 0, 0) [] 0) :: us) [owL ds] v [owL ds'])) (hb : Br n ix 1 0 H2 ds' cs H3) (hcs : ds'.length = s) {ws rs : List C} (he : H3 e = some rs) (hw2 : wr off cs rs = some ws)
    (hv : bringV (n, ix, 0) (upd H3 e (some ws)) v = (v', H4)) (h : Nx Γ os (upd T d v') H H4 n R) : WO Γ (⟨ix, some d, none, .call f ((.io s, x) :: as)⟩ :: os) ⟨T, H, n⟩ R := by
  obtain ⟨k1, us', h1, h2⟩ := hl.passes
  refine WO.call (max k0 k1) (f := f) (as := (.io s, x) :: as) (rs := [⟨e, [], off, s⟩]) (zss := [owL ds]) (H1 := H2) (H2 := H2) (ms := []) (us := .c (.ptr (0, 0, 0, 0) [] 0) :: us') (v := v) (zss' := [owL ds']) (H3 := upd H3 e (some ws)) rfl (.inl rfl) ?_ ?_ ?_ ?_ ?_ hv h
  · show takeRoots _ [] H ((.io s, ev T x) :: args2 T as) = _
    rw [hx]
    simp only [takeRoots, List.all_nil, and_true]
    rw [if_pos hs]
    simp only [getN_nil hH, hc, turnN, hH, turn, hw, ht (max k0 k1) (by omega), hl.roots]
  · show takeMvs _ H2 ((.io s, ev T x) :: args2 T as) = _
    simp only [takeMvs, hl.mvs]
  · show passArgs _ H H2 _ _ 0 [] ((.io s, ev T x) :: args2 T as) = _
    simp only [passArgs, h2 (max k0 k1) (by omega)]
  · exact .weak (by simp only [leVs]; exact ⟨_, us, rfl, leV_refl _, h1⟩) hf
  · simp only [backRoots]
    rw [if_pos (by rw [owL_len, hcs])]
    simp only [hb.eq, turnN, he, turn, hw2]

/-- All of an event. -/
theorem WO.ioE (hx : ev T x = .c (.ptr e [] 0)) (hH : H e = some xs) (hl0 : xs.length = s) (hs : s ≠ 0) (ha : AbT (upd H e (some (List.replicate s .dead))) xs ds H2)
    (hl : LA H2 T as us) (hf : Runs Γ (.fn f (.c (.ptr (0, 0, 0, 0) [] 0) :: us) [owL ds] v [owL ds'])) (hb : Br n ix 1 0 H2 ds' cs H3) (hcs : ds'.length = s) (hcs' : cs.length = s) (he : H3 e = some (List.replicate s .dead))
    (hv : bringV (n, ix, 0) (upd H3 e (some cs)) v = (v', H4)) (h : Nx Γ os (upd T d v') H H4 n R) : WO Γ (⟨ix, some d, none, .call f ((.io s, x) :: as)⟩ :: os) ⟨T, H, n⟩ R := by
  obtain ⟨es, h1, h2⟩ := ha.owns
  refine WO.io hx hs hH (ys := xs) (zs := List.replicate s .dead) (by rw [cut_get (by omega), List.drop_zero, List.take_of_length_le (by omega)]) ?_ (k0 := depL ds + 1) (fun k hk => ?_) hl hf hb hcs he ?_ hv h
  · simp only [wr, List.length_replicate]
    rw [if_pos (by omega)]
    simp [List.drop_eq_nil_of_le, hl0]
  · have := h1.take k (by omega)
    rw [← h2] at this
    exact this
  · simp only [wr, List.length_replicate]
    rw [if_pos (by omega)]
    simp [List.drop_eq_nil_of_le, hcs']

/-- One row that lies in an event. -/
theorem WO.io1r {α β : Type} {_ : Enc α} {_ : Enc β} {L L' : List α} {M : List β} (hx : ev T x = .c (.ptr e [] off)) (hH : H e = some xs) (hc : xs[off]? = some (rS L).ow) (hd : xs.set off .dead = zs) (hs : xs.set off (.ref (n, ix, 1, 0) [] (Enc.k α) 0 L'.length) = ys) (hne : e ≠ (n, ix, 1, 0))
    (hl : LA (upd H e (some zs)) T as us) (hf : Runs Γ (.fn f (.c (.ptr (0, 0, 0, 0) [] 0) :: us) [[(rS L).ow]] (.c (rS M).ow) [[(rS L').ow]]))
    (h : Nx Γ os (upd T d (.c (.ref (n, ix, 0, 0) [] (Enc.k β) 0 M.length))) H (upd (upd (upd (upd H e (some zs)) (n, ix, 1, 0) (some (co L'))) e (some ys)) (n, ix, 0, 0) (some (co M))) n R) : WO Γ (⟨ix, some d, none, .call f ((.io 1, x) :: as)⟩ :: os) ⟨T, H, n⟩ R := by
  subst hd hs
  have hlt : off < xs.length := (List.getElem?_eq_some_iff.1 hc).1
  refine WO.io (ds := [rS L]) (ds' := [rS L']) (H3 := upd (upd H e (some (xs.set off .dead))) (n, ix, 1, 0) (some (co L'))) hx (by omega) hH (cut_one hc) (by rw [show List.replicate 1 C.dead = [.dead] from rfl]; exact wr_one hlt) (k0 := depL [rS L] + 1) (fun k hk => ?_) hl hf (.rs .nil) rfl
    (rs := xs.set off .dead) (by rw [upd_ne _ _ hne, upd_same]) (ws := xs.set off (.ref (n, ix, 1, 0) [] (Enc.k α) 0 L'.length)) ?_ rfl h
  · have := takes_ow [rS L] k (upd H e (some (xs.set off .dead))) (by omega)
    simpa [owL] using this
  · rw [wr_one (by simpa using hlt), List.set_set]
end

section
variable {Γ : FuncId → Option AFn} {c : ACode} {T : Nat → V} {H : Heap} {n : Nat} {Q : AEx → St → Prop} {e : Id} {xs ys : List C} {a0 a1 a2 a3 : C} {sz m q : Nat}
theorem W.det1 (j : Nat) (hH : H e = some xs) (hj : xs[j]? = some (.inl sz m ys)) (hz : xs.set j (.ref (n, 0, 0, 0) [] sz 0 m) = [a0])
    (h : W Γ c ⟨T, upd (upd H e (some [a0])) (n, 0, 0, 0) (some ys), n + 1⟩ Q) : W Γ c ⟨T, H, n⟩ Q := W.det0 hH hj hz h
theorem W.det2 (j : Nat) (hH : H e = some xs) (hj : xs[j]? = some (.inl sz m ys)) (hz : xs.set j (.ref (n, 0, 0, 0) [] sz 0 m) = [a0, a1])
    (h : W Γ c ⟨T, upd (upd H e (some [a0, a1])) (n, 0, 0, 0) (some ys), n + 1⟩ Q) : W Γ c ⟨T, H, n⟩ Q := W.det0 hH hj hz h
theorem W.det3 (j : Nat) (hH : H e = some xs) (hj : xs[j]? = some (.inl sz m ys)) (hz : xs.set j (.ref (n, 0, 0, 0) [] sz 0 m) = [a0, a1, a2])
    (h : W Γ c ⟨T, upd (upd H e (some [a0, a1, a2])) (n, 0, 0, 0) (some ys), n + 1⟩ Q) : W Γ c ⟨T, H, n⟩ Q := W.det0 hH hj hz h
theorem W.det4 (j : Nat) (hH : H e = some xs) (hj : xs[j]? = some (.inl sz m ys)) (hz : xs.set j (.ref (n, 0, 0, 0) [] sz 0 m) = [a0, a1, a2, a3])
    (h : W Γ c ⟨T, upd (upd H e (some [a0, a1, a2, a3])) (n, 0, 0, 0) (some ys), n + 1⟩ Q) : W Γ c ⟨T, H, n⟩ Q := W.det0 hH hj hz h
variable {α : Type} {_ : Enc α} {L : List α} {r : Nat}
theorem W.detS1 (hH : H e = some (seg L q xs)) (hk : Enc.k α = 1) (hq : q < L.length) (hl : xs.length = 1) (hc : xs[0]? = some (.inl sz m ys)) (hz : xs.set 0 (.ref (n, 0, 0, 0) [] sz 0 m) = [a0])
    (h : W Γ c ⟨T, upd (upd H e (some (seg L q [a0]))) (n, 0, 0, 0) (some ys), n + 1⟩ Q) : W Γ c ⟨T, H, n⟩ Q := W.detS hH hk hq hl rfl hc hz h
theorem W.detS3 (j : Nat) (hH : H e = some (seg L q xs)) (hk : Enc.k α = 3) (hq : q < L.length) (hl : xs.length = 3) (hj : Nat.blt j 3 = true) (hc : xs[j]? = some (.inl sz m ys)) (hz : xs.set j (.ref (n, 0, 0, 0) [] sz 0 m) = [a0, a1, a2])
    (h : W Γ c ⟨T, upd (upd H e (some (seg L q [a0, a1, a2]))) (n, 0, 0, 0) (some ys), n + 1⟩ Q) : W Γ c ⟨T, H, n⟩ Q := W.detS hH hk hq hl hj hc hz h
theorem W.detS4 (j : Nat) (hH : H e = some (seg L q xs)) (hk : Enc.k α = 4) (hq : q < L.length) (hl : xs.length = 4) (hj : Nat.blt j 4 = true) (hc : xs[j]? = some (.inl sz m ys)) (hz : xs.set j (.ref (n, 0, 0, 0) [] sz 0 m) = [a0, a1, a2, a3])
    (h : W Γ c ⟨T, upd (upd H e (some (seg L q [a0, a1, a2, a3]))) (n, 0, 0, 0) (some ys), n + 1⟩ Q) : W Γ c ⟨T, H, n⟩ Q := W.detS hH hk hq hl hj hc hz h
end

section
variable {Γ : FuncId → Option AFn} {T : Nat → V} {H : Heap} {n ix d : Nat} {os : List AOper} {R : List Heap → St → Prop} {x : Opd} {e : Id} {α : Type} {_ : Enc α} {L : List α} {i r : Nat} {u : α}
theorem ld_R (hH : H e = some (co L)) (hk : Enc.k α = r) (hL : L[i]? = some u) (hp : (owL (Enc.d u)).all plainC = true) : loadV H (.c (.ptr e [] (0 + i * r))) r true = some (.agg (owL (Enc.d u))) := by
  rw [seg_co hL] at hH
  exact ld_Sa hH hk (List.getElem?_eq_some_iff.1 hL).1 (by rw [owL_len, Enc.len, hk]) hp
/-- One element of an owned row. -/
theorem WO.ldR (hx : ev T x = .c (.ptr e [] (0 + i * r))) (hH : H e = some (co L)) (hk : Enc.k α = r) (hL : L[i]? = some u) (hp : (owL (Enc.d u)).all plainC = true) (h : Nx Γ os (upd T d (.agg (owL (Enc.d u)))) H H n R) : WO Γ (⟨ix, some d, none, .load x r true⟩ :: os) ⟨T, H, n⟩ R :=
  WO.ld (v := .agg (owL (Enc.d u))) (by rw [hx]; exact ld_R hH hk hL hp) h
end

section
variable {Γ : FuncId → Option AFn} {T : Nat → V} {H H2 H4 : Heap} {n ix d : Nat} {os : List AOper} {R : List Heap → St → Prop} {x y : Opd} {e : Id} {f : FuncId} {as : List (Mode × Opd)} {us : List V} {cs xs : List C} {ds : List D} {v v' : V} {w a0 a1 a2 a3 : C} {off : Nat}
/-- A call that is handed a struct for good. -/
theorem WO.mvA (hx : ev T x = .agg cs) (ha : AbT H cs ds H2) (hl : LA H2 T as us) (hf : Runs Γ (.fn f (.agg (owL ds) :: us) [] v [])) (hv : bringV (n, ix, 0) H2 v = (v', H4)) (h : Nx Γ os (upd T d v') H H4 n R) : WO Γ (⟨ix, some d, none, .call f ((.mv, x) :: as)⟩ :: os) ⟨T, H, n⟩ R := by
  obtain ⟨k1, us', h1, h2⟩ := hl.passes
  obtain ⟨es, g1, g2⟩ := ha.owns
  refine WO.call (max (depL ds + 1) k1) (f := f) (as := (.mv, x) :: as) (rs := []) (zss := []) (H1 := H) (H2 := H2) (ms := [.agg (owL ds)]) (us := .agg (owL ds) :: us') (v := v) (zss' := []) (H3 := H2) rfl (.inl rfl) ?_ ?_ ?_ ?_ rfl hv h
  · show takeRoots _ [] H ((.mv, ev T x) :: args2 T as) = _
    simp only [takeRoots, hl.roots]
  · show takeMvs _ H ((.mv, ev T x) :: args2 T as) = _
    have h3 := g1.take (max (depL ds + 1) k1) (by omega)
    rw [← g2] at h3
    simp only [takeMvs, hx, takeU, h3, hl.mvs]
  · show passArgs _ H H2 _ _ 0 [.agg (owL ds)] ((.mv, ev T x) :: args2 T as) = _
    simp only [passArgs, h2 (max (depL ds + 1) k1) (by omega)]
  · exact .weak (by simp only [leVs]; exact ⟨_, us, rfl, leV_refl _, h1⟩) hf
theorem WO.mvT {vs ws : List V} (hx : ev T x = .agg cs) (ha : AbT H cs ds H2) (hl : LA H2 T as us) (hf : Runs Γ (.fn f (.agg (owL ds) :: us) [] (.tup vs) [])) (hb : BrT n ix 0 0 H2 vs ws H4) (h : Nx Γ os (upd T d (.tup ws)) H H4 n R) : WO Γ (⟨ix, some d, none, .call f ((.mv, x) :: as)⟩ :: os) ⟨T, H, n⟩ R :=
  .mvA hx ha hl hf (by simp only [bringV, hb.eq]) h
/-- A struct of one cell, stored. -/
theorem WO.stm (hx : ev T x = .c (.ptr e [] off)) (hv : ev T y = .agg [w]) (hH : H e = some xs) (hl : lies w = true) (hb : off < xs.length) (h : Nx Γ os T H (upd H e (some (xs.set off w))) n R) : WO Γ (⟨ix, none, none, .store x y 1⟩ :: os) ⟨T, H, n⟩ R :=
  WO.st (H' := upd H e (some (xs.set off w))) (by rw [hx, hv]; simp [storeV, cellsV, hl, turnN, hH, turn, wr_one hb]) h
theorem WO.stm4 (hx : ev T x = .c (.ptr e [] off)) (hv : ev T y = .agg [w]) (hH : H e = some xs) (hl : lies w = true) (hb : Nat.blt off xs.length = true) (hs : xs.set off w = [a0, a1, a2, a3]) (h : Nx Γ os T H (upd H e (some [a0, a1, a2, a3])) n R) : WO Γ (⟨ix, none, none, .store x y 1⟩ :: os) ⟨T, H, n⟩ R := by
  rw [← hs] at h
  exact .stm hx hv hH hl (Nat.le_of_ble_eq_true hb) h
theorem WO.stm1 (hx : ev T x = .c (.ptr e [] off)) (hv : ev T y = .agg [w]) (hH : H e = some xs) (hl : lies w = true) (hb : Nat.blt off xs.length = true) (hs : xs.set off w = [a0]) (h : Nx Γ os T H (upd H e (some [a0])) n R) : WO Γ (⟨ix, none, none, .store x y 1⟩ :: os) ⟨T, H, n⟩ R := by
  rw [← hs] at h
  exact .stm hx hv hH hl (Nat.le_of_ble_eq_true hb) h
end

section
variable {Γ : FuncId → Option AFn} {T : Nat → V} {H : Heap} {n ix d : Nat} {os : List AOper} {R : List Heap → St → Prop} {x : Opd} {e : Id} {α : Type} {_ : Enc α} {L : List (List α)} {i : Nat} {u : List α}
/-- A row of an owned row of rows. -/
theorem WO.ldrow (hx : ev T x = .c (.ptr e [] (0 + i * 1))) (hH : H e = some (co L)) (hL : L[i]? = some u) (h : Nx Γ os (upd T d (.c (.ref e ([] ++ [0 + i * 1]) (Enc.k α) 0 u.length))) H H n R) : WO Γ (⟨ix, some d, none, .load x 1 false⟩ :: os) ⟨T, H, n⟩ R :=
  .ldo hx (getN_nil hH) (ys := co u) (by rw [show 0 + i * 1 = i * 1 + 0 by omega, co_get (k := 1) L hL rfl (by omega)]; rfl) h
end

/-- What a callee answers that runs in its caller's heap. -/
inductive Ins (s : St) : List ARes → List V → Prop
  | nil : Ins s [] []
  | c {t c rs vs} (ht : s.T t = .c c) (h : Ins s rs vs) : Ins s (.tmp t :: rs) (.c c :: vs)
  | agg {t cs rs vs} (ht : s.T t = .agg cs) (h : Ins s rs vs) : Ins s (.tmp t :: rs) (.agg cs :: vs)
  | cell {t m e xs rs vs} (ht : s.T t = .c (.ptr e [] 0)) (hH : s.H e = some xs) (hm : xs.length = m) (hp : xs.all plainC = true) (h : Ins s rs vs) : Ins s (.cell t m true :: rs) (.agg xs :: vs)
theorem Ins.all {s : St} {rs : List ARes} {vs : List V} (h : Ins s rs vs) : resAll s rs = some vs ∧ vs.all plainV = true := by
  induction h with
  | nil => exact ⟨rfl, rfl⟩
  | c ht _ ih => exact ⟨by simp only [resAll, resOne, ht, ih.1], by simpa [plainV] using ih.2⟩
  | agg ht _ ih => exact ⟨by simp only [resAll, resOne, ht, ih.1], by simpa [plainV] using ih.2⟩
  | cell ht hH hm hp _ ih => exact ⟨by simp only [resAll, resOne, ht, ld_all hH hm hp, ih.1], by simpa [plainV] using ih.2⟩
theorem inlQ.many {res : List ARes} {K : V → Heap → Nat → Prop} {ex : AEx} {T : Nat → V} {H : Heap} {n : Nat} {vs : List V} (hx : ex = .normal ∨ ex = .ret) (h : Ins ⟨T, H, n⟩ res vs) (hk : K (pack vs) H n) : inlQ res K ex ⟨T, H, n⟩ := ⟨hx, vs, h.all.1, h.all.2, hk⟩

/-- A pointer lent. -/
theorem LA.ptrO {H : Heap} {T : Nat → V} {x : Opd} {e : Id} {off : Nat} {cs : List C} {ds : List D} {es : List Id} {as : List (Mode × Opd)} {us : List V} (hx : Go.Proofs.Ytgodaiiegcdpcaa.Abs.ev T x = .c (.ptr e [] off)) (hH : H e = some cs) (ho : Owns H es cs ds) (h : LA H T as us) : LA H T ((.im, x) :: as) (.c (.iptr true (imL true ds) off) :: us) :=
  .cons (by rw [hx]; exact Lend.ptr (getN_nil hH) ho (erL.refl ds)) h
theorem LA.ptrW {H : Heap} {T : Nat → V} {x : Opd} {e : Id} {off : Nat} {ds : List D} {as : List (Mode × Opd)} {us : List V} (hx : Go.Proofs.Ytgodaiiegcdpcaa.Abs.ev T x = .c (.ptr e [] off)) (hH : H e = some (owL ds)) (h : LA H T as us) : LA H T ((.im, x) :: as) (.c (.iptr true (imL true ds) off) :: us) :=
  .ptrO hx hH (Owns.ow H ds) h

end Go.Proofs.Ytgodaiiegcdpcaa.Abs
end
section
set_option linter.unusedVariables false
set_option linter.unusedSimpArgs false
namespace Go.Proofs.Ytgodaiiegcdpcaa.Abs
set_option linter.unusedVariables false
theorem hh {H : Heap} {e : Id} {v : Option (List C)} (h : H e = v := by first | rfl | assumption | ((repeat (first | exact upd_same _ _ _ | assumption | rfl | refine up_ne (ne_id (by first | omega | (dsimp only; omega))) ?_)); done)) : H e = v := h
theorem abt {H H' : Heap} {cs : List C} {ds : List D} (h : AbT H cs ds H' := by repeat (first | exact AbT.nil | (apply AbT.int) | (apply AbT.bool) | (apply AbT.row; (· first | rfl | assumption | ((repeat (first | exact upd_same _ _ _ | assumption | rfl | refine up_ne (ne_id (by first | omega | (dsimp only; omega))) ?_)); done)); (· rfl); (· rfl)) | (apply AbT.nils))) : AbT H cs ds H' := h
theorem lends {H : Heap} {T : Nat → V} {as : List (Mode × Opd)} {us : List V} (h : LA H T as us := by repeat (first | exact LA.nil | (apply LA.int; (· rfl)) | (apply LA.bool; (· rfl)) | (apply LA.imm; (· rfl)) | (apply LA.agg; (· rfl)) | (apply LA.nilS; (· rfl)) | (apply LA.ev; (· rfl); (· rfl); (· rfl); (· first | rfl | assumption | ((repeat (first | exact upd_same _ _ _ | assumption | rfl | refine up_ne (ne_id (by first | omega | (dsimp only; omega))) ?_)); done))) | (apply LA.ev2; (· rfl); (· rfl); (· first | rfl | assumption | ((repeat (first | exact upd_same _ _ _ | assumption | rfl | refine up_ne (ne_id (by first | omega | (dsimp only; omega))) ?_)); done)); (· simp only [List.length_set]; done)) | (apply LA.ptrW; (· rfl); (· first | rfl | assumption | ((repeat (first | exact upd_same _ _ _ | assumption | rfl | refine up_ne (ne_id (by first | omega | (dsimp only; omega))) ?_)); done))) | (apply LA.owns; (· rfl); (· assumption); (· assumption)) | (apply LA.own; (· rfl); (· assumption); (· assumption)))) : LA H T as us := h
theorem brr {a b c k : Nat} {H H' : Heap} {ds : List D} {cs : List C} (h : Br a b c k H ds cs H' := by repeat (first | exact Br.nil | apply Br.int | apply Br.rs | apply Br.nils | apply Br.bool)) : Br a b c k H ds cs H' := h
theorem btt {a b c k : Nat} {H H' : Heap} {vs us : List V} (h : BrT a b c k H vs us H' := by repeat (first | exact BrT.nil | apply BrT.int | apply BrT.bool | apply BrT.row | (apply BrT.agg; (· repeat (first | exact Br.nil | apply Br.int | apply Br.rs | apply Br.nils | apply Br.bool))))) : BrT a b c k H vs us H' := h
theorem ansr {s : St} {H H' : Heap} {rs : List ARes} {us : List V} (h : Ans s H rs us H' := by repeat (first | exact Ans.nil | (apply Ans.sc; (· rfl); (· rfl)) | (apply Ans.row; (· rfl); (· rfl); (· rfl); (· first | rfl | assumption | ((repeat (first | exact upd_same _ _ _ | assumption | rfl | refine up_ne (ne_id (by first | omega | (dsimp only; omega))) ?_)); done))) | (apply Ans.cell; (· rfl); (· first | rfl | assumption | ((repeat (first | exact upd_same _ _ _ | assumption | rfl | refine up_ne (ne_id (by first | omega | (dsimp only; omega))) ?_)); done)); (· rfl); (· rfl); (· exact abt)))) : Ans s H rs us H' := h
theorem insr {s : St} {rs : List ARes} {vs : List V} (h : Ins s rs vs := by repeat (first | exact Ins.nil | (apply Ins.c; (· rfl)) | (apply Ins.agg; (· rfl)) | (apply Ins.cell; (· rfl); (· first | rfl | assumption | ((repeat (first | exact upd_same _ _ _ | assumption | rfl | refine up_ne (ne_id (by first | omega | (dsimp only; omega))) ?_)); done)); (· rfl); (· rfl)))) : Ins s rs vs := h
theorem ats {P : Prop} (h : P := by first | omega | (dsimp only; omega)) : P := h
/-- What is left, out of sight. -/
structure Left (P : Prop) : Prop where
  out : P
theorem wk {A B : Prop} (k : B) (h : Left B → A := by
  intro k
  repeat (first
      | (apply WO.mx; (· rfl); (· rfl))
      | (apply WO.qq; (· rfl); (· rfl))
      | (apply WO.gF; (· rfl); (· rfl))
      | (apply WO.gT; (· rfl))
      | (apply WO.gD; (· rfl))
      | (apply WO.ld1i; (· rfl); (· first | rfl | assumption | ((repeat (first | exact upd_same _ _ _ | assumption | rfl | refine up_ne (ne_id (by first | omega | (dsimp only; omega))) ?_)); done)); (· rfl))
      | apply W.seq
      | apply W.reg0
      | apply WO.nil0
      | apply WO.nilD
      | (apply WO.ld1m; (· rfl); (· first | rfl | assumption | ((repeat (first | exact upd_same _ _ _ | assumption | rfl | refine up_ne (ne_id (by first | omega | (dsimp only; omega))) ?_)); done)); (· rfl))
      | (apply WO.ixi; (· rfl); (· rfl); (· first | assumption | omega))
      | (apply WO.ldc; (· rfl); (· rfl); (· assumption))
      | (apply WO.ldf; (· rfl); (· rfl); (· decide); (· assumption); (· rfl))
      | (apply WO.ldf0; (· rfl); (· rfl); (· decide); (· assumption); (· rfl))
      | (apply WO.ldi1; (· rfl); (· first | assumption | rfl))
      | apply W.dreg0
      | apply W.skip
      | apply W.block
      | (apply W.ifT; (· rfl))
      | (apply W.ifF; (· rfl))
      | (apply WO.ld1; (· rfl); (· first | rfl | assumption | ((repeat (first | exact upd_same _ _ _ | assumption | rfl | refine up_ne (ne_id (by first | omega | (dsimp only; omega))) ?_)); done)); (· rfl); (· rfl))
      | (apply WO.ixr; (· rfl); (· rfl); (· first | assumption | omega))
      | (apply WO.boxa; (· rfl); (· rfl))
      | (apply WO.boxc; (· rfl); (· rfl))
      | (apply WO.al; (· rfl))
      | (apply WO.lda; (· rfl); (· first | rfl | assumption | ((repeat (first | exact upd_same _ _ _ | assumption | rfl | refine up_ne (ne_id (by first | omega | (dsimp only; omega))) ?_)); done)); (· rfl); (· rfl))
      | (apply WO.ldp; (· rfl); (· first | rfl | assumption | ((repeat (first | exact upd_same _ _ _ | assumption | rfl | refine up_ne (ne_id (by first | omega | (dsimp only; omega))) ?_)); done)); (· rfl); (· rfl))
      | (apply WO.stoa; (· rfl); (· rfl); (· first | rfl | assumption | ((repeat (first | exact upd_same _ _ _ | assumption | rfl | refine up_ne (ne_id (by first | omega | (dsimp only; omega))) ?_)); done)); (· rfl); (· rfl); (· rfl))
      | (apply WO.stl1; (· rfl); (· rfl); (· first | rfl | assumption | ((repeat (first | exact upd_same _ _ _ | assumption | rfl | refine up_ne (ne_id (by first | omega | (dsimp only; omega))) ?_)); done)); (· rfl); (· rfl); (· rfl))
      | (apply WO.stl2; (· rfl); (· rfl); (· first | rfl | assumption | ((repeat (first | exact upd_same _ _ _ | assumption | rfl | refine up_ne (ne_id (by first | omega | (dsimp only; omega))) ?_)); done)); (· rfl); (· rfl); (· rfl))
      | (apply WO.stl3; (· rfl); (· rfl); (· first | rfl | assumption | ((repeat (first | exact upd_same _ _ _ | assumption | rfl | refine up_ne (ne_id (by first | omega | (dsimp only; omega))) ?_)); done)); (· rfl); (· rfl); (· rfl))
      | (apply WO.stl4; (· rfl); (· rfl); (· first | rfl | assumption | ((repeat (first | exact upd_same _ _ _ | assumption | rfl | refine up_ne (ne_id (by first | omega | (dsimp only; omega))) ?_)); done)); (· rfl); (· rfl); (· rfl))
      | (apply WO.stl5; (· rfl); (· rfl); (· first | rfl | assumption | ((repeat (first | exact upd_same _ _ _ | assumption | rfl | refine up_ne (ne_id (by first | omega | (dsimp only; omega))) ?_)); done)); (· rfl); (· rfl); (· rfl))
      | (apply WO.sti; (· rfl); (· rfl); (· first | rfl | assumption | ((repeat (first | exact upd_same _ _ _ | assumption | rfl | refine up_ne (ne_id (by first | omega | (dsimp only; omega))) ?_)); done)); (· first | assumption | omega))
      | (apply WO.sto; (· rfl); (· rfl); (· first | rfl | assumption | ((repeat (first | exact upd_same _ _ _ | assumption | rfl | refine up_ne (ne_id (by first | omega | (dsimp only; omega))) ?_)); done)); (· rfl); (· simp))
      | (apply WO.bu1; (· rfl))
      | (apply WO.bu2; (· rfl))
      | (apply WO.bu3; (· rfl))
      | (apply WO.bu4; (· rfl))
      | (apply WO.bu5; (· rfl))
      | (apply WO.bs0; (· rfl); (· rfl))
      | (apply WO.bs1; (· rfl); (· rfl); (· rfl); (· decide); (· rfl); (· rfl))
      | (apply WO.bs1c; (· rfl); (· rfl); (· rfl); (· rfl))
      | (apply WO.apc; (· rfl); (· first | rfl | assumption | ((repeat (first | exact upd_same _ _ _ | assumption | rfl | refine up_ne (ne_id (by first | omega | (dsimp only; omega))) ?_)); done)); (· rfl); (· rfl); (· rfl); (· omega); (· infer_instance))
      | (apply WO.apo; (· rfl); (· first | rfl | assumption | ((repeat (first | exact upd_same _ _ _ | assumption | rfl | refine up_ne (ne_id (by first | omega | (dsimp only; omega))) ?_)); done)); (· rfl); (· first | rfl | assumption | ((repeat (first | exact upd_same _ _ _ | assumption | rfl | refine up_ne (ne_id (by first | omega | (dsimp only; omega))) ?_)); done)); (· rfl); (· first | rfl | (simp only [List.length_set]; done)); (· omega); (· infer_instance))
      | (apply WO.mki (l := 24); (· rfl); (· rfl); (· omega))
      | (apply WO.mki (l := 8); (· rfl); (· rfl); (· omega))
      | (apply WO.mki (l := 4); (· rfl); (· rfl); (· omega))
      | (apply WO.ldS; (· rfl); (· first | rfl | assumption | ((repeat (first | exact upd_same _ _ _ | assumption | rfl | refine up_ne (ne_id (by first | omega | (dsimp only; omega))) ?_)); done)); (· rfl); (· first | assumption | omega); (· rfl); (· rfl); (· rfl); (· rfl))
      | (apply WO.ldS1; (· rfl); (· first | rfl | assumption | ((repeat (first | exact upd_same _ _ _ | assumption | rfl | refine up_ne (ne_id (by first | omega | (dsimp only; omega))) ?_)); done)); (· rfl); (· first | assumption | omega); (· rfl))
      | (apply WO.ldSa; (· rfl); (· first | rfl | assumption | ((repeat (first | exact upd_same _ _ _ | assumption | rfl | refine up_ne (ne_id (by first | omega | (dsimp only; omega))) ?_)); done)); (· rfl); (· first | assumption | omega); (· rfl); (· rfl))
      | (apply WO.ldn1; (· rfl); (· first | rfl | assumption | ((repeat (first | exact upd_same _ _ _ | assumption | rfl | refine up_ne (ne_id (by first | omega | (dsimp only; omega))) ?_)); done)); (· assumption))
      | (apply WO.ldR; (· rfl); (· first | rfl | assumption | ((repeat (first | exact upd_same _ _ _ | assumption | rfl | refine up_ne (ne_id (by first | omega | (dsimp only; omega))) ?_)); done)); (· rfl); (· assumption); (· rfl))
      | (apply WO.ldrow; (· rfl); (· first | rfl | assumption | ((repeat (first | exact upd_same _ _ _ | assumption | rfl | refine up_ne (ne_id (by first | omega | (dsimp only; omega))) ?_)); done)); (· assumption))
      | (apply WO.stS4; (· rfl); (· rfl); (· first | rfl | assumption | ((repeat (first | exact upd_same _ _ _ | assumption | rfl | refine up_ne (ne_id (by first | omega | (dsimp only; omega))) ?_)); done)); (· rfl); (· first | assumption | omega); (· rfl); (· rfl); (· rfl); (· rfl))
      | (apply WO.stS3; (· rfl); (· rfl); (· first | rfl | assumption | ((repeat (first | exact upd_same _ _ _ | assumption | rfl | refine up_ne (ne_id (by first | omega | (dsimp only; omega))) ?_)); done)); (· rfl); (· first | assumption | omega); (· rfl); (· rfl); (· rfl); (· rfl))
      | (apply WO.stS1; (· rfl); (· rfl); (· first | rfl | assumption | ((repeat (first | exact upd_same _ _ _ | assumption | rfl | refine up_ne (ne_id (by first | omega | (dsimp only; omega))) ?_)); done)); (· rfl); (· first | assumption | omega); (· rfl); (· rfl))
      | (apply WO.stSa; (· rfl); (· rfl); (· first | rfl | assumption | ((repeat (first | exact upd_same _ _ _ | assumption | rfl | refine up_ne (ne_id (by first | omega | (dsimp only; omega))) ?_)); done)); (· rfl); (· first | assumption | omega); (· rfl); (· rfl); (· rfl))
      | (apply WO.stm4; (· rfl); (· rfl); (· first | rfl | assumption | ((repeat (first | exact upd_same _ _ _ | assumption | rfl | refine up_ne (ne_id (by first | omega | (dsimp only; omega))) ?_)); done)); (· rfl); (· rfl); (· rfl))
      | (apply WO.stm1; (· rfl); (· rfl); (· first | rfl | assumption | ((repeat (first | exact upd_same _ _ _ | assumption | rfl | refine up_ne (ne_id (by first | omega | (dsimp only; omega))) ?_)); done)); (· rfl); (· rfl); (· rfl))
      | (apply WO.qqa; (· rfl); (· rfl))
      | (apply WO.qqt; (· rfl); (· rfl))
      | apply W.dreg
      | (apply WO.nil; apply dregQ.mk; (· repeat (first | exact recheck.nil | (apply recheck.cons; (· first | (refine recheck1.ld rfl rfl ?_; first | rfl | (apply ld_cell; (· first | rfl | assumption | ((repeat (first | exact upd_same _ _ _ | assumption | rfl | refine up_ne (ne_id (by first | omega | (dsimp only; omega))) ?_)); done)); (· rfl); (· rfl)) | (apply ld_all; (· first | rfl | assumption | ((repeat (first | exact upd_same _ _ _ | assumption | rfl | refine up_ne (ne_id (by first | omega | (dsimp only; omega))) ?_)); done)); (· rfl); (· rfl)) | (apply ld_c; (· rfl); (· assumption)) | (apply ld_f; (· rfl); (· decide); (· assumption); (· rfl)) | (apply ld_f0; (· rfl); (· decide); (· assumption); (· rfl)) | (apply ld_i; (· first | assumption | rfl)) | (apply ld_R; (· first | rfl | assumption | ((repeat (first | exact upd_same _ _ _ | assumption | rfl | refine up_ne (ne_id (by first | omega | (dsimp only; omega))) ?_)); done)); (· rfl); (· assumption); (· rfl)) | (apply ld_n; (· first | rfl | assumption | ((repeat (first | exact upd_same _ _ _ | assumption | rfl | refine up_ne (ne_id (by first | omega | (dsimp only; omega))) ?_)); done)); (· assumption)) | (apply ld_S; (· first | rfl | assumption | ((repeat (first | exact upd_same _ _ _ | assumption | rfl | refine up_ne (ne_id (by first | omega | (dsimp only; omega))) ?_)); done)); (· rfl); (· first | assumption | omega); (· rfl); (· rfl); (· rfl); (· rfl)) | (apply ld_S1; (· first | rfl | assumption | ((repeat (first | exact upd_same _ _ _ | assumption | rfl | refine up_ne (ne_id (by first | omega | (dsimp only; omega))) ?_)); done)); (· rfl); (· first | assumption | omega); (· rfl)) | (apply ld_Sa; (· first | rfl | assumption | ((repeat (first | exact upd_same _ _ _ | assumption | rfl | refine up_ne (ne_id (by first | omega | (dsimp only; omega))) ?_)); done)); (· rfl); (· first | assumption | omega); (· rfl); (· rfl))) | exact recheck1.off rfl rfl rfl (by decide) | exact recheck1.offD rfl rfl rfl | exact recheck1.al rfl (by simp) rfl rfl rfl)))))
      | (apply WO.and; (· rfl); (· intro hu; first | rfl | (rw [ev]; simp [upd, *]; done)); (· rfl))
      | (apply WO.or; (· rfl); (· rfl); (· intro hu; first | rfl | (rw [ev]; simp [upd, *]; done)))
      | (apply WO.pick; (· rfl); (· rfl); (· rfl)))
  exact k.out) : A := h ⟨k⟩
theorem wk1 {A B : Prop} (k : B) (h : Left B → A := by
  intro k
  (first
      | (apply WO.mx; (· rfl); (· rfl))
      | (apply WO.qq; (· rfl); (· rfl))
      | (apply WO.gF; (· rfl); (· rfl))
      | (apply WO.gT; (· rfl))
      | (apply WO.gD; (· rfl))
      | (apply WO.ld1i; (· rfl); (· first | rfl | assumption | ((repeat (first | exact upd_same _ _ _ | assumption | rfl | refine up_ne (ne_id (by first | omega | (dsimp only; omega))) ?_)); done)); (· rfl))
      | apply W.seq
      | apply W.reg0
      | apply WO.nil0
      | apply WO.nilD
      | (apply WO.ld1m; (· rfl); (· first | rfl | assumption | ((repeat (first | exact upd_same _ _ _ | assumption | rfl | refine up_ne (ne_id (by first | omega | (dsimp only; omega))) ?_)); done)); (· rfl))
      | (apply WO.ixi; (· rfl); (· rfl); (· first | assumption | omega))
      | (apply WO.ldc; (· rfl); (· rfl); (· assumption))
      | (apply WO.ldf; (· rfl); (· rfl); (· decide); (· assumption); (· rfl))
      | (apply WO.ldf0; (· rfl); (· rfl); (· decide); (· assumption); (· rfl))
      | (apply WO.ldi1; (· rfl); (· first | assumption | rfl))
      | apply W.dreg0
      | apply W.skip
      | apply W.block
      | (apply W.ifT; (· rfl))
      | (apply W.ifF; (· rfl))
      | (apply WO.ld1; (· rfl); (· first | rfl | assumption | ((repeat (first | exact upd_same _ _ _ | assumption | rfl | refine up_ne (ne_id (by first | omega | (dsimp only; omega))) ?_)); done)); (· rfl); (· rfl))
      | (apply WO.ixr; (· rfl); (· rfl); (· first | assumption | omega))
      | (apply WO.boxa; (· rfl); (· rfl))
      | (apply WO.boxc; (· rfl); (· rfl))
      | (apply WO.al; (· rfl))
      | (apply WO.lda; (· rfl); (· first | rfl | assumption | ((repeat (first | exact upd_same _ _ _ | assumption | rfl | refine up_ne (ne_id (by first | omega | (dsimp only; omega))) ?_)); done)); (· rfl); (· rfl))
      | (apply WO.ldp; (· rfl); (· first | rfl | assumption | ((repeat (first | exact upd_same _ _ _ | assumption | rfl | refine up_ne (ne_id (by first | omega | (dsimp only; omega))) ?_)); done)); (· rfl); (· rfl))
      | (apply WO.stoa; (· rfl); (· rfl); (· first | rfl | assumption | ((repeat (first | exact upd_same _ _ _ | assumption | rfl | refine up_ne (ne_id (by first | omega | (dsimp only; omega))) ?_)); done)); (· rfl); (· rfl); (· rfl))
      | (apply WO.stl1; (· rfl); (· rfl); (· first | rfl | assumption | ((repeat (first | exact upd_same _ _ _ | assumption | rfl | refine up_ne (ne_id (by first | omega | (dsimp only; omega))) ?_)); done)); (· rfl); (· rfl); (· rfl))
      | (apply WO.stl2; (· rfl); (· rfl); (· first | rfl | assumption | ((repeat (first | exact upd_same _ _ _ | assumption | rfl | refine up_ne (ne_id (by first | omega | (dsimp only; omega))) ?_)); done)); (· rfl); (· rfl); (· rfl))
      | (apply WO.stl3; (· rfl); (· rfl); (· first | rfl | assumption | ((repeat (first | exact upd_same _ _ _ | assumption | rfl | refine up_ne (ne_id (by first | omega | (dsimp only; omega))) ?_)); done)); (· rfl); (· rfl); (· rfl))
      | (apply WO.stl4; (· rfl); (· rfl); (· first | rfl | assumption | ((repeat (first | exact upd_same _ _ _ | assumption | rfl | refine up_ne (ne_id (by first | omega | (dsimp only; omega))) ?_)); done)); (· rfl); (· rfl); (· rfl))
      | (apply WO.stl5; (· rfl); (· rfl); (· first | rfl | assumption | ((repeat (first | exact upd_same _ _ _ | assumption | rfl | refine up_ne (ne_id (by first | omega | (dsimp only; omega))) ?_)); done)); (· rfl); (· rfl); (· rfl))
      | (apply WO.sti; (· rfl); (· rfl); (· first | rfl | assumption | ((repeat (first | exact upd_same _ _ _ | assumption | rfl | refine up_ne (ne_id (by first | omega | (dsimp only; omega))) ?_)); done)); (· first | assumption | omega))
      | (apply WO.sto; (· rfl); (· rfl); (· first | rfl | assumption | ((repeat (first | exact upd_same _ _ _ | assumption | rfl | refine up_ne (ne_id (by first | omega | (dsimp only; omega))) ?_)); done)); (· rfl); (· simp))
      | (apply WO.bu1; (· rfl))
      | (apply WO.bu2; (· rfl))
      | (apply WO.bu3; (· rfl))
      | (apply WO.bu4; (· rfl))
      | (apply WO.bu5; (· rfl))
      | (apply WO.bs0; (· rfl); (· rfl))
      | (apply WO.bs1; (· rfl); (· rfl); (· rfl); (· decide); (· rfl); (· rfl))
      | (apply WO.bs1c; (· rfl); (· rfl); (· rfl); (· rfl))
      | (apply WO.apc; (· rfl); (· first | rfl | assumption | ((repeat (first | exact upd_same _ _ _ | assumption | rfl | refine up_ne (ne_id (by first | omega | (dsimp only; omega))) ?_)); done)); (· rfl); (· rfl); (· rfl); (· omega); (· infer_instance))
      | (apply WO.apo; (· rfl); (· first | rfl | assumption | ((repeat (first | exact upd_same _ _ _ | assumption | rfl | refine up_ne (ne_id (by first | omega | (dsimp only; omega))) ?_)); done)); (· rfl); (· first | rfl | assumption | ((repeat (first | exact upd_same _ _ _ | assumption | rfl | refine up_ne (ne_id (by first | omega | (dsimp only; omega))) ?_)); done)); (· rfl); (· first | rfl | (simp only [List.length_set]; done)); (· omega); (· infer_instance))
      | (apply WO.mki (l := 24); (· rfl); (· rfl); (· omega))
      | (apply WO.mki (l := 8); (· rfl); (· rfl); (· omega))
      | (apply WO.mki (l := 4); (· rfl); (· rfl); (· omega))
      | (apply WO.ldS; (· rfl); (· first | rfl | assumption | ((repeat (first | exact upd_same _ _ _ | assumption | rfl | refine up_ne (ne_id (by first | omega | (dsimp only; omega))) ?_)); done)); (· rfl); (· first | assumption | omega); (· rfl); (· rfl); (· rfl); (· rfl))
      | (apply WO.ldS1; (· rfl); (· first | rfl | assumption | ((repeat (first | exact upd_same _ _ _ | assumption | rfl | refine up_ne (ne_id (by first | omega | (dsimp only; omega))) ?_)); done)); (· rfl); (· first | assumption | omega); (· rfl))
      | (apply WO.ldSa; (· rfl); (· first | rfl | assumption | ((repeat (first | exact upd_same _ _ _ | assumption | rfl | refine up_ne (ne_id (by first | omega | (dsimp only; omega))) ?_)); done)); (· rfl); (· first | assumption | omega); (· rfl); (· rfl))
      | (apply WO.ldn1; (· rfl); (· first | rfl | assumption | ((repeat (first | exact upd_same _ _ _ | assumption | rfl | refine up_ne (ne_id (by first | omega | (dsimp only; omega))) ?_)); done)); (· assumption))
      | (apply WO.ldR; (· rfl); (· first | rfl | assumption | ((repeat (first | exact upd_same _ _ _ | assumption | rfl | refine up_ne (ne_id (by first | omega | (dsimp only; omega))) ?_)); done)); (· rfl); (· assumption); (· rfl))
      | (apply WO.ldrow; (· rfl); (· first | rfl | assumption | ((repeat (first | exact upd_same _ _ _ | assumption | rfl | refine up_ne (ne_id (by first | omega | (dsimp only; omega))) ?_)); done)); (· assumption))
      | (apply WO.stS4; (· rfl); (· rfl); (· first | rfl | assumption | ((repeat (first | exact upd_same _ _ _ | assumption | rfl | refine up_ne (ne_id (by first | omega | (dsimp only; omega))) ?_)); done)); (· rfl); (· first | assumption | omega); (· rfl); (· rfl); (· rfl); (· rfl))
      | (apply WO.stS3; (· rfl); (· rfl); (· first | rfl | assumption | ((repeat (first | exact upd_same _ _ _ | assumption | rfl | refine up_ne (ne_id (by first | omega | (dsimp only; omega))) ?_)); done)); (· rfl); (· first | assumption | omega); (· rfl); (· rfl); (· rfl); (· rfl))
      | (apply WO.stS1; (· rfl); (· rfl); (· first | rfl | assumption | ((repeat (first | exact upd_same _ _ _ | assumption | rfl | refine up_ne (ne_id (by first | omega | (dsimp only; omega))) ?_)); done)); (· rfl); (· first | assumption | omega); (· rfl); (· rfl))
      | (apply WO.stSa; (· rfl); (· rfl); (· first | rfl | assumption | ((repeat (first | exact upd_same _ _ _ | assumption | rfl | refine up_ne (ne_id (by first | omega | (dsimp only; omega))) ?_)); done)); (· rfl); (· first | assumption | omega); (· rfl); (· rfl); (· rfl))
      | (apply WO.stm4; (· rfl); (· rfl); (· first | rfl | assumption | ((repeat (first | exact upd_same _ _ _ | assumption | rfl | refine up_ne (ne_id (by first | omega | (dsimp only; omega))) ?_)); done)); (· rfl); (· rfl); (· rfl))
      | (apply WO.stm1; (· rfl); (· rfl); (· first | rfl | assumption | ((repeat (first | exact upd_same _ _ _ | assumption | rfl | refine up_ne (ne_id (by first | omega | (dsimp only; omega))) ?_)); done)); (· rfl); (· rfl); (· rfl))
      | (apply WO.qqa; (· rfl); (· rfl))
      | (apply WO.qqt; (· rfl); (· rfl))
      | apply W.dreg
      | (apply WO.nil; apply dregQ.mk; (· repeat (first | exact recheck.nil | (apply recheck.cons; (· first | (refine recheck1.ld rfl rfl ?_; first | rfl | (apply ld_cell; (· first | rfl | assumption | ((repeat (first | exact upd_same _ _ _ | assumption | rfl | refine up_ne (ne_id (by first | omega | (dsimp only; omega))) ?_)); done)); (· rfl); (· rfl)) | (apply ld_all; (· first | rfl | assumption | ((repeat (first | exact upd_same _ _ _ | assumption | rfl | refine up_ne (ne_id (by first | omega | (dsimp only; omega))) ?_)); done)); (· rfl); (· rfl)) | (apply ld_c; (· rfl); (· assumption)) | (apply ld_f; (· rfl); (· decide); (· assumption); (· rfl)) | (apply ld_f0; (· rfl); (· decide); (· assumption); (· rfl)) | (apply ld_i; (· first | assumption | rfl)) | (apply ld_R; (· first | rfl | assumption | ((repeat (first | exact upd_same _ _ _ | assumption | rfl | refine up_ne (ne_id (by first | omega | (dsimp only; omega))) ?_)); done)); (· rfl); (· assumption); (· rfl)) | (apply ld_n; (· first | rfl | assumption | ((repeat (first | exact upd_same _ _ _ | assumption | rfl | refine up_ne (ne_id (by first | omega | (dsimp only; omega))) ?_)); done)); (· assumption)) | (apply ld_S; (· first | rfl | assumption | ((repeat (first | exact upd_same _ _ _ | assumption | rfl | refine up_ne (ne_id (by first | omega | (dsimp only; omega))) ?_)); done)); (· rfl); (· first | assumption | omega); (· rfl); (· rfl); (· rfl); (· rfl)) | (apply ld_S1; (· first | rfl | assumption | ((repeat (first | exact upd_same _ _ _ | assumption | rfl | refine up_ne (ne_id (by first | omega | (dsimp only; omega))) ?_)); done)); (· rfl); (· first | assumption | omega); (· rfl)) | (apply ld_Sa; (· first | rfl | assumption | ((repeat (first | exact upd_same _ _ _ | assumption | rfl | refine up_ne (ne_id (by first | omega | (dsimp only; omega))) ?_)); done)); (· rfl); (· first | assumption | omega); (· rfl); (· rfl))) | exact recheck1.off rfl rfl rfl (by decide) | exact recheck1.offD rfl rfl rfl | exact recheck1.al rfl (by simp) rfl rfl rfl)))))
      | (apply WO.and; (· rfl); (· intro hu; first | rfl | (rw [ev]; simp [upd, *]; done)); (· rfl))
      | (apply WO.or; (· rfl); (· rfl); (· intro hu; first | rfl | (rw [ev]; simp [upd, *]; done)))
      | (apply WO.pick; (· rfl); (· rfl); (· rfl)))
  repeat (first
      | (apply WO.mx; (· rfl); (· rfl))
      | (apply WO.qq; (· rfl); (· rfl))
      | (apply WO.gF; (· rfl); (· rfl))
      | (apply WO.gT; (· rfl))
      | (apply WO.gD; (· rfl))
      | (apply WO.ld1i; (· rfl); (· first | rfl | assumption | ((repeat (first | exact upd_same _ _ _ | assumption | rfl | refine up_ne (ne_id (by first | omega | (dsimp only; omega))) ?_)); done)); (· rfl))
      | apply W.seq
      | apply W.reg0
      | apply WO.nil0
      | apply WO.nilD
      | (apply WO.ld1m; (· rfl); (· first | rfl | assumption | ((repeat (first | exact upd_same _ _ _ | assumption | rfl | refine up_ne (ne_id (by first | omega | (dsimp only; omega))) ?_)); done)); (· rfl))
      | (apply WO.ixi; (· rfl); (· rfl); (· first | assumption | omega))
      | (apply WO.ldc; (· rfl); (· rfl); (· assumption))
      | (apply WO.ldf; (· rfl); (· rfl); (· decide); (· assumption); (· rfl))
      | (apply WO.ldf0; (· rfl); (· rfl); (· decide); (· assumption); (· rfl))
      | (apply WO.ldi1; (· rfl); (· first | assumption | rfl))
      | apply W.dreg0
      | apply W.skip
      | apply W.block
      | (apply W.ifT; (· rfl))
      | (apply W.ifF; (· rfl))
      | (apply WO.ld1; (· rfl); (· first | rfl | assumption | ((repeat (first | exact upd_same _ _ _ | assumption | rfl | refine up_ne (ne_id (by first | omega | (dsimp only; omega))) ?_)); done)); (· rfl); (· rfl))
      | (apply WO.ixr; (· rfl); (· rfl); (· first | assumption | omega))
      | (apply WO.boxa; (· rfl); (· rfl))
      | (apply WO.boxc; (· rfl); (· rfl))
      | (apply WO.al; (· rfl))
      | (apply WO.lda; (· rfl); (· first | rfl | assumption | ((repeat (first | exact upd_same _ _ _ | assumption | rfl | refine up_ne (ne_id (by first | omega | (dsimp only; omega))) ?_)); done)); (· rfl); (· rfl))
      | (apply WO.ldp; (· rfl); (· first | rfl | assumption | ((repeat (first | exact upd_same _ _ _ | assumption | rfl | refine up_ne (ne_id (by first | omega | (dsimp only; omega))) ?_)); done)); (· rfl); (· rfl))
      | (apply WO.stoa; (· rfl); (· rfl); (· first | rfl | assumption | ((repeat (first | exact upd_same _ _ _ | assumption | rfl | refine up_ne (ne_id (by first | omega | (dsimp only; omega))) ?_)); done)); (· rfl); (· rfl); (· rfl))
      | (apply WO.stl1; (· rfl); (· rfl); (· first | rfl | assumption | ((repeat (first | exact upd_same _ _ _ | assumption | rfl | refine up_ne (ne_id (by first | omega | (dsimp only; omega))) ?_)); done)); (· rfl); (· rfl); (· rfl))
      | (apply WO.stl2; (· rfl); (· rfl); (· first | rfl | assumption | ((repeat (first | exact upd_same _ _ _ | assumption | rfl | refine up_ne (ne_id (by first | omega | (dsimp only; omega))) ?_)); done)); (· rfl); (· rfl); (· rfl))
      | (apply WO.stl3; (· rfl); (· rfl); (· first | rfl | assumption | ((repeat (first | exact upd_same _ _ _ | assumption | rfl | refine up_ne (ne_id (by first | omega | (dsimp only; omega))) ?_)); done)); (· rfl); (· rfl); (· rfl))
      | (apply WO.stl4; (· rfl); (· rfl); (· first | rfl | assumption | ((repeat (first | exact upd_same _ _ _ | assumption | rfl | refine up_ne (ne_id (by first | omega | (dsimp only; omega))) ?_)); done)); (· rfl); (· rfl); (· rfl))
      | (apply WO.stl5; (· rfl); (· rfl); (· first | rfl | assumption | ((repeat (first | exact upd_same _ _ _ | assumption | rfl | refine up_ne (ne_id (by first | omega | (dsimp only; omega))) ?_)); done)); (· rfl); (· rfl); (· rfl))
      | (apply WO.sti; (· rfl); (· rfl); (· first | rfl | assumption | ((repeat (first | exact upd_same _ _ _ | assumption | rfl | refine up_ne (ne_id (by first | omega | (dsimp only; omega))) ?_)); done)); (· first | assumption | omega))
      | (apply WO.sto; (· rfl); (· rfl); (· first | rfl | assumption | ((repeat (first | exact upd_same _ _ _ | assumption | rfl | refine up_ne (ne_id (by first | omega | (dsimp only; omega))) ?_)); done)); (· rfl); (· simp))
      | (apply WO.bu1; (· rfl))
      | (apply WO.bu2; (· rfl))
      | (apply WO.bu3; (· rfl))
      | (apply WO.bu4; (· rfl))
      | (apply WO.bu5; (· rfl))
      | (apply WO.bs0; (· rfl); (· rfl))
      | (apply WO.bs1; (· rfl); (· rfl); (· rfl); (· decide); (· rfl); (· rfl))
      | (apply WO.bs1c; (· rfl); (· rfl); (· rfl); (· rfl))
      | (apply WO.apc; (· rfl); (· first | rfl | assumption | ((repeat (first | exact upd_same _ _ _ | assumption | rfl | refine up_ne (ne_id (by first | omega | (dsimp only; omega))) ?_)); done)); (· rfl); (· rfl); (· rfl); (· omega); (· infer_instance))
      | (apply WO.apo; (· rfl); (· first | rfl | assumption | ((repeat (first | exact upd_same _ _ _ | assumption | rfl | refine up_ne (ne_id (by first | omega | (dsimp only; omega))) ?_)); done)); (· rfl); (· first | rfl | assumption | ((repeat (first | exact upd_same _ _ _ | assumption | rfl | refine up_ne (ne_id (by first | omega | (dsimp only; omega))) ?_)); done)); (· rfl); (· first | rfl | (simp only [List.length_set]; done)); (· omega); (· infer_instance))
      | (apply WO.mki (l := 24); (· rfl); (· rfl); (· omega))
      | (apply WO.mki (l := 8); (· rfl); (· rfl); (· omega))
      | (apply WO.mki (l := 4); (· rfl); (· rfl); (· omega))
      | (apply WO.ldS; (· rfl); (· first | rfl | assumption | ((repeat (first | exact upd_same _ _ _ | assumption | rfl | refine up_ne (ne_id (by first | omega | (dsimp only; omega))) ?_)); done)); (· rfl); (· first | assumption | omega); (· rfl); (· rfl); (· rfl); (· rfl))
      | (apply WO.ldS1; (· rfl); (· first | rfl | assumption | ((repeat (first | exact upd_same _ _ _ | assumption | rfl | refine up_ne (ne_id (by first | omega | (dsimp only; omega))) ?_)); done)); (· rfl); (· first | assumption | omega); (· rfl))
      | (apply WO.ldSa; (· rfl); (· first | rfl | assumption | ((repeat (first | exact upd_same _ _ _ | assumption | rfl | refine up_ne (ne_id (by first | omega | (dsimp only; omega))) ?_)); done)); (· rfl); (· first | assumption | omega); (· rfl); (· rfl))
      | (apply WO.ldn1; (· rfl); (· first | rfl | assumption | ((repeat (first | exact upd_same _ _ _ | assumption | rfl | refine up_ne (ne_id (by first | omega | (dsimp only; omega))) ?_)); done)); (· assumption))
      | (apply WO.ldR; (· rfl); (· first | rfl | assumption | ((repeat (first | exact upd_same _ _ _ | assumption | rfl | refine up_ne (ne_id (by first | omega | (dsimp only; omega))) ?_)); done)); (· rfl); (· assumption); (· rfl))
      | (apply WO.ldrow; (· rfl); (· first | rfl | assumption | ((repeat (first | exact upd_same _ _ _ | assumption | rfl | refine up_ne (ne_id (by first | omega | (dsimp only; omega))) ?_)); done)); (· assumption))
      | (apply WO.stS4; (· rfl); (· rfl); (· first | rfl | assumption | ((repeat (first | exact upd_same _ _ _ | assumption | rfl | refine up_ne (ne_id (by first | omega | (dsimp only; omega))) ?_)); done)); (· rfl); (· first | assumption | omega); (· rfl); (· rfl); (· rfl); (· rfl))
      | (apply WO.stS3; (· rfl); (· rfl); (· first | rfl | assumption | ((repeat (first | exact upd_same _ _ _ | assumption | rfl | refine up_ne (ne_id (by first | omega | (dsimp only; omega))) ?_)); done)); (· rfl); (· first | assumption | omega); (· rfl); (· rfl); (· rfl); (· rfl))
      | (apply WO.stS1; (· rfl); (· rfl); (· first | rfl | assumption | ((repeat (first | exact upd_same _ _ _ | assumption | rfl | refine up_ne (ne_id (by first | omega | (dsimp only; omega))) ?_)); done)); (· rfl); (· first | assumption | omega); (· rfl); (· rfl))
      | (apply WO.stSa; (· rfl); (· rfl); (· first | rfl | assumption | ((repeat (first | exact upd_same _ _ _ | assumption | rfl | refine up_ne (ne_id (by first | omega | (dsimp only; omega))) ?_)); done)); (· rfl); (· first | assumption | omega); (· rfl); (· rfl); (· rfl))
      | (apply WO.stm4; (· rfl); (· rfl); (· first | rfl | assumption | ((repeat (first | exact upd_same _ _ _ | assumption | rfl | refine up_ne (ne_id (by first | omega | (dsimp only; omega))) ?_)); done)); (· rfl); (· rfl); (· rfl))
      | (apply WO.stm1; (· rfl); (· rfl); (· first | rfl | assumption | ((repeat (first | exact upd_same _ _ _ | assumption | rfl | refine up_ne (ne_id (by first | omega | (dsimp only; omega))) ?_)); done)); (· rfl); (· rfl); (· rfl))
      | (apply WO.qqa; (· rfl); (· rfl))
      | (apply WO.qqt; (· rfl); (· rfl))
      | apply W.dreg
      | (apply WO.nil; apply dregQ.mk; (· repeat (first | exact recheck.nil | (apply recheck.cons; (· first | (refine recheck1.ld rfl rfl ?_; first | rfl | (apply ld_cell; (· first | rfl | assumption | ((repeat (first | exact upd_same _ _ _ | assumption | rfl | refine up_ne (ne_id (by first | omega | (dsimp only; omega))) ?_)); done)); (· rfl); (· rfl)) | (apply ld_all; (· first | rfl | assumption | ((repeat (first | exact upd_same _ _ _ | assumption | rfl | refine up_ne (ne_id (by first | omega | (dsimp only; omega))) ?_)); done)); (· rfl); (· rfl)) | (apply ld_c; (· rfl); (· assumption)) | (apply ld_f; (· rfl); (· decide); (· assumption); (· rfl)) | (apply ld_f0; (· rfl); (· decide); (· assumption); (· rfl)) | (apply ld_i; (· first | assumption | rfl)) | (apply ld_R; (· first | rfl | assumption | ((repeat (first | exact upd_same _ _ _ | assumption | rfl | refine up_ne (ne_id (by first | omega | (dsimp only; omega))) ?_)); done)); (· rfl); (· assumption); (· rfl)) | (apply ld_n; (· first | rfl | assumption | ((repeat (first | exact upd_same _ _ _ | assumption | rfl | refine up_ne (ne_id (by first | omega | (dsimp only; omega))) ?_)); done)); (· assumption)) | (apply ld_S; (· first | rfl | assumption | ((repeat (first | exact upd_same _ _ _ | assumption | rfl | refine up_ne (ne_id (by first | omega | (dsimp only; omega))) ?_)); done)); (· rfl); (· first | assumption | omega); (· rfl); (· rfl); (· rfl); (· rfl)) | (apply ld_S1; (· first | rfl | assumption | ((repeat (first | exact upd_same _ _ _ | assumption | rfl | refine up_ne (ne_id (by first | omega | (dsimp only; omega))) ?_)); done)); (· rfl); (· first | assumption | omega); (· rfl)) | (apply ld_Sa; (· first | rfl | assumption | ((repeat (first | exact upd_same _ _ _ | assumption | rfl | refine up_ne (ne_id (by first | omega | (dsimp only; omega))) ?_)); done)); (· rfl); (· first | assumption | omega); (· rfl); (· rfl))) | exact recheck1.off rfl rfl rfl (by decide) | exact recheck1.offD rfl rfl rfl | exact recheck1.al rfl (by simp) rfl rfl rfl)))))
      | (apply WO.and; (· rfl); (· intro hu; first | rfl | (rw [ev]; simp [upd, *]; done)); (· rfl))
      | (apply WO.or; (· rfl); (· rfl); (· intro hu; first | rfl | (rw [ev]; simp [upd, *]; done)))
      | (apply WO.pick; (· rfl); (· rfl); (· rfl)))
  exact k.out) : A := h ⟨k⟩
end Go.Proofs.Ytgodaiiegcdpcaa.Abs
end
section
set_option linter.unusedVariables false
set_option linter.unusedSimpArgs false
namespace Go.Proofs.Ytgodaiiegcdpcaa.Abs

structure B8 where
  v : Int
  deriving Inhabited
instance : Enc B8 := ⟨1, fun b => [.int .u8 b.v], fun _ => rfl⟩
structure Cur where
  b : List B8
  i : Nat
  h : Int
def Cur.C (c : Cur) : List Go.Proofs.Ytgodaiiegcdpcaa.Abs.C := [.imm false 1 c.b.length (cl false c.b), .int .i64 (c.i : Int), .int .i64 c.h]
structure Cur.ok (c : Cur) : Prop where
  i : c.i ≤ c.b.length
  b : c.b.length < 2 ^ 40

/-- How a function ends that is handed a cursor. -/
structure endC (res : List ARes) (P : V → Cur → Prop) (ex : AEx) (s : St) : Prop where
  ex : ex = .normal ∨ ex = .ret
  ans : ∃ us H1 c, Ans s s.H res us H1 ∧ H1 (0, 0, 0, 0) = some (Cur.C c) ∧ P (pack us) c

theorem endC.of {res : List ARes} {P : V → Cur → Prop} {ex : AEx} {s : St} {us : List V} {H1 : Heap} {b : List B8} {i : Nat} {z h : Int} (hx : ex = .normal ∨ ex = .ret) (ha : Ans s s.H res us H1) (hH : H1 (0, 0, 0, 0) = some [.imm false 1 b.length (cl false b), .int .i64 z, .int .i64 h]) (hz : z = (i : Int)) (hp : P (pack us) ⟨b, i, h⟩) : endC res P ex s :=
  ⟨hx, us, H1, ⟨b, i, h⟩, ha, by rw [hH, hz]; rfl, hp⟩

theorem W.cur {Γ : FuncId → Option AFn} {f : FuncId} {fn : AFn} {args : List V} {c : Cur} {P : V → Cur → Prop} (hf : Γ f = some fn) (ha : args.length = fn.np) (h : W Γ fn.body (start args [c.C]) (endC fn.res P)) :
    ∃ v c', P v c' ∧ Runs Γ (.fn f args [c.C] v [Cur.C c']) := by
  obtain ⟨ex, s', h1, ⟨h2, us, H1, c', h3, h4, h5⟩⟩ := h
  obtain ⟨vs, q1, k0, q2⟩ := h3.take
  have q3 := q2 (max k0 4) (by omega)
  have q4 : takeL (max k0 4) (upd H1 (0, 0, 0, 0) none) (Cur.C c') = some (Cur.C c', upd H1 (0, 0, 0, 0) none) := takeL_flat (by rfl) (by simp [Cur.C]; omega)
  refine ⟨_, c', h5, .fn hf ha h1 h2 q1 q3 (H2 := upd H1 (0, 0, 0, 0) none) ?_⟩
  simp only [List.length_singleton, takeBack, h4, q4]

section
variable {Γ : FuncId → Option AFn} {T : Nat → V} {H H4 : Heap} {n ix d : Nat} {os : List AOper} {R : List Heap → St → Prop} {x : Opd} {e : Id} {f : FuncId} {as : List (Mode × Opd)} {us : List V} {v v' : V} {c c' : Cur}

theorem WO.cur (hx : ev T x = .c (.ptr e [] 0)) (hH : H e = some (Cur.C c)) (hl : LA (upd H e (some [.dead, .dead, .dead])) T as us) (hf : Runs Γ (.fn f (.c (.ptr (0, 0, 0, 0) [] 0) :: us) [Cur.C c] v [Cur.C c']))
    (hv : bringV (n, ix, 0) (upd (upd H e (some [.dead, .dead, .dead])) e (some (Cur.C c'))) v = (v', H4)) (h : Nx Γ os (upd T d v') H H4 n R) : WO Γ (⟨ix, some d, none, .call f ((.io 3, x) :: as)⟩ :: os) ⟨T, H, n⟩ R := by
  obtain ⟨k1, us', h1, h2⟩ := hl.passes
  refine WO.call (max 4 k1) (f := f) (as := (.io 3, x) :: as) (rs := [⟨e, [], 0, 3⟩]) (zss := [Cur.C c]) (H1 := upd H e (some [.dead, .dead, .dead])) (H2 := upd H e (some [.dead, .dead, .dead])) (ms := []) (us := .c (.ptr (0, 0, 0, 0) [] 0) :: us') (v := v) (zss' := [Cur.C c'])
    (H3 := upd (upd H e (some [.dead, .dead, .dead])) e (some (Cur.C c'))) rfl (.inl rfl) ?_ ?_ ?_ ?_ ?_ hv h
  · show takeRoots _ [] H ((.io 3, ev T x) :: args2 T as) = _
    rw [hx]
    simp only [takeRoots, List.all_nil, and_true]
    rw [if_pos (by decide)]
    have hc : cut 0 3 (Cur.C c) = some (Cur.C c) := rfl
    have hw : wr 0 (List.replicate 3 .dead) (Cur.C c) = some [.dead, .dead, .dead] := rfl
    have ht : takeL (max 4 k1) (upd H e (some [.dead, .dead, .dead])) (Cur.C c) = some (Cur.C c, upd H e (some [.dead, .dead, .dead])) := takeL_flat (by rfl) (by simp [Cur.C]; omega)
    simp only [getN_nil hH, hc, turnN, hH, turn, hw, ht, hl.roots]
  · show takeMvs _ _ ((.io 3, ev T x) :: args2 T as) = _
    simp only [takeMvs, hl.mvs]
  · show passArgs _ H _ _ _ 0 [] ((.io 3, ev T x) :: args2 T as) = _
    simp only [passArgs, h2 (max 4 k1) (by omega)]
  · exact .weak (by simp only [leVs]; exact ⟨_, us, rfl, leV_refl _, h1⟩) hf
  · simp only [backRoots]
    rw [if_pos (show (Cur.C c').length = 3 from rfl)]
    have hb : bring (n, ix, 0 + 1) 0 (upd H e (some [.dead, .dead, .dead])) (Cur.C c') = (Cur.C c', upd H e (some [.dead, .dead, .dead])) := rfl
    have hw : wr 0 (Cur.C c') [.dead, .dead, .dead] = some (Cur.C c') := rfl
    simp only [hb, turnN, upd_same, turn, hw]

/-- A number drawn. -/
theorem WO.curi {k : IntKind} {z : Int} (hx : ev T x = .c (.ptr e [] 0)) (hH : H e = some (Cur.C c)) (hl : LA (upd H e (some [.dead, .dead, .dead])) T as us) (hf : Runs Γ (.fn f (.c (.ptr (0, 0, 0, 0) [] 0) :: us) [Cur.C c] (.c (.int k z)) [Cur.C c']))
    (h : Nx Γ os (upd T d (.c (.int k z))) H (upd (upd H e (some [.dead, .dead, .dead])) e (some (Cur.C c'))) n R) : WO Γ (⟨ix, some d, none, .call f ((.io 3, x) :: as)⟩ :: os) ⟨T, H, n⟩ R := .cur hx hH hl hf rfl h
theorem WO.curb {z : Bool} (hx : ev T x = .c (.ptr e [] 0)) (hH : H e = some (Cur.C c)) (hl : LA (upd H e (some [.dead, .dead, .dead])) T as us) (hf : Runs Γ (.fn f (.c (.ptr (0, 0, 0, 0) [] 0) :: us) [Cur.C c] (.c (.bool z)) [Cur.C c']))
    (h : Nx Γ os (upd T d (.c (.bool z))) H (upd (upd H e (some [.dead, .dead, .dead])) e (some (Cur.C c'))) n R) : WO Γ (⟨ix, some d, none, .call f ((.io 3, x) :: as)⟩ :: os) ⟨T, H, n⟩ R := .cur hx hH hl hf rfl h
theorem WO.curs {xs : List C} (hx : ev T x = .c (.ptr e [] 0)) (hH : H e = some (Cur.C c)) (hl : LA (upd H e (some [.dead, .dead, .dead])) T as us) (hf : Runs Γ (.fn f (.c (.ptr (0, 0, 0, 0) [] 0) :: us) [Cur.C c] (.agg xs) [Cur.C c'])) (hp : xs.all flatC = true)
    (h : Nx Γ os (upd T d (.agg xs)) H (upd (upd H e (some [.dead, .dead, .dead])) e (some (Cur.C c'))) n R) : WO Γ (⟨ix, some d, none, .call f ((.io 3, x) :: as)⟩ :: os) ⟨T, H, n⟩ R := by
  have hb : ∀ (xs : List C) (k : Nat) (H : Heap), xs.all flatC = true → bring (n, ix, 0) k H xs = (xs, H) := by
    intro xs
    induction xs with
    | nil => intros; rfl
    | cons c cs ih =>
      intro k H hp
      simp only [List.all_cons, Bool.and_eq_true] at hp
      cases c <;> first
        | (simp only [bring, ih _ _ hp.2]; done)
        | cases hp.1
  exact .cur hx hH hl hf (by simp only [bringV, bringT, hb xs _ _ hp, List.headD_cons]) h
theorem WO.curr {α : Type} {_ : Enc α} {L : List α} (hx : ev T x = .c (.ptr e [] 0)) (hH : H e = some (Cur.C c)) (hl : LA (upd H e (some [.dead, .dead, .dead])) T as us) (hf : Runs Γ (.fn f (.c (.ptr (0, 0, 0, 0) [] 0) :: us) [Cur.C c] (.c (rS L).ow) [Cur.C c']))
    (h : Nx Γ os (upd T d (.c (.ref (n, ix, 0, 0) [] (Enc.k α) 0 L.length))) H (upd (upd (upd H e (some [.dead, .dead, .dead])) e (some (Cur.C c'))) (n, ix, 0, 0) (some (co L))) n R) : WO Γ (⟨ix, some d, none, .call f ((.io 3, x) :: as)⟩ :: os) ⟨T, H, n⟩ R := .cur hx hH hl hf rfl h
theorem WO.cura {ds : List D} {cs : List C} (hx : ev T x = .c (.ptr e [] 0)) (hH : H e = some (Cur.C c)) (hl : LA (upd H e (some [.dead, .dead, .dead])) T as us) (hf : Runs Γ (.fn f (.c (.ptr (0, 0, 0, 0) [] 0) :: us) [Cur.C c] (.agg (owL ds)) [Cur.C c']))
    (hb : Br n ix 0 0 (upd (upd H e (some [.dead, .dead, .dead])) e (some (Cur.C c'))) ds cs H4) (h : Nx Γ os (upd T d (.agg cs)) H H4 n R) : WO Γ (⟨ix, some d, none, .call f ((.io 3, x) :: as)⟩ :: os) ⟨T, H, n⟩ R := .cur hx hH hl hf (by simp only [bringV, bringT, hb.eq, List.headD_cons]) h
theorem WO.curt {vs ws : List V} (hx : ev T x = .c (.ptr e [] 0)) (hH : H e = some (Cur.C c)) (hl : LA (upd H e (some [.dead, .dead, .dead])) T as us) (hf : Runs Γ (.fn f (.c (.ptr (0, 0, 0, 0) [] 0) :: us) [Cur.C c] (.tup vs) [Cur.C c']))
    (hb : BrT n ix 0 0 (upd (upd H e (some [.dead, .dead, .dead])) e (some (Cur.C c'))) vs ws H4) (h : Nx Γ os (upd T d (.tup ws)) H H4 n R) : WO Γ (⟨ix, some d, none, .call f ((.io 3, x) :: as)⟩ :: os) ⟨T, H, n⟩ R := .cur hx hH hl hf (by simp only [bringV, hb.eq]) h
/-- A call that answers a new cursor. -/
theorem WO.cbx (hf : Runs Γ (.fn f us [] (.bx (Cur.C c)) [])) (hl : LA H T as us) (h : Nx Γ os (upd T d (.c (.ptr (n, ix, 0, 0) [] 0))) H (upd H (n, ix, 0, 0) (some (Cur.C c))) n R) : WO Γ (⟨ix, some d, none, .call f as⟩ :: os) ⟨T, H, n⟩ R := .cim hf hl rfl h
end

theorem endQ.bx {P : V → Prop} {ex : AEx} {s : St} {t : Nat} {e : Id} {c : Cur} (hx : ex = .normal ∨ ex = .ret) (ht : s.T t = .c (.ptr e [] 0)) (hH : s.H e = some (Cur.C c)) (hp : P (.bx (Cur.C c))) : endQ [.tmp t] P ex s := by
  refine ⟨hx, [.c (.ptr e [] 0)], [.bx (Cur.C c)], 4, upd s.H e none, by simp only [resAll, resOne, ht], ?_, hp⟩
  have h1 : takeL 4 (upd s.H e none) (Cur.C c) = some (Cur.C c, upd s.H e none) := takeL_flat (by rfl) (by simp [Cur.C])
  simp only [takeT, takeU, hH, h1]

theorem and_byte (a : Int) : 0 ≤ IntKind.i64.wrap ((BitVec.ofInt IntKind.i64.bits a &&& BitVec.ofInt IntKind.i64.bits 255).toNat : Int) ∧ IntKind.i64.wrap ((BitVec.ofInt IntKind.i64.bits a &&& BitVec.ofInt IntKind.i64.bits 255).toNat : Int) < 256 := by
  have h1 : (BitVec.ofInt IntKind.i64.bits a &&& BitVec.ofInt IntKind.i64.bits 255).toNat ≤ 255 := by
    rw [BitVec.toNat_and]
    exact Nat.and_le_right
  rw [wrap_in (by omega)]
  omega
theorem WO.rem {Γ : FuncId → Option AFn} {T : Nat → V} {H : Heap} {n ix d : Nat} {os : List AOper} {R : List Heap → St → Prop} {x y : Opd} {k : IntKind} {a b : Int} (hx : ev T x = .c (.int k a)) (hy : ev T y = .c (.int k b)) (hb : b ≠ 0) (h : Nx Γ os (upd T d (.c (.int k (a.tmod b)))) H H n R) : WO Γ (⟨ix, some d, none, .bin .rem x y⟩ :: os) ⟨T, H, n⟩ R :=
  WO.bin (c := .int k (a.tmod b)) hx hy (by simp [binC, intBin, hb]) h
theorem tmod_below {a n : Int} (ha : 0 ≤ a) (hn : 0 < n) : 0 ≤ a.tmod n ∧ a.tmod n < n := ⟨Int.tmod_nonneg n ha, Int.tmod_lt_of_pos a hn⟩
theorem ld_Co {H : Heap} {e : Id} {α : Type} {_ : Enc α} {L : List α} {i r j : Nat} {u : α} {c : C} (hH : H e = some (co L)) (hk : Enc.k α = r) (hL : L[i]? = some u) (hj : Nat.blt j r = true) (hc : (owL (Enc.d u))[j]? = some c) (hp : plainC c = true) : loadV H (.c (.ptr e [] (0 + i * r + j))) 1 false = some (.c c) := by
  rw [seg_co hL] at hH
  exact ld_S hH hk (List.getElem?_eq_some_iff.1 hL).1 (by rw [owL_len, Enc.len, hk]) hj hc hp
/-- One cell of one element of an owned row. -/
theorem WO.ldCo {Γ : FuncId → Option AFn} {T : Nat → V} {H : Heap} {n ix d : Nat} {os : List AOper} {R : List Heap → St → Prop} {x : Opd} {e : Id} {α : Type} {_ : Enc α} {L : List α} {i r j : Nat} {u : α} {c : C} (hx : ev T x = .c (.ptr e [] (0 + i * r + j))) (hH : H e = some (co L)) (hk : Enc.k α = r) (hL : L[i]? = some u) (hj : Nat.blt j r = true) (hc : (owL (Enc.d u))[j]? = some c) (hp : plainC c = true) (h : Nx Γ os (upd T d (.c c)) H H n R) : WO Γ (⟨ix, some d, none, .load x 1 false⟩ :: os) ⟨T, H, n⟩ R :=
  WO.ld (v := .c c) (by rw [hx]; exact ld_Co hH hk hL hj hc hp) h
/-- A new row of numbers. -/
theorem WO.bsI {Γ : FuncId → Option AFn} {T : Nat → V} {H : Heap} {n ix d m : Nat} {os : List AOper} {R : List Heap → St → Prop} (L : List Int) {zero : List C} {ps : List (Nat × Nat × Opd)} (hm : m ≤ 2 ^ 20) (hz : zero = [.int .i64 0]) (hf : fillC T (rep m zero) ps = some (co L))
    (h : Nx Γ os (upd T d (.c (.ref (n, ix, 0, 0) [] 1 0 m))) H (upd H (n, ix, 0, 0) (some (co L))) n R) : WO Γ (⟨ix, some d, none, .bslice 1 m zero ps⟩ :: os) ⟨T, H, n⟩ R := by
  subst hz
  exact WO.bs ⟨by omega, rfl, rfl⟩ hf h
end Go.Proofs.Ytgodaiiegcdpcaa.Abs
end
section
set_option linter.unusedVariables false
set_option linter.unusedSimpArgs false
namespace Go.Proofs.Ytgodaiiegcdpcaa.Abs
section
variable {H : Heap} {e : Id} {α : Type} {_ : Enc α} {L : List α} {i r j : Nat} {u : α} {sz m : Nat} {ys : List C}
theorem getN_co (hH : H e = some (co L)) (hk : Enc.k α = r) (hL : L[i]? = some u) (hj : Nat.blt j r = true) (hc : (owL (Enc.d u))[j]? = some (.inl sz m ys)) : getN H e [0 + i * r + j] = some ys :=
  getN_of hH (walk_cons (by rw [Nat.zero_add, co_get L hL hk (Nat.le_of_ble_eq_true hj)]; exact hc) rfl)
theorem ld_Rl (hH : H e = some (co L)) (hk : Enc.k α = r) (hL : L[i]? = some u) : loadV H (.c (.ptr e [] (0 + i * r))) r true = some (.agg (looks e [] (0 + i * r) (owL (Enc.d u)))) := by
  simp only [loadV, getN_nil hH]
  rw [show cut (0 + i * r) r (co L) = some (owL (Enc.d u)) by rw [Nat.zero_add]; exact co_cut L hL hk]
  simp only [mkV, if_true]
end
section
variable {Γ : FuncId → Option AFn} {T : Nat → V} {H : Heap} {n ix d : Nat} {os : List AOper} {R : List Heap → St → Prop} {x : Opd} {e : Id} {α : Type} {_ : Enc α} {L : List α} {i r : Nat} {u : α}
/-- One element of an owned row, its own rows told by their places. -/
theorem WO.ldRl {a0 a1 a2 a3 : C} (hx : ev T x = .c (.ptr e [] (0 + i * 4))) (hH : H e = some (co L)) (hk : Enc.k α = 4) (hL : L[i]? = some u) (hs : looks e [] (0 + i * 4) (owL (Enc.d u)) = [a0, a1, a2, a3]) (h : Nx Γ os (upd T d (.agg [a0, a1, a2, a3])) H H n R) : WO Γ (⟨ix, some d, none, .load x 4 true⟩ :: os) ⟨T, H, n⟩ R := by
  rw [← hs] at h
  exact WO.ld (v := .agg _) (by rw [hx]; exact ld_Rl hH hk hL) h
end
/-- A row that lies in an element of an owned row. -/
theorem WO.ldCl {Γ : FuncId → Option AFn} {T : Nat → V} {H : Heap} {n ix d : Nat} {os : List AOper} {R : List Heap → St → Prop} {x : Opd} {e : Id} {α : Type} {_ : Enc α} {L : List α} {i r j sz m : Nat} {u : α} {ys : List C} (hx : ev T x = .c (.ptr e [] (0 + i * r + j))) (hH : H e = some (co L)) (hk : Enc.k α = r) (hL : L[i]? = some u) (hj : Nat.blt j r = true)
    (hc : (owL (Enc.d u))[j]? = some (.inl sz m ys)) (h : Nx Γ os (upd T d (.c (.ref e [0 + i * r + j] sz 0 m))) H H n R) : WO Γ (⟨ix, some d, none, .load x 1 false⟩ :: os) ⟨T, H, n⟩ R :=
  WO.ldo hx (getN_nil hH) (ys := ys) (by rw [Nat.zero_add, co_get L hL hk (Nat.le_of_ble_eq_true hj)]; exact hc) h
theorem ld_Rl4 {H : Heap} {e : Id} {α : Type} {_ : Enc α} {L : List α} {i : Nat} {u : α} {a0 a1 a2 a3 : C} (hH : H e = some (co L)) (hk : Enc.k α = 4) (hL : L[i]? = some u) (hs : looks e [] (0 + i * 4) (owL (Enc.d u)) = [a0, a1, a2, a3]) : loadV H (.c (.ptr e [] (0 + i * 4))) 4 true = some (.agg [a0, a1, a2, a3]) := by
  rw [← hs]
  exact ld_Rl hH hk hL
theorem LA.evp {H : Heap} {T : Nat → V} {x : Opd} {e : Id} {α β : Type} {_ : Enc α} {_ : Enc β} {L : List α} {M : List β} {i sz : Nat} {u : α} {as : List (Mode × Opd)} {us : List V} (r j : Nat) (hx : Go.Proofs.Ytgodaiiegcdpcaa.Abs.ev T x = .c (.ref e [0 + i * r + j] sz 0 M.length)) (hH : H e = some (co L)) (hk : Enc.k α = r) (hL : L[i]? = some u) (hj : Nat.blt j r = true)
    (hc : (owL (Enc.d u))[j]? = some (.inl sz M.length (co M))) (hkb : Enc.k β = sz) (h : LA H T as us) : LA H T ((.im, x) :: as) (.c (.imm true sz M.length (cl true M)) :: us) := by
  subst hkb
  refine .cons ?_ h
  rw [hx]
  refine ⟨.c ((rS M).im true), ⟨(rS M).dep + 2, fun k hk => ?_⟩, true, _, rfl, leC.refl true _⟩
  have hg := getN_co (sz := Enc.k β) hH ‹_› hL hj hc
  have hlen : (co M).length = M.length * Enc.k β := co_len M
  have hcut : cut 0 (M.length * Enc.k β) (co M) = some (co M) := by rw [cut_get (by omega), List.drop_zero, List.take_of_length_le (by omega)]
  have hd : depL (M.flatMap Enc.d) < (rS M).dep := by simp only [rS, D.dep]; omega
  obtain ⟨k', rfl⟩ : ∃ k', k = k' + 1 := ⟨k - 1, by omega⟩
  refine snapU_c ?_
  simp only [snap, hg, co, live_ow, if_true]
  rw [show cut 0 (M.length * Enc.k β) (owL (M.flatMap Enc.d)) = some (owL (M.flatMap Enc.d)) from hcut]
  simp only [snaps_ow H (M.flatMap Enc.d) k' (by omega), Option.map_some, rS, D.im]
/-- A place whose number is told. -/
theorem WO.ixc {Γ : FuncId → Option AFn} {T : Nat → V} {H : Heap} {n ix d : Nat} {os : List AOper} {R : List Heap → St → Prop} {x : Opd} {e : Id} {p : List Nat} {k : IntKind} {z : Int} {lo sz m : Nat} (off : Nat) (hx : ev T x = .c (.ref e p sz lo m)) (hz : z = (off : Int)) (hm : off < m) (h : Nx Γ os (upd T d (.c (.ptr e p (lo + off * sz)))) H H n R) :
    WO Γ (⟨ix, some d, none, .ix x (.k (.int k z)) sz⟩ :: os) ⟨T, H, n⟩ R := WO.ixr (off := off) hx (by subst hz; rfl) hm h
/-- All but the first ones. -/
theorem WO.slcl {Γ : FuncId → Option AFn} {T : Nat → V} {H : Heap} {n ix d : Nat} {os : List AOper} {R : List Heap → St → Prop} {x y : Opd} {e : Id} {p : List Nat} {k : IntKind} {z : Int} {lo sz m : Nat} (l : Nat) (hx : ev T x = .c (.ref e p sz lo m)) (hy : ev T y = .c (.int k z)) (hz : z = (l : Int)) (hm : l ≤ m) (h : Nx Γ os (upd T d (.c (.ref e p sz (lo + l * sz) (m - l)))) H H n R) :
    WO Γ (⟨ix, some d, none, .slc x (some y) none sz⟩ :: os) ⟨T, H, n⟩ R := by
  subst hz
  refine WO.q (v := .c (.ref e p sz (lo + l * sz) (m - l))) ?_ h
  have h1 : (0 : Int) ≤ (l : Int) ∧ (l : Int) ≤ (m : Int) := by omega
  simp only [quiet, hx, Option.map_none, Option.map_some, hy, boundO, boundC, h1, and_self, if_true, Int.toNat_natCast]
theorem own_part {H : Heap} {α : Type} [Enc α] {e : Id} {L : List α} {sz lo n k : Nat} (hH : H e = some (co L)) (hk : Enc.k α = sz) (hlo : lo = k * sz) (hk1 : k ≤ L.length) (hn : (L.drop k).length = n) : Own H [e] (.ref e [] sz lo n) (rS (L.drop k)) := by
  subst hk hn hlo
  have hc : cut (k * Enc.k α) ((L.drop k).length * Enc.k α) (co L) = some (co (L.drop k)) := by
    have h1 : co L = co (L.take k) ++ co (L.drop k) := by
      conv => lhs; rw [← List.take_append_drop k L]
      simp only [co, List.flatMap_append, owL_app]
    have hl2 : (co (L.drop k)).length = (L.drop k).length * Enc.k α := co_len _
    have hl1 : (co (L.take k)).length = k * Enc.k α := by rw [co_len, List.length_take, Nat.min_eq_left hk1]
    rw [h1, cut_get (by rw [List.length_append, hl1, hl2]; exact Nat.le_refl _), List.drop_left' hl1, List.take_of_length_le (by rw [hl2]; exact Nat.le_refl _)]
  exact Own.part (es := []) hH hc (live_ow _) (by simp) (Owns.ow H _)
end Go.Proofs.Ytgodaiiegcdpcaa.Abs
end
section
set_option linter.unusedVariables false
set_option linter.unusedSimpArgs false
namespace Go.Proofs.Ytgodaiiegcdpcaa.Abs
open Go.RowKit Go.ChangeShapes Go.WideShapes Go.Deep

/-- What reads as data of a type is cells that are but read. -/
def Opens (P : Program) (t : TypeId) {α : Type} (d : α → List D) (p : α → Prop) : Prop :=
  ∀ (H : Type) (enc : TypeId × Value → H) (w : World) (spare : Nat → Bool) (held : Bool) (fuel : Nat) (cs : List Value) (x : DataW H × List MemPlace),
    DataW.trod enc P w 0 spare held fuel t cs = some x → ∃ a : α, p a ∧ RelL (envTop w) g0 (imL false (d a)) cs []

theorem relL_app {E : Env} {xs ys : List C} {vs ws : List Value} (h : RelL E g0 xs vs []) (k : RelL E g0 ys ws []) : RelL E g0 (xs ++ ys) (vs ++ ws) [] := by
  have := RelL.append (g := g0) h (F2 := []) k
  simpa using this

theorem pur_im : ∀ (d : D), pur false (d.im false) = true
  | .int _ _ => rfl
  | .bool _ => rfl
  | .str _ => rfl
  | .nil => rfl
  | .row sz n xs => by
    simp only [D.im, pur, Bool.not_false, Bool.or_false, Bool.true_and]
    exact go xs
where go : ∀ (ds : List D), purL false (imL false ds) = true
  | [] => rfl
  | d :: ds => by simp only [imL, purL, pur_im d, go ds, Bool.and_self]

theorem cell_lt {w : World} {b o : Nat} {v : Value} (h : w.cell? ⟨b, o, none⟩ = some v) : b < w.heap.size := by
  unfold World.cell? at h
  cases hb : w.heap[b]? with
  | none => simp [hb] at h
  | some _ => exact (Array.getElem?_eq_some_iff.1 hb).1

theorem at_chunks {w : World} {b k : Nat} : ∀ (css : List (List Value)) (o : Nat), (∀ c ∈ css, c.length = k) → (∀ (i : Nat) c (j : Nat) u, css[i]? = some c → c[j]? = some u → w.cell? ⟨b, o + (i * k + j), none⟩ = some u) → At w b o css.flatten
  | [], o, _, _ => fun i v h => by simp at h
  | c :: css, o, hk, hc => fun i v h => by
    have hl := hk c (by simp)
    rw [List.flatten_cons] at h
    by_cases hi : i < k
    · rw [List.getElem?_append_left (by omega)] at h
      have := hc 0 c i v rfl h
      rwa [Nat.zero_mul, Nat.zero_add] at this
    · rw [List.getElem?_append_right (by omega), hl] at h
      have ih := at_chunks (w := w) (b := b) css (o + k) (fun c hc => hk c (by simp [hc])) (fun i c j u h1 h2 => by
        have := hc (i + 1) c j u (by simpa using h1) h2
        rwa [show o + ((i + 1) * k + j) = o + k + (i * k + j) by rw [Nat.succ_mul]; omega] at this) (i - k) v h
      rwa [show o + k + (i - k) = o + i by omega] at ih

section
variable {P : Program} {t e : TypeId}
theorem opens_int {k : IntKind} {α : Type} {d : α → List D} {p : α → Prop} (f : Int → α) (ht : P.underlying t = some (.int k)) (hd : ∀ n, d (f n) = [.int k n]) (hp : ∀ n, (Lit.int k n).wf = true → p (f n)) : Opens P t d p := fun H enc w s b fl cs x h => by
  obtain ⟨n, rfl, _, hw⟩ := DataW.trod_int ht h
  refine ⟨f n, hp n hw, ?_⟩
  rw [hd]
  simp only [imL, D.im, RelL, Rel]
  exact ⟨_, _, [], [], rfl, rfl, ⟨rfl, rfl⟩, rfl, rfl⟩
theorem opens_bool {α : Type} {d : α → List D} {p : α → Prop} (f : Bool → α) (ht : P.underlying t = some .bool) (hd : ∀ n, d (f n) = [.bool n]) (hp : ∀ n, p (f n)) : Opens P t d p := fun H enc w s b fl cs x h => by
  obtain ⟨n, rfl, _⟩ := DataW.trod_bool ht h
  refine ⟨f n, hp n, ?_⟩
  rw [hd]
  simp only [imL, D.im, RelL, Rel]
  exact ⟨_, _, [], [], rfl, rfl, ⟨rfl, rfl⟩, rfl, rfl⟩

theorem choose_list {β : Type} (Q : Nat → β → Prop) : ∀ n, (∀ i, i < n → ∃ y, Q i y) → ∃ ys : List β, ys.length = n ∧ ∀ i y, ys[i]? = some y → Q i y := by
  intro n
  induction n with
  | zero => exact fun _ => ⟨[], rfl, fun i y h => by simp at h⟩
  | succ n ih =>
    intro h
    obtain ⟨ys, hl, hy⟩ := ih (fun i hi => h i (by omega))
    obtain ⟨y, hq⟩ := h n (by omega)
    refine ⟨ys ++ [y], by simp [hl], fun i z hz => ?_⟩
    by_cases hi : i < ys.length
    · rw [List.getElem?_append_left hi] at hz
      exact hy i z hz
    · have hi2 : i = ys.length := by
        have := (List.getElem?_eq_some_iff.1 hz).1
        simp at this
        omega
      subst hi2
      have : y = z := by simpa using hz
      subst this
      rw [hl]
      exact hq

theorem relL_flat {E : Env} {α : Type} {d : α → List D} : ∀ (ys : List (α × List Value)), (∀ y ∈ ys, RelL E g0 (imL false (d y.1)) y.2 []) → RelL E g0 (imL false ((ys.map (·.1)).flatMap d)) (ys.map (·.2)).flatten []
  | [], _ => by simp [imL, RelL]
  | y :: ys, h => by
    simp only [List.map_cons, List.flatMap_cons, imL_app, List.flatten_cons]
    exact relL_app (h y (by simp)) (relL_flat ys fun z hz => h z (by simp [hz]))

/-- A row of whatever reads. -/
theorem opens_row {α : Type} [Enc α] {p : α → Prop} (ht : P.underlying t = some (.slice e)) (hc : P.cellsOf e = Enc.k α) (he : Opens P e Enc.d p) : Opens P t (fun L : List α => [rS L]) (fun L => ∀ x ∈ L, p x) := fun H enc w s b fuel cs x h => by
  rcases open_slice ht h with ⟨rfl, _⟩ | ⟨a, len, cap, m, n, Dd, Pl, rfl, _, hl, hm, hmm, _, hx⟩
  · refine ⟨[], by simp, ?_⟩
    simp only [imL, rS, D.im, List.flatMap_nil, RelL]
    refine ⟨.slice none 0 0, [], [], [], rfl, rfl, ?_, rfl, rfl⟩
    dsimp only [Rel]
    exact ⟨rfl, by simp, rfl, none, 0, rfl, Nat.le_refl _, .inl rfl⟩
  · have hlm : len ≤ m := by
      rw [hmm]
      split <;> omega
    obtain ⟨ys, hyl, hy⟩ := choose_list (fun i (y : α × List Value) => p y.1 ∧ y.2.length = Enc.k α ∧ RelL (envTop w) g0 (imL false (Enc.d y.1)) y.2 [] ∧ ∀ (j : Nat) u, y.2[j]? = some u → w.cell? (a.add (i * Enc.k α + j)) = some u) len (fun i hi => by
      obtain ⟨cs', h1, h2⟩ := hx i (by omega)
      obtain ⟨y, hk, hp⟩ := he H enc w s b n cs' _ h2
      obtain ⟨_, hcl, hat⟩ := World.cells?_some h1
      refine ⟨(y, cs'), hk, by rw [← hc]; exact hcl, hp, fun j u hu => ?_⟩
      have hj : j < P.cellsOf e := by
        have := (List.getElem?_eq_some_iff.1 hu).1
        dsimp only at this
        omega
      have h3 := hat j hj
      rw [hc, Go.Deep.add_add] at h3
      rw [h3]
      exact hu)
    have hall : ∀ y ∈ ys, p y.1 ∧ y.2.length = Enc.k α ∧ RelL (envTop w) g0 (imL false (Enc.d y.1)) y.2 [] := fun y hym => by
      obtain ⟨i, hi⟩ := List.getElem?_of_mem hym
      have := hy i y hi
      exact ⟨this.1, this.2.1, this.2.2.1⟩
    refine ⟨ys.map (·.1), fun z hz => by obtain ⟨y, h1, rfl⟩ := List.mem_map.1 hz; exact (hall y h1).1, ?_⟩
    simp only [imL, rS, D.im, RelL]
    refine ⟨.slice (some a) len cap, [], [], [], rfl, rfl, ?_, rfl, rfl⟩
    dsimp only [Rel]
    refine ⟨rfl, ?_, pur_im.go _, some a, cap, by rw [List.length_map, hyl], by rw [List.length_map, hyl]; exact hl, ?_⟩
    · rw [imL_len]
      exact dlen _
    by_cases h0 : imL false ((ys.map (·.1)).flatMap Enc.d) = []
    · exact .inl h0
    · right
      have hrel := relL_flat (d := Enc.d) ys fun y hy => (hall y hy).2.2
      have hne : (ys.map (·.2)).flatten ≠ [] := fun h => h0 (List.length_eq_zero_iff.1 (by rw [← hrel.length, h]; rfl))
      obtain ⟨u, hu⟩ : ∃ u, u ∈ (ys.map (·.2)).flatten := List.exists_mem_of_ne_nil _ hne
      obtain ⟨c, hcm, huc⟩ := List.mem_flatten.1 hu
      obtain ⟨y, hym, rfl⟩ := List.mem_map.1 hcm
      have hk0 : 0 < Enc.k α := by
        have h1 := (hall y hym).2.1
        have h2 := List.length_pos_of_mem huc
        omega
      have hy0 : 0 < ys.length := List.length_pos_of_mem hym
      have hi : ys[0]? = some ys[0] := List.getElem?_eq_getElem hy0
      have hl0 : 0 < ys[0].2.length := by rw [(hall ys[0] (List.getElem_mem _)).2.1]; exact hk0
      have hcell := (hy 0 _ hi).2.2.2 0 _ (List.getElem?_eq_getElem hl0)
      obtain ⟨bl, off, spot⟩ := a
      have hspot : spot = none := by simpa [Addr.add] using World.cell?_spot hcell
      subst hspot
      rw [Go.WideShapes.add_plain] at hcell
      refine ⟨bl, off, _, rfl, cell_lt hcell, at_chunks _ off (k := Enc.k α) (fun c hc => by obtain ⟨y, h1, rfl⟩ := List.mem_map.1 hc; exact (hall y h1).2.1) (fun i c j u h1 h2 => ?_), hrel⟩
      rw [List.getElem?_map] at h1
      obtain ⟨y, h3, rfl⟩ := Option.map_eq_some_iff.1 h1
      have := (hy i y h3).2.2.2 j u h2
      rwa [Go.WideShapes.add_plain] at this
end
end Go.Proofs.Ytgodaiiegcdpcaa.Abs
end
