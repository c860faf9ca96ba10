/- The law FnAlone holds: at every input it answers true and leaves what it was handed as it was. -/
import Derived.Test.YtgodaiiegcdpcaaRows
import Derived.Test.YtgodaiiegcdpcaaB9
import Derived.Test.YtgodaiiegcdpcaaA2
import Derived.WalkKit
import Derived.ProofKit
import Derived.OpenShut
import Derived.ChangeOld
import Derived.Below
import Derived.SizedLaws
namespace Go.Proofs.Ytgodaiiegcdpcaa.fnAlone
open Go.ChangeShapes Go.WideShapes Go.ChangeAt Go.RowKit Go.Proofs.Ytgodaiiegcdpcaa.Abs Go.Proofs.Ytgodaiiegcdpcaa.Abs.MC
set_option linter.unusedVariables false
theorem own : ownKnob Try.prog.godebug = none := by kernel_rfl
theorem laidOut : laidOutB Try.prog = true := by kernel_rfl
theorem opensByte : Opens Try.prog 5 (Enc.d (α := B8)) (fun b => 0 ≤ b.v ∧ b.v < 256) := opens_int (fun n => ⟨n⟩) Try.underlying5 (fun _ => rfl) (fun n h => by (show 0 ≤ n ∧ n < 256); (have e0 : IntKind.u8.min = 0 := by decide); (have e1 : IntKind.u8.max = 255 := by decide); simp only [Lit.wf, Bool.and_eq_true, decide_eq_true_eq] at h; omega)
theorem opensCode : Opens Try.prog 22 (fun L : List B8 => [rS L]) (fun L => ∀ x ∈ L, 0 ≤ x.v ∧ x.v < 256) := opens_row Try.underlying22 (by kernel_rfl) opensByte
set_option maxRecDepth 100000 in
theorem lifted (os : Os) (started : os.Started) (H : Type) (enc : TypeId × Value → H) :
    ReturnsInHanded {} Try.checked os 7 .any (Rows.fnAloneSpec.pre6 enc Try.prog Try.f7 Rows.fnAloneRow.domain false) (Rows.fnAloneSpec.post enc Try.prog Try.f7 false true false false) := by
  refine returnsInHanded_of_change_sized (C := Try.checked) own started (by kernel_rfl) Try.func7
    (ChangeSpec.witness6 (enc := enc) (C := Try.checked) false ⟨#[], #[.slice none 0 0], []⟩ 8 (by kernel_rfl) (by kernel_rfl) (by kernel_rfl) (by kernel_rfl)) ?_
  intro W base args ds gs before hval0 hW hcnd hsz0 _
  have hval : ∀ (j : Nat) t v, Try.f7.params[j]? = some t → args[j]? = some v → Value.okWide Try.prog W .any base t v := hval0
  have hW' := hW
  obtain ⟨p, q, hA0, hV, rfl, hfz, hnd⟩ := hW
  have hA : DataW.TrodAll enc Try.prog W 0 (fun _ => true) true Try.f7.params.toList args.toList ds p := hA0
  rw [Try.params7] at hA hval
  obtain ⟨v0, vs0, d0, ds0, p0, q0, hargs, rfl, rfl, h0, r0⟩ := trodAll_cons hA
  obtain ⟨rfl, rfl, rfl⟩ := trodAll_nil r0
  obtain rfl : args = #[v0] := by cases args; simp_all
  obtain ⟨rfl, rfl⟩ := trodVars_none hV
  have e0 := h0
  have lt0 : ∀ x ∈ p0, x.block < W.heap.size := by obtain ⟨m, hm⟩ := e0; exact DataW.trod_lt m _ _ _ hm
  obtain ⟨fu0, hf0⟩ := h0
  obtain ⟨L, hbs, hL⟩ := opensCode H enc W _ _ fu0 _ _ hf0
  obtain ⟨A0, n0, c0, rfl⟩ := okWide_slice Try.underlying22 (hval 0 22 v0 rfl rfl)
  clear hA0 hval0 hsz0
  have hr : RelOs (envTop W) [.c (.imm false 1 L.length (cl false L))] [.slice A0 n0 c0] [] := by
    have h1 : RelL (envTop W) g0 [(rS L).im false] [.slice A0 n0 c0] [] := hL
    simp only [RelL] at h1
    obtain ⟨v, vs', F1, F2, h2, h3, h4, h5, h6⟩ := h1
    obtain ⟨rfl, rfl⟩ := List.append_eq_nil_iff.1 h3.symm
    cases h2
    exact ⟨_, [], [], [], g0, rfl, rfl, h4, rfl, rfl⟩
  refine (Go.Proofs.Ytgodaiiegcdpcaa.Abs.top ok hr (s7 (bs := L) hbs)).mono fun e W' ⟨he, bel0⟩ => ?_
  have bel : Below W.heap.size W W' := bel0
  subst he
  exact ⟨_, rfl, _, _, _, [], _, [], hW', trodAll_mk1 (shut_bool Try.underlying4 _), (trodAll_cons_mk (Below.trod laidOut (by kernel_rfl) (of_decide_eq_true (by kernel_rfl)) e0 bel lt0) trodAll_mk0), rfl, bel.frame _, fun h => by cases h⟩
theorem over : Rows.fnAloneRow.holds Try.pinned (OpenSpec.ofChange Rows.fnAloneSpec) :=
  OpenClaim.holds_of_wide 7 Try.f7 rfl rfl rfl rfl rfl rfl rfl ⟨rfl, rfl, rfl, rfl, rfl⟩ rfl rfl rfl rfl rfl (by kernel_rfl) Try.func7 (by kernel_rfl)
    (of_decide_eq_true (by kernel_rfl)) (by unfold Func.isWrapper; first | (rw [if_pos (by decide +kernel)]; kernel_rfl) | (rw [if_neg (by decide +kernel)]; exact ⟨rfl, rfl⟩))
    (fun os started H enc _ => lifted os started H enc)
theorem proved : Rows.FnAloneSaid := over
#print axioms proved
end Go.Proofs.Ytgodaiiegcdpcaa.fnAlone
namespace Go.Proofs.Ytgodaiiegcdpcaa
/-- The row, under a short name, for the claim. -/
theorem fnAlone_holds : Rows.FnAloneSaid := fnAlone.proved
end Go.Proofs.Ytgodaiiegcdpcaa
