/- The law FnMachine holds: at every input it answers true and leaves what it was handed as it was. -/
import Derived.Test.YtgodaiiegcdpcaaRows
import Derived.Test.YtgodaiiegcdpcaaB8
import Derived.Test.YtgodaiiegcdpcaaA2
import Derived.WalkKit
import Derived.ProofKit
import Derived.OpenShut
import Derived.ChangeOld
import Derived.Below
import Derived.SizedLaws
namespace Go.Proofs.Ytgodaiiegcdpcaa.fnMachine
open Go.ChangeShapes Go.WideShapes Go.ChangeAt Go.RowKit Go.Proofs.Ytgodaiiegcdpcaa.Abs Go.Proofs.Ytgodaiiegcdpcaa.Abs.MC
set_option linter.unusedVariables false
theorem own : ownKnob Try.prog.godebug = none := by kernel_rfl
theorem laidOut : laidOutB Try.prog = true := by kernel_rfl
theorem opensByte : Opens Try.prog 5 (Enc.d (α := B8)) (fun _ => True) := opens_int (fun n => ⟨n⟩) Try.underlying5 (fun _ => rfl) (fun _ _ => trivial)
theorem opensCode : Opens Try.prog 22 (fun L : List B8 => [rS L]) (fun L => ∀ x ∈ L, True) := opens_row Try.underlying22 (by kernel_rfl) opensByte
set_option maxRecDepth 100000 in
theorem lifted (os : Os) (started : os.Started) (H : Type) (enc : TypeId × Value → H) :
    ReturnsInHanded {} Try.checked os 5 .any (Rows.fnMachineSpec.pre6 enc Try.prog Try.f5 Rows.fnMachineRow.domain false) (Rows.fnMachineSpec.post enc Try.prog Try.f5 false true false false) := by
  refine returnsInHanded_of_change_sized (C := Try.checked) own started (by kernel_rfl) Try.func5
    (ChangeSpec.witness6 (enc := enc) (C := Try.checked) false ⟨#[], #[.slice none 0 0], []⟩ 8 (by kernel_rfl) (by kernel_rfl) (by kernel_rfl) (by kernel_rfl)) ?_
  intro W base args ds gs before hval0 hW hcnd hsz0 _
  have hval : ∀ (j : Nat) t v, Try.f5.params[j]? = some t → args[j]? = some v → Value.okWide Try.prog W .any base t v := hval0
  have hW' := hW
  obtain ⟨p, q, hA0, hV, rfl, hfz, hnd⟩ := hW
  have hA : DataW.TrodAll enc Try.prog W 0 (fun _ => true) true Try.f5.params.toList args.toList ds p := hA0
  rw [Try.params5] at hA hval
  obtain ⟨v0, vs0, d0, ds0, p0, q0, hargs, rfl, rfl, h0, r0⟩ := trodAll_cons hA
  obtain ⟨rfl, rfl, rfl⟩ := trodAll_nil r0
  obtain rfl : args = #[v0] := by cases args; simp_all
  obtain ⟨rfl, rfl⟩ := trodVars_none hV
  have e0 := h0
  have lt0 : ∀ x ∈ p0, x.block < W.heap.size := by obtain ⟨m, hm⟩ := e0; exact DataW.trod_lt m _ _ _ hm
  obtain ⟨fu0, hf0⟩ := h0
  obtain ⟨L, _, hL⟩ := opensCode H enc W _ _ fu0 _ _ hf0
  obtain ⟨A0, n0, c0, rfl⟩ := okWide_slice Try.underlying22 (hval 0 22 v0 rfl rfl)
  clear hA0 hval0 hsz0
  have hr : RelOs (envTop W) [.c (.imm false 1 L.length (cl false L))] [.slice A0 n0 c0] [] := by
    have h1 : RelL (envTop W) g0 [(rS L).im false] [.slice A0 n0 c0] [] := hL
    simp only [RelL] at h1
    obtain ⟨v, vs', F1, F2, h2, h3, h4, h5, h6⟩ := h1
    obtain ⟨rfl, rfl⟩ := List.append_eq_nil_iff.1 h3.symm
    cases h2
    exact ⟨_, [], [], [], g0, rfl, rfl, h4, rfl, rfl⟩
  refine (Go.Proofs.Ytgodaiiegcdpcaa.Abs.top ok hr (s5 (bs := L))).mono fun e W' ⟨he, bel0⟩ => ?_
  have bel : Below W.heap.size W W' := bel0
  subst he
  exact ⟨_, rfl, _, _, _, [], _, [], hW', trodAll_mk1 (shut_bool Try.underlying4 _), (trodAll_cons_mk (Below.trod laidOut (by kernel_rfl) (of_decide_eq_true (by kernel_rfl)) e0 bel lt0) trodAll_mk0), rfl, bel.frame _, fun h => by cases h⟩
theorem over : Rows.fnMachineRow.holds Try.pinned (OpenSpec.ofChange Rows.fnMachineSpec) :=
  OpenClaim.holds_of_wide 5 Try.f5 rfl rfl rfl rfl rfl rfl rfl ⟨rfl, rfl, rfl, rfl, rfl⟩ rfl rfl rfl rfl rfl (by kernel_rfl) Try.func5 (by kernel_rfl)
    (of_decide_eq_true (by kernel_rfl)) (by unfold Func.isWrapper; first | (rw [if_pos (by decide +kernel)]; kernel_rfl) | (rw [if_neg (by decide +kernel)]; exact ⟨rfl, rfl⟩))
    (fun os started H enc _ => lifted os started H enc)
theorem proved : Rows.FnMachineSaid := over
#print axioms proved
end Go.Proofs.Ytgodaiiegcdpcaa.fnMachine
namespace Go.Proofs.Ytgodaiiegcdpcaa
/-- The row, under a short name, for the claim. -/
theorem fnMachine_holds : Rows.FnMachineSaid := fnMachine.proved
end Go.Proofs.Ytgodaiiegcdpcaa
