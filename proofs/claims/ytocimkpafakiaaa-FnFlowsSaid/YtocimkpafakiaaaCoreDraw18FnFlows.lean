/- The draws of bodies and places in them: at every state of the cursor each answers, and a body is short; for all bytes of up to a million. -/
import Derived.Test.YtocimkpafakiaaaXFnFlowsx14
import Derived.Test.YtocimkpafakiaaaCoreBodiesFnFlows
namespace Go.Proofs.Ytocimkpafakiaaa.CoreDraw18FnFlows
open Go.RowKit Go.Proofs.Ytocimkpafakiaaa.XFnFlows Go.Proofs.Ytocimkpafakiaaa.Lib Go.Proofs.Ytocimkpafakiaaa.CoreDrawFnFlows Go.Proofs.Ytocimkpafakiaaa.CoreBodiesFnFlows Go.Proofs.YtocimkpafakiaaaW.PrintWords Go.Proofs.YtocimkpafakiaaaW.PrintLast Go.Proofs.YtocimkpafakiaaaW.PrintMore
set_option linter.unusedVariables false
set_option linter.unusedSimpArgs false

def Q18 (b : List Int) (r : List S63 × Int × Int) : Prop := r.1.length ≤ 11 ∧ DS b r.2.1
theorem body18_ok (b : List Int) (i h : Int) (hd : DS b i) : Ok (Q18 b) (fun k => spec_l18DrawBody.f k b i h) := by
  unfold spec_l18DrawBody.f
  refine Ok.bind (body_ok b i h 3 hd) (fun p hp => ?_)
  obtain ⟨p1, p2, p3⟩ := hp
  refine Ok.below p3 (fun x i' h' _ _ _ d => ?_)
  refine Ok.ite (fun _ => ?_) (fun _ => Ok.ite (fun _ => ?_) (fun _ => Ok.some ⟨p2, d⟩))
  · refine Ok.below d (fun y i2 h2 a1 a2 _ d2 => ?_)
    have a2' := a2 (by omega)
    refine Ok.ite (fun _ => Ok.bind (P := Q7 b) (spoil_ok b i2 h2 _ _ _ _ _ d2) (fun z hz => Ok.ite (fun _ => Ok.ite (fun _ => Ok.some ⟨?_, hz⟩) (fun g => absurd a2' g)) (fun g => absurd a1 g))) (fun g => absurd (by omega) g)
    show (p.1.set _ _).length ≤ 11
    rw [List.length_set]
    exact p2
  · have hw : wrap64 ((p.1.length : Int) - 1) = (p.1.length : Int) - 1 := w64 (by omega) (by omega)
    rw [hw]
    refine Ok.ite (fun _ => Ok.ite (fun _ => Ok.some ⟨?_, d⟩) (fun g => absurd (by omega) g)) (fun g => absurd (by omega) g)
    show (p.1.take _).length ≤ 11
    rw [List.length_take]
    omega
theorem at18_ok (b : List Int) (hb : b.length ≤ 1048576) : Ok (fun r : List S63 × Int => r.1.length ≤ 11) (fun k => spec_l18DrawAt.f k b) := by
  unfold spec_l18DrawAt.f
  obtain ⟨h', e, d⟩ := new_ok b hb
  refine Ok.bind (P := fun r => r = (b, 0, h')) ⟨_, e, rfl⟩ (fun x hx => ?_)
  subst hx
  exact Ok.bind (body18_ok b 0 h' d) (fun p hp => Ok.below hp.2 (fun x1 i1 h1 _ _ _ d1 => Ok.some hp.1))
end Go.Proofs.Ytocimkpafakiaaa.CoreDraw18FnFlows
