/- The row of the statement AssertExamples: for every input that can be read, the call returns true, and the arguments read as before. -/
import Derived.Test.YtegdcoamafcfeaaE0
import Derived.Test.YtegdcoamafcfeaaE1
import Derived.Test.YtegdcoamafcfeaaE2
import Derived.Test.YtegdcoamafcfeaaE3
import Derived.Test.YtegdcoamafcfeaaE4
import Derived.Test.YtegdcoamafcfeaaE5
import Derived.Test.YtegdcoamafcfeaaE6
import Derived.Test.YtegdcoamafcfeaaE7
import Derived.Test.YtegdcoamafcfeaaE8
import Derived.Test.YtegdcoamafcfeaaE9
import Derived.Test.YtegdcoamafcfeaaE10
import Derived.Test.YtegdcoamafcfeaaE11
import Derived.Test.YtegdcoamafcfeaaE12
import Derived.Test.YtegdcoamafcfeaaE13
import Derived.Test.YtegdcoamafcfeaaRows
import Derived.WalkKit
import Derived.ProofKit
import Derived.OpenShut
import Derived.ShutString
import Derived.ChangeOld
import Derived.Below
import Derived.SizedLaws
import Derived.Carry
import Derived.Test.YtegdcoamafcfeaaHOpen
namespace Go.Proofs.Ytegdcoamafcfeaa.assertExamples
open Go.ChangeShapes Go.WideShapes Go.ChangeAt Go.RowKit Go.Proofs.YtegdcoamafcfeaaW.PrintWords Go.Proofs.YtegdcoamafcfeaaW.PrintOpen Go.Proofs.Ytegdcoamafcfeaa.Pr
open Go.ChangeMaps (open_string shut_string)
set_option linter.unusedVariables false
theorem own : ownKnob Try.prog.godebug = none := by kernel_rfl
theorem laidOut : laidOutB Try.prog = true := by kernel_rfl
set_option maxRecDepth 100000 in
theorem lifted (os : Os) (started : os.Started) (H : Type) (enc : TypeId × Value → H) :
    ReturnsInHanded {} Try.checked os 3 .any (Rows.assertExamplesSpec.pre6 enc Try.prog Try.f3 Rows.assertExamplesRow.domain false) (Rows.assertExamplesSpec.post enc Try.prog Try.f3 false true false false) := by
  refine returnsInHanded_of_change_sized (C := Try.checked) own started (by kernel_rfl) Try.func3
    (ChangeSpec.witness6 (enc := enc) (C := Try.checked) false ⟨#[], #[], []⟩ 8 (by kernel_rfl) (by kernel_rfl) (by kernel_rfl) (by kernel_rfl)) ?_
  intro W base args ds gs before hval0 hW hcnd hsz0 _
  have hval : ∀ (j : Nat) t v, Try.f3.params[j]? = some t → args[j]? = some v → Value.okWide Try.prog W .any base t v := hval0
  have hW' := hW
  obtain ⟨p, q, hA0, hV, rfl, hfz, hnd⟩ := hW
  have hA : DataW.TrodAll enc Try.prog W 0 (fun _ => true) true Try.f3.params.toList args.toList ds p := hA0
  rw [Try.params3] at hA hval
  obtain ⟨rfl, rfl, rfl⟩ := trodAll_none hA
  obtain ⟨rfl, rfl⟩ := trodVars_none hV
  have hf : suffragelaw41_AssertExamples.f = some true := rfl
  refine (suffragelaw41_AssertExamples.calls  true W  hf).mono fun e W' ⟨he, bel⟩ => ?_
  subst he
  exact ⟨_, rfl, _, _, _, [], _, [], hW', trodAll_mk1 (shut_bool Try.underlying4 _), trodAll_mk0, rfl, bel.frame _, fun h => by cases h⟩
theorem over : Rows.assertExamplesRow.holds Try.pinned (OpenSpec.ofChange Rows.assertExamplesSpec) :=
  OpenClaim.holds_of_wide 3 Try.f3 rfl rfl rfl rfl rfl rfl rfl ⟨rfl, rfl, rfl, rfl, rfl⟩ rfl rfl rfl rfl rfl (by kernel_rfl) Try.func3 (by kernel_rfl)
    (of_decide_eq_true (by kernel_rfl)) (by unfold Func.isWrapper; first | (rw [if_pos (by decide +kernel)]; kernel_rfl) | (rw [if_neg (by decide +kernel)]; exact ⟨rfl, rfl⟩))
    (fun os started H enc _ => lifted os started H enc)
theorem proved : Rows.AssertExamplesSaid := over
#print axioms proved
end Go.Proofs.Ytegdcoamafcfeaa.assertExamples
namespace Go.Proofs.Ytegdcoamafcfeaa
/-- The row, under a short name, for the claim. -/
theorem assertExamples_holds : Rows.AssertExamplesSaid := assertExamples.proved
end Go.Proofs.Ytegdcoamafcfeaa
