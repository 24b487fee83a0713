/- The row of the statement AssertSwap: for every input that can be read, the call returns true, and the arguments read as before. -/
import Derived.Test.YtegdcoamafcfeaaE0
import Derived.Test.YtegdcoamafcfeaaE1
import Derived.Test.YtegdcoamafcfeaaE10
import Derived.Test.YtegdcoamafcfeaaE11
import Derived.Test.YtegdcoamafcfeaaE12
import Derived.Test.YtegdcoamafcfeaaE13
import Derived.Test.YtegdcoamafcfeaaE2
import Derived.Test.YtegdcoamafcfeaaE3
import Derived.Test.YtegdcoamafcfeaaE4
import Derived.Test.YtegdcoamafcfeaaE5
import Derived.Test.YtegdcoamafcfeaaE6
import Derived.Test.YtegdcoamafcfeaaE7
import Derived.Test.YtegdcoamafcfeaaE8
import Derived.Test.YtegdcoamafcfeaaE9
import Derived.Test.YtegdcoamafcfeaaS1
import Derived.Test.YtegdcoamafcfeaaS2
import Derived.Test.YtegdcoamafcfeaaRows
import Derived.Test.YtegdcoamafcfeaaSPlain
import Derived.WalkKit
import Derived.ProofKit
import Derived.OpenShut
import Derived.ShutString
import Derived.ChangeOld
import Derived.Below
import Derived.SizedLaws
import Derived.Carry
import Derived.Test.YtegdcoamafcfeaaHOpen
namespace Go.Proofs.Ytegdcoamafcfeaa.assertSwap
open Go.ChangeShapes Go.WideShapes Go.ChangeAt Go.RowKit Go.Proofs.YtegdcoamafcfeaaW.PrintWords Go.Proofs.YtegdcoamafcfeaaW.PrintOpen Go.Proofs.Ytegdcoamafcfeaa.Pr
open Go.ChangeMaps (open_string shut_string)
set_option linter.unusedVariables false
theorem own : ownKnob Try.prog.godebug = none := by kernel_rfl
theorem laidOut : laidOutB Try.prog = true := by kernel_rfl
def Ok5 : Int → Prop := fun x => (Lit.int .u8 x).wf = true
theorem opens5 : Opens Try.prog 5 (Kd.int .u8) Ok5 := opens_int Try.underlying5
def Ok3 : Int → Prop := fun x => (Lit.int .i64 x).wf = true
theorem opens3 : Opens Try.prog 3 (Kd.int .i64) Ok3 := opens_int Try.underlying3
def Ok22 : (List Int) → Prop := fun xs => xs.length ≤ maxLen ∧ ∀ x ∈ xs, Ok3 x
theorem opens22 : Opens Try.prog 22 (Kd.slice 3 (Kd.int .i64)) Ok22 := opens_slice Try.underlying22 (by kernel_rfl) opens3
def Ok24 : S24 → Prop := fun x => Ok5 x.f0 ∧ Ok3 x.f1 ∧ Ok3 x.f2 ∧ Ok22 x.f3
theorem opens24 : Opens Try.prog 24 k24 Ok24 := opens_struct (f := fun x : S24 => (x.f0, x.f1, x.f2, x.f3)) (fun x => ⟨x.1, x.2.1, x.2.2.1, x.2.2.2⟩) Try.underlying24 (by kernel_rfl) (fun x => rfl) (fields_cons (o := 0) (s := 1) (total := 4) rfl (by kernel_rfl) opens5 (fields_cons (o := 1) (s := 1) (total := 4) rfl (by kernel_rfl) opens3 (fields_cons (o := 2) (s := 1) (total := 4) rfl (by kernel_rfl) opens3 (fields_last (o := 3) (s := 1) (total := 4) rfl (by kernel_rfl) rfl opens22))))
structure S26 where
  f0 : Int
  f1 : (List Int)
def k26 : Kd S26 := Kd.iso (Kd.pair (Kd.int .u8) (Kd.slice 3 (Kd.int .i64))) (fun x : S26 => (x.f0, x.f1))
theorem k26_open {w : World} {x : S26} {cs : List Value} (h : k26.K w x cs) : ∃ A1 c1, cs = [.int .u8 x.f0, .slice A1 x.f1.length c1] ∧ x.f1.length ≤ c1 ∧ (Kd.int .i64).C w A1 x.f1.length x.f1 := by
  obtain ⟨_, _, rfl, rfl, ⟨A1, c1, rfl, l1, g1⟩⟩ := h
  exact ⟨A1, c1, rfl, l1, g1⟩
def Ok26 : S26 → Prop := fun x => Ok5 x.f0 ∧ Ok22 x.f1
theorem opens26 : Opens Try.prog 26 k26 Ok26 := opens_struct (f := fun x : S26 => (x.f0, x.f1)) (fun x => ⟨x.1, x.2⟩) Try.underlying26 (by kernel_rfl) (fun x => rfl) (fields_cons (o := 0) (s := 1) (total := 2) rfl (by kernel_rfl) opens5 (fields_last (o := 1) (s := 1) (total := 2) rfl (by kernel_rfl) rfl opens22))
set_option maxRecDepth 100000 in
set_option maxHeartbeats 1000000 in
theorem lifted (os : Os) (started : os.Started) (H : Type) (enc : TypeId × Value → H) :
    ReturnsInHanded {} Try.checked os 5 .any (Rows.assertSwapSpec.pre6 enc Try.prog Try.f5 Rows.assertSwapRow.domain false) (Rows.assertSwapSpec.post enc Try.prog Try.f5 false true false false) := by
  refine returnsInHanded_of_change_sized (C := Try.checked) own started (by kernel_rfl) Try.func5
    (ChangeSpec.witness6 (enc := enc) (C := Try.checked) false ⟨#[], #[.agg #[.int .u8 0, .int .i64 0, .int .i64 0, .slice none 0 0], .agg #[.int .u8 0, .slice none 0 0], .int .i64 0], []⟩ 8 (by kernel_rfl) (by kernel_rfl) (by kernel_rfl) (by kernel_rfl)) ?_
  intro W base args ds gs before hval0 hW hcnd hsz0 _
  have hval : ∀ (j : Nat) t v, Try.f5.params[j]? = some t → args[j]? = some v → Value.okWide Try.prog W .any base t v := hval0
  have hW' := hW
  obtain ⟨p, q, hA0, hV, rfl, hfz, hnd⟩ := hW
  have hA : DataW.TrodAll enc Try.prog W 0 (fun _ => true) true Try.f5.params.toList args.toList ds p := hA0
  rw [Try.params5] at hA hval
  obtain ⟨v0, vs0, d0, ds0, p0, q0, hargs, rfl, rfl, h0, r0⟩ := trodAll_cons hA
  obtain ⟨v1, vs1, d1, ds1, p1, q1, rfl, rfl, rfl, h1, r1⟩ := trodAll_cons r0
  obtain ⟨v2, vs2, d2, ds2, p2, q2, rfl, rfl, rfl, h2, r2⟩ := trodAll_cons r1
  obtain ⟨rfl, rfl, rfl⟩ := trodAll_nil r2
  obtain rfl : args = #[v0, v1, v2] := by cases args; simp_all
  obtain ⟨rfl, rfl⟩ := trodVars_none hV
  have lt0 : ∀ x ∈ p0, x.block < W.heap.size := by obtain ⟨m, hm⟩ := h0; exact DataW.trod_lt m _ _ _ hm
  obtain ⟨x0, hk0, ok0⟩ := opens24.arg h0
  obtain ⟨cs0, rfl, _⟩ := okWide_struct Try.underlying24 (hval 0 24 v0 rfl rfl)
  obtain ⟨A0_3, c0_3, hcs0, l0_3, g0_3⟩ := k24_open hk0
  obtain rfl : cs0 = #[.int .u8 x0.f0, .int .i64 x0.f1, .int .i64 x0.f2, .slice A0_3 x0.f3.length c0_3] := by cases cs0; simpa [Value.cells] using hcs0
  have lt1 : ∀ x ∈ p1, x.block < W.heap.size := by obtain ⟨m, hm⟩ := h1; exact DataW.trod_lt m _ _ _ hm
  obtain ⟨x1, hk1, ok1⟩ := opens26.arg h1
  obtain ⟨cs1, rfl, _⟩ := okWide_struct Try.underlying26 (hval 1 26 v1 rfl rfl)
  obtain ⟨A1_1, c1_1, hcs1, l1_1, g1_1⟩ := k26_open hk1
  obtain rfl : cs1 = #[.int .u8 x1.f0, .slice A1_1 x1.f1.length c1_1] := by cases cs1; simpa [Value.cells] using hcs1
  have lt2 : ∀ x ∈ p2, x.block < W.heap.size := by obtain ⟨m, hm⟩ := h2; exact DataW.trod_lt m _ _ _ hm
  obtain ⟨x2, hk2, ok2⟩ := opens3.arg h2
  obtain ⟨y2, rfl⟩ := okWide_int Try.underlying3 (hval 2 3 v2 rfl rfl)
  obtain rfl : x2 = y2 := (by simpa [Kd.int, Kd.bool, Kd.string, Kd.scalar, Value.cells] using hk2 : y2 = x2).symm
  obtain ⟨k, hf⟩ := Plain.AssertSwap x0.f0 x0.f1 x0.f2 x0.f3 x1.f0 x1.f1 x2 (by have := ok1.2.1; simp only [maxLen] at this; omega) (by have := ok0.2.2.2.1; simp only [maxLen] at this; omega)
  refine (suffragelaw41_AssertSwap.calls k x0.f0 x0.f1 x0.f2 A0_3 c0_3 x0.f3 x1.f0 A1_1 c1_1 x1.f1 x2 true W g0_3 l0_3 g1_1 l1_1 hf).mono fun e W' ⟨he, bel⟩ => ?_
  subst he
  exact ⟨_, rfl, _, _, _, [], _, [], hW', trodAll_mk1 (shut_bool Try.underlying4 _), (trodAll_cons_mk (Below.trod laidOut (by kernel_rfl) (of_decide_eq_true (by kernel_rfl)) h0 bel lt0) (trodAll_cons_mk (Below.trod laidOut (by kernel_rfl) (of_decide_eq_true (by kernel_rfl)) h1 bel lt1) (trodAll_cons_mk (Below.trod laidOut (by kernel_rfl) (of_decide_eq_true (by kernel_rfl)) h2 bel lt2) trodAll_mk0))), rfl, bel.frame _, fun h => by cases h⟩
theorem over : Rows.assertSwapRow.holds Try.pinned (OpenSpec.ofChange Rows.assertSwapSpec) :=
  OpenClaim.holds_of_wide 5 Try.f5 rfl rfl rfl rfl rfl rfl rfl ⟨rfl, rfl, rfl, rfl, rfl⟩ rfl rfl rfl rfl rfl (by kernel_rfl) Try.func5 (by kernel_rfl)
    (of_decide_eq_true (by kernel_rfl)) (by unfold Func.isWrapper; first | (rw [if_pos (by decide +kernel)]; kernel_rfl) | (rw [if_neg (by decide +kernel)]; exact ⟨rfl, rfl⟩))
    (fun os started H enc _ => lifted os started H enc)
theorem proved : Rows.AssertSwapSaid := over
#print axioms proved
end Go.Proofs.Ytegdcoamafcfeaa.assertSwap
namespace Go.Proofs.Ytegdcoamafcfeaa
/-- The row, under a short name, for the claim. -/
theorem assertSwap_holds : Rows.AssertSwapSaid := assertSwap.proved
end Go.Proofs.Ytegdcoamafcfeaa
