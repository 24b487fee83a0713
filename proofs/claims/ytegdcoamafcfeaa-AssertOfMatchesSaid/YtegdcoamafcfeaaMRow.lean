/- The row of the statement AssertOfMatches: for every input that can be read, the call returns true, and the arguments read as before. -/
import Derived.Test.YtegdcoamafcfeaaM0
import Derived.Test.YtegdcoamafcfeaaM1
import Derived.Test.YtegdcoamafcfeaaM10
import Derived.Test.YtegdcoamafcfeaaM11
import Derived.Test.YtegdcoamafcfeaaM12
import Derived.Test.YtegdcoamafcfeaaM13
import Derived.Test.YtegdcoamafcfeaaM14
import Derived.Test.YtegdcoamafcfeaaM2
import Derived.Test.YtegdcoamafcfeaaM3
import Derived.Test.YtegdcoamafcfeaaM4
import Derived.Test.YtegdcoamafcfeaaM5
import Derived.Test.YtegdcoamafcfeaaM6
import Derived.Test.YtegdcoamafcfeaaM7
import Derived.Test.YtegdcoamafcfeaaM8
import Derived.Test.YtegdcoamafcfeaaM9
import Derived.Test.YtegdcoamafcfeaaRows
import Derived.Test.YtegdcoamafcfeaaMPlain
import Derived.WalkKit
import Derived.ProofKit
import Derived.OpenShut
import Derived.ShutString
import Derived.ChangeOld
import Derived.Below
import Derived.SizedLaws
import Derived.Carry
import Derived.Test.YtegdcoamafcfeaaMOpen
namespace Go.Proofs.Ytegdcoamafcfeaa.assertOfMatches
open Go.ChangeShapes Go.WideShapes Go.ChangeAt Go.RowKit Go.Proofs.YtegdcoamafcfeaaW.PrintWords Go.Proofs.YtegdcoamafcfeaaW.PrintOpen Go.Proofs.Ytegdcoamafcfeaa.Pr
open Go.ChangeMaps (open_string shut_string)
set_option linter.unusedVariables false
theorem own : ownKnob Try.prog.godebug = none := by kernel_rfl
theorem laidOut : laidOutB Try.prog = true := by kernel_rfl
theorem u8_of {x : Int} (h : (Lit.int .u8 x).wf = true) : 0 ≤ x ∧ x ≤ 255 := by
  have g : IntKind.u8.min ≤ x ∧ x ≤ IntKind.u8.max := by simpa [Lit.wf] using h
  exact ⟨g.1, g.2⟩
def Ok9 : ByteArray → Prop := fun s => s.size ≤ maxLen
theorem opens9 : Opens Try.prog 9 Kd.string Ok9 := opens_string Try.underlying9
def Ok32 : (List ByteArray) → Prop := fun xs => xs.length ≤ maxLen ∧ ∀ x ∈ xs, Ok9 x
theorem opens32 : Opens Try.prog 32 (Kd.slice 9 Kd.string) Ok32 := opens_slice Try.underlying32 (by kernel_rfl) opens9
def Ok3 : Int → Prop := fun x => (Lit.int .i64 x).wf = true
theorem opens3 : Opens Try.prog 3 (Kd.int .i64) Ok3 := opens_int Try.underlying3
def Ok5 : Int → Prop := fun x => (Lit.int .u8 x).wf = true
theorem opens5 : Opens Try.prog 5 (Kd.int .u8) Ok5 := opens_int Try.underlying5
structure S34 where
  f0 : ByteArray
  f1 : (List ByteArray)
  f2 : Int
  f3 : Int
def k34 : Kd S34 := Kd.iso (Kd.pair Kd.string (Kd.pair (Kd.slice 9 Kd.string) (Kd.pair (Kd.int .i64) (Kd.int .u8)))) (fun x : S34 => (x.f0, x.f1, x.f2, x.f3))
theorem k34_open {w : World} {x : S34} {cs : List Value} (h : k34.K w x cs) : ∃ A1 c1, cs = [.string x.f0, .slice A1 x.f1.length c1, .int .i64 x.f2, .int .u8 x.f3] ∧ x.f1.length ≤ c1 ∧ Kd.string.C w A1 x.f1.length x.f1 := by
  obtain ⟨_, _, rfl, rfl, ⟨_, _, rfl, ⟨A1, c1, rfl, l1, g1⟩, ⟨_, _, rfl, rfl, rfl⟩⟩⟩ := h
  exact ⟨A1, c1, rfl, l1, g1⟩
def Ok34 : S34 → Prop := fun x => Ok9 x.f0 ∧ Ok32 x.f1 ∧ Ok3 x.f2 ∧ Ok5 x.f3
theorem opens34 : Opens Try.prog 34 k34 Ok34 := opens_struct (f := fun x : S34 => (x.f0, x.f1, x.f2, x.f3)) (fun x => ⟨x.1, x.2.1, x.2.2.1, x.2.2.2⟩) Try.underlying34 (by kernel_rfl) (fun x => rfl) (fields_cons (o := 0) (s := 1) (total := 4) rfl (by kernel_rfl) opens9 (fields_cons (o := 1) (s := 1) (total := 4) rfl (by kernel_rfl) opens32 (fields_cons (o := 2) (s := 1) (total := 4) rfl (by kernel_rfl) opens3 (fields_last (o := 3) (s := 1) (total := 4) rfl (by kernel_rfl) rfl opens5))))
def Ok22 : (List Int) → Prop := fun xs => xs.length ≤ maxLen ∧ ∀ x ∈ xs, Ok3 x
theorem opens22 : Opens Try.prog 22 (Kd.slice 3 (Kd.int .i64)) Ok22 := opens_slice Try.underlying22 (by kernel_rfl) opens3
def Ok4 : Bool → Prop := fun _ => True
theorem opens4 : Opens Try.prog 4 Kd.bool Ok4 := opens_bool Try.underlying4
def Ok120 : Int → Prop := fun x => (Lit.int .u32 x).wf = true
theorem opens120 : Opens Try.prog 120 (Kd.int .u32) Ok120 := opens_int Try.underlying120
def Ok70 : (List Int) → Prop := fun xs => xs.length ≤ maxLen ∧ ∀ x ∈ xs, Ok120 x
theorem opens70 : Opens Try.prog 70 (Kd.slice 120 (Kd.int .u32)) Ok70 := opens_slice Try.underlying70 (by kernel_rfl) opens120
def Ok72 : S72 → Prop := fun x => Ok4 x.f0 ∧ Ok70 x.f1 ∧ Ok70 x.f2
theorem opens72 : Opens Try.prog 72 k72 Ok72 := opens_struct (f := fun x : S72 => (x.f0, x.f1, x.f2)) (fun x => ⟨x.1, x.2.1, x.2.2⟩) Try.underlying72 (by kernel_rfl) (fun x => rfl) (fields_cons (o := 0) (s := 1) (total := 3) rfl (by kernel_rfl) opens4 (fields_cons (o := 1) (s := 1) (total := 3) rfl (by kernel_rfl) opens70 (fields_last (o := 2) (s := 1) (total := 3) rfl (by kernel_rfl) rfl opens70)))
def Ok69 : (List S72) → Prop := fun xs => xs.length ≤ maxLen ∧ ∀ x ∈ xs, Ok72 x
theorem opens69 : Opens Try.prog 69 (Kd.slice 72 k72) Ok69 := opens_slice Try.underlying69 (by kernel_rfl) opens72
def Ok74 : S74 → Prop := fun x => Ok69 x.f0 ∧ Ok72 x.f1 ∧ Ok22 x.f2 ∧ Ok22 x.f3
theorem opens74 : Opens Try.prog 74 k74 Ok74 := opens_struct (f := fun x : S74 => (x.f0, x.f1, x.f2, x.f3)) (fun x => ⟨x.1, x.2.1, x.2.2.1, x.2.2.2⟩) Try.underlying74 (by kernel_rfl) (fun x => rfl) (fields_cons (o := 0) (s := 1) (total := 6) rfl (by kernel_rfl) opens69 (fields_cons (o := 1) (s := 3) (total := 6) rfl (by kernel_rfl) opens72 (fields_cons (o := 4) (s := 1) (total := 6) rfl (by kernel_rfl) opens22 (fields_last (o := 5) (s := 1) (total := 6) rfl (by kernel_rfl) rfl opens22))))
def Ok38 : (List S74) → Prop := fun xs => xs.length ≤ maxLen ∧ ∀ x ∈ xs, Ok74 x
theorem opens38 : Opens Try.prog 38 (Kd.slice 74 k74) Ok38 := opens_slice Try.underlying38 (by kernel_rfl) opens74
def Ok148 : S148 → Prop := fun x => Ok22 x.f0 ∧ Ok3 x.f1
theorem opens148 : Opens Try.prog 148 k148 Ok148 := opens_struct (f := fun x : S148 => (x.f0, x.f1)) (fun x => ⟨x.1, x.2⟩) Try.underlying148 (by kernel_rfl) (fun x => rfl) (fields_cons (o := 0) (s := 1) (total := 2) rfl (by kernel_rfl) opens22 (fields_last (o := 1) (s := 1) (total := 2) rfl (by kernel_rfl) rfl opens3))
def Ok39 : (List S148) → Prop := fun xs => xs.length ≤ maxLen ∧ ∀ x ∈ xs, Ok148 x
theorem opens39 : Opens Try.prog 39 (Kd.slice 148 k148) Ok39 := opens_slice Try.underlying39 (by kernel_rfl) opens148
structure S41 where
  f0 : (List Int)
  f1 : (List S74)
  f2 : (List S148)
def k41 : Kd S41 := Kd.iso (Kd.pair (Kd.slice 3 (Kd.int .i64)) (Kd.pair (Kd.slice 74 k74) (Kd.slice 148 k148))) (fun x : S41 => (x.f0, x.f1, x.f2))
theorem k41_open {w : World} {x : S41} {cs : List Value} (h : k41.K w x cs) : ∃ A0 c0 A1 c1 A2 c2, cs = [.slice A0 x.f0.length c0, .slice A1 x.f1.length c1, .slice A2 x.f2.length c2] ∧ x.f0.length ≤ c0 ∧ (Kd.int .i64).C w A0 x.f0.length x.f0 ∧ x.f1.length ≤ c1 ∧ k74.C w A1 x.f1.length x.f1 ∧ x.f2.length ≤ c2 ∧ k148.C w A2 x.f2.length x.f2 := by
  obtain ⟨_, _, rfl, ⟨A0, c0, rfl, l0, g0⟩, ⟨_, _, rfl, ⟨A1, c1, rfl, l1, g1⟩, ⟨A2, c2, rfl, l2, g2⟩⟩⟩ := h
  exact ⟨A0, c0, A1, c1, A2, c2, rfl, l0, g0, l1, g1, l2, g2⟩
def Ok41 : S41 → Prop := fun x => Ok22 x.f0 ∧ Ok38 x.f1 ∧ Ok39 x.f2
theorem opens41 : Opens Try.prog 41 k41 Ok41 := opens_struct (f := fun x : S41 => (x.f0, x.f1, x.f2)) (fun x => ⟨x.1, x.2.1, x.2.2⟩) Try.underlying41 (by kernel_rfl) (fun x => rfl) (fields_cons (o := 0) (s := 1) (total := 3) rfl (by kernel_rfl) opens22 (fields_cons (o := 1) (s := 1) (total := 3) rfl (by kernel_rfl) opens38 (fields_last (o := 2) (s := 1) (total := 3) rfl (by kernel_rfl) rfl opens39)))
set_option maxRecDepth 100000 in
set_option maxHeartbeats 1000000 in
theorem lifted (os : Os) (started : os.Started) (H : Type) (enc : TypeId × Value → H) :
    ReturnsInHanded {} Try.checked os 4 .any (Rows.assertOfMatchesSpec.pre6 enc Try.prog Try.f4 Rows.assertOfMatchesRow.domain false) (Rows.assertOfMatchesSpec.post enc Try.prog Try.f4 false true false false) := by
  refine returnsInHanded_of_change_sized (C := Try.checked) own started (by kernel_rfl) Try.func4
    (ChangeSpec.witness6 (enc := enc) (C := Try.checked) false ⟨#[], #[.agg #[.string ByteArray.empty, .slice none 0 0, .int .i64 0, .int .u8 0], .agg #[.slice none 0 0, .slice none 0 0, .slice none 0 0]], []⟩ 8 (by kernel_rfl) (by kernel_rfl) (by kernel_rfl) (by kernel_rfl)) ?_
  intro W base args ds gs before hval0 hW hcnd hsz0 _
  have hval : ∀ (j : Nat) t v, Try.f4.params[j]? = some t → args[j]? = some v → Value.okWide Try.prog W .any base t v := hval0
  have hW' := hW
  obtain ⟨p, q, hA0, hV, rfl, hfz, hnd⟩ := hW
  have hA : DataW.TrodAll enc Try.prog W 0 (fun _ => true) true Try.f4.params.toList args.toList ds p := hA0
  rw [Try.params4] at hA hval
  obtain ⟨v0, vs0, d0, ds0, p0, q0, hargs, rfl, rfl, h0, r0⟩ := trodAll_cons hA
  obtain ⟨v1, vs1, d1, ds1, p1, q1, rfl, rfl, rfl, h1, r1⟩ := trodAll_cons r0
  obtain ⟨rfl, rfl, rfl⟩ := trodAll_nil r1
  obtain rfl : args = #[v0, v1] := by cases args; simp_all
  obtain ⟨rfl, rfl⟩ := trodVars_none hV
  have lt0 : ∀ x ∈ p0, x.block < W.heap.size := by obtain ⟨m, hm⟩ := h0; exact DataW.trod_lt m _ _ _ hm
  obtain ⟨x0, hk0, ok0⟩ := opens34.arg h0
  obtain ⟨cs0, rfl, _⟩ := okWide_struct Try.underlying34 (hval 0 34 v0 rfl rfl)
  obtain ⟨A0_1, c0_1, hcs0, l0_1, g0_1⟩ := k34_open hk0
  obtain rfl : cs0 = #[.string x0.f0, .slice A0_1 x0.f1.length c0_1, .int .i64 x0.f2, .int .u8 x0.f3] := by cases cs0; simpa [Value.cells] using hcs0
  have lt1 : ∀ x ∈ p1, x.block < W.heap.size := by obtain ⟨m, hm⟩ := h1; exact DataW.trod_lt m _ _ _ hm
  obtain ⟨x1, hk1, ok1⟩ := opens41.arg h1
  obtain ⟨cs1, rfl, _⟩ := okWide_struct Try.underlying41 (hval 1 41 v1 rfl rfl)
  obtain ⟨A1_0, c1_0, A1_1, c1_1, A1_2, c1_2, hcs1, l1_0, g1_0, l1_1, g1_1, l1_2, g1_2⟩ := k41_open hk1
  obtain rfl : cs1 = #[.slice A1_0 x1.f0.length c1_0, .slice A1_1 x1.f1.length c1_1, .slice A1_2 x1.f2.length c1_2] := by cases cs1; simpa [Value.cells] using hcs1
  obtain ⟨k, hf⟩ := Plain.AssertOfMatches x0.f0 x0.f1 x0.f2 x0.f3 x1.f0 x1.f1 x1.f2 (Nat.le_trans (ok0.1) (by simp only [maxLen]; omega)) (fun s hs => (Nat.le_trans (ok0.2.1.2 s hs) (by simp only [maxLen]; omega))) (u8_of ok0.2.2.2)
  refine (suffragelaw41_AssertOfMatches.calls k x0.f0 A0_1 c0_1 x0.f1 x0.f2 x0.f3 A1_0 c1_0 x1.f0 A1_1 c1_1 x1.f1 A1_2 c1_2 x1.f2 true W g0_1 l0_1 g1_0 l1_0 g1_1 l1_1 g1_2 l1_2 hf).mono fun e W' ⟨he, bel⟩ => ?_
  subst he
  exact ⟨_, rfl, _, _, _, [], _, [], hW', trodAll_mk1 (shut_bool Try.underlying4 _), (trodAll_cons_mk (Below.trod laidOut (by kernel_rfl) (of_decide_eq_true (by kernel_rfl)) h0 bel lt0) (trodAll_cons_mk (Below.trod laidOut (by kernel_rfl) (of_decide_eq_true (by kernel_rfl)) h1 bel lt1) trodAll_mk0)), rfl, bel.frame _, fun h => by cases h⟩
theorem over : Rows.assertOfMatchesRow.holds Try.pinned (OpenSpec.ofChange Rows.assertOfMatchesSpec) :=
  OpenClaim.holds_of_wide 4 Try.f4 rfl rfl rfl rfl rfl rfl rfl ⟨rfl, rfl, rfl, rfl, rfl⟩ rfl rfl rfl rfl rfl (by kernel_rfl) Try.func4 (by kernel_rfl)
    (of_decide_eq_true (by kernel_rfl)) (by unfold Func.isWrapper; first | (rw [if_pos (by decide +kernel)]; kernel_rfl) | (rw [if_neg (by decide +kernel)]; exact ⟨rfl, rfl⟩))
    (fun os started H enc _ => lifted os started H enc)
theorem proved : Rows.AssertOfMatchesSaid := over
#print axioms proved
end Go.Proofs.Ytegdcoamafcfeaa.assertOfMatches
namespace Go.Proofs.Ytegdcoamafcfeaa
/-- The row, under a short name, for the claim. -/
theorem assertOfMatches_holds : Rows.AssertOfMatchesSaid := assertOfMatches.proved
end Go.Proofs.Ytegdcoamafcfeaa
