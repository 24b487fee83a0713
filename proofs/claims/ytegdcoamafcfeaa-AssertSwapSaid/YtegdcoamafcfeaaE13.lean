-- Written by a program of this session (the kit's print, many functions in one namespace). Not trusted: Lean checks it.
import Derived.Test.YtegdcoamafcfeaaE0
import Derived.Test.YtegdcoamafcfeaaE1
import Derived.Test.YtegdcoamafcfeaaE3
import Derived.Test.YtegdcoamafcfeaaE5
import Derived.Test.YtegdcoamafcfeaaE8
import Derived.Test.YtegdcoamafcfeaaE10
import Derived.Test.YtegdcoamafcfeaaE11
import Derived.Test.YtegdcoamafcfeaaE12
namespace Go.Proofs.Ytegdcoamafcfeaa.Pr
open Go.RowKit Go.Proofs.YtegdcoamafcfeaaW.PrintWords Go.Proofs.YtegdcoamafcfeaaW.PrintLast
set_option linter.unusedVariables false
set_option linter.unusedSimpArgs false
/-! ### suffragelaw41_AssertExamples: function 3 (by hand) -/
theorem ranks_plain (A : Option Addr) (n c : Nat) (w : World) : Calls Try.prog 6 #[.slice A n c] w fun e w' => e = .returned (.agg #[.int .u8 1, .slice A n c]) ∧ Below w.heap.size w w' := by
  have hb := heap_alloc_new w (.cells #[.int .u8 1, .slice A n c] 26)
  go_enter Try.func6, Try.ntmps6
  go_wp2
  refine bodyPost_ret (results_cell_row rfl _ _ w.heap.size 26 #[.int .u8 1, .slice A n c] (0, 0) _ rfl hb Try.underlying26 rfl (by kernel_rfl)) rfl ?_
  exact ⟨rfl, below_box _⟩
theorem marks_plain (A : Option Addr) (n c : Nat) (w : World) : Calls Try.prog 8 #[.slice A n c] w fun e w' => e = .returned (.agg #[.int .u8 2, .slice A n c]) ∧ Below w.heap.size w w' := by
  have hb := heap_alloc_new w (.cells #[.int .u8 2, .slice A n c] 26)
  go_enter Try.func8, Try.ntmps8
  go_wp2
  refine bodyPost_ret (results_cell_row rfl _ _ w.heap.size 26 #[.int .u8 2, .slice A n c] (0, 0) _ rfl hb Try.underlying26 rfl (by kernel_rfl)) rfl ?_
  exact ⟨rfl, below_box _⟩
/-- A literal's row is read. -/
theorem lit_C (w : World) (xs : List Int) (b : Nat) (hb : w.heap[b]? = some (.cells (nums .i64 xs).toArray 3 (0, 0))) (hm : xs.length ≤ 9223372036854775807) : Kd.C (Kd.int .i64) w (some ⟨b, 0, none⟩) xs.length xs := by
  refine C_of_readsInt ⟨rfl, by simpa [maxLen] using hm, fun hp => ⟨⟨b, 0, none⟩, rfl, fun j hj => ?_⟩⟩
  have hx : (nums IntKind.i64 xs)[j]? = some (.int .i64 (xs.getD j 0)) := by simp [nums, List.getD, hj]
  have : ((⟨b, 0, none⟩ : Addr).add j) = ⟨b, j, none⟩ := by cases j <;> simp [Addr.add]
  rw [this]
  simp only [World.cell?, hb]
  simpa using hx
theorem exv1 : assert_Value.f 20 3 0 2 [] 1 [0, 1] 3 = some (2, 0) := by kernel_rfl
theorem exv2 : assert_Value.f 20 3 0 2 [] 1 [2, 0] 3 = some (0, 0) := by kernel_rfl
theorem exv3 : assert_Value.f 20 3 0 2 [] 1 [1] 3 = some (1, 0) := by kernel_rfl
theorem exv4 : assert_Value.f 20 3 0 2 [] 1 [] 3 = some (1, 0) := by kernel_rfl
theorem exv5 : assert_Value.f 20 4 1 2 [1, 2] 1 [0, 2, 1] 3 = some (0, 0) := by kernel_rfl
theorem exv6 : assert_Value.f 20 4 1 2 [1, 2] 1 [0] 3 = some (1, 0) := by kernel_rfl
theorem exv7 : assert_Value.f 20 5 1 0 [0, 1] 1 [2, 0, 1] 3 = some (0, 0) := by kernel_rfl
theorem exv8 : assert_Value.f 20 3 0 2 [] 2 [1] 3 = some (0, 8) := by kernel_rfl
theorem exv9 : assert_Value.f 20 1 0 1 [] 2 [0, 1] 3 = some (1, 0) := by kernel_rfl
theorem exs1 : (([2, 0] : List Int).mergeSort fun x y => decide (x ≤ y)) = [0, 2] := by simp [List.mergeSort, List.MergeSort.Internal.splitInTwo, List.merge]
theorem exs2 : (([2, 2] : List Int).mergeSort fun x y => decide (x ≤ y)) = [2, 2] := by simp [List.mergeSort, List.MergeSort.Internal.splitInTwo, List.merge]
theorem exo1 : assert_Of.f 20 ⟨#[120]⟩ [⟨#[97]⟩, ⟨#[98]⟩, ⟨#[99]⟩] 2 2 [2, 0] [] [] = some ([⟨2, 2, 1, []⟩, ⟨2, 0, 1, []⟩], 0) := by
  unfold assert_Of.f
  rw [exs1]
  kernel_rfl
theorem exo2 : assert_Of.f 20 ⟨#[120]⟩ [⟨#[97]⟩, ⟨#[98]⟩, ⟨#[99]⟩] 2 2 [2, 2] [] [] = some ([], 8) := by
  unfold assert_Of.f
  rw [exs2]
  kernel_rfl
theorem exo3 : assert_Of.f 20 ⟨#[120]⟩ [⟨#[97]⟩, ⟨#[98]⟩, ⟨#[99]⟩] 2 3 [2, 0] [] [] = some ([], 6) := by kernel_rfl
theorem exq1 : suffrageref08_Ints.f 20 [2, 0, 1, 1] [2, 0, 1, 1] = some true := by kernel_rfl
theorem exq2 : suffrageref41_All.f 20 [⟨2, 2, 1, []⟩, ⟨2, 0, 1, []⟩] [⟨2, 2, 1, []⟩, ⟨2, 0, 1, []⟩] = some true := by kernel_rfl
theorem exq3 : assert_Check.f 20 3 0 2 [] 2 = some 8 := by kernel_rfl
theorem exq4 : assert_Check.f 20 3 0 2 [] 11 = some 2 := by kernel_rfl
theorem exq5 : assert_Check.f 20 5 1 0 [0, 1] 2 = some 0 := by kernel_rfl
theorem exq6 : assert_Same.f 20 3 0 2 [] 3 0 2 [] = some true := by kernel_rfl
theorem exq7 : assert_Same.f 20 3 0 2 [] 4 1 2 [1, 2] = some false := by kernel_rfl
theorem own_C {w : World} {base n : Nat} {e : TypeId} {v : Value} {xs : List Int} (h : w.ownsRow base e 1 v n (nums .i64 xs)) : ∃ A c, v = .slice A n c ∧ n ≤ c ∧ Kd.C (Kd.int .i64) w A n xs := by
  obtain ⟨A, c, rfl, hr⟩ := own_reads h
  exact ⟨A, c, rfl, own_le h, C_of_readsInt hr⟩
theorem lit_C24 (w : World) (b : Nat) (hb : w.heap[b]? = some (.cells #[.int .u8 2, .int .i64 2, .int .i64 1, .slice none 0 0, .int .u8 2, .int .i64 0, .int .i64 1, .slice none 0 0] 24 (0, 0))) : Kd.C k24 w (some ⟨b, 0, none⟩) 2 [⟨2, 2, 1, []⟩, ⟨2, 0, 1, []⟩] := by
  have hN : Kd.C (Kd.int .i64) w none 0 [] := ⟨rfl, by simp, fun hp => absurd hp (by simp)⟩
  refine ⟨rfl, by simp, fun _ => ⟨_, rfl, fun j p hj => ?_⟩⟩
  match j, hj with
  | 0, hj =>
    injection hj with hj
    subst hj
    refine ⟨_, rfl, k24_mk w ⟨2, 2, 1, []⟩ (A3 := none) (c3 := 0) (Nat.le_refl _) hN, fun i u hu => ?_⟩
    match i, hu with
    | 0, hu => exact (blk_cell hb 0).trans hu
    | 1, hu => exact (blk_cell hb 1).trans hu
    | 2, hu => exact (blk_cell hb 2).trans hu
    | 3, hu => exact (blk_cell hb 3).trans hu
    | _ + 4, hu => exact absurd hu (by simp)
  | 1, hj =>
    injection hj with hj
    subst hj
    refine ⟨_, rfl, k24_mk w ⟨2, 0, 1, []⟩ (A3 := none) (c3 := 0) (Nat.le_refl _) hN, fun i u hu => ?_⟩
    match i, hu with
    | 0, hu => exact (blk_cell hb 4).trans hu
    | 1, hu => exact (blk_cell hb 5).trans hu
    | 2, hu => exact (blk_cell hb 6).trans hu
    | 3, hu => exact (blk_cell hb 7).trans hu
    | _ + 4, hu => exact absurd hu (by simp)
  | _ + 2, hj => exact absurd hj (by simp)
def suffragelaw41_AssertExamples.f : Option Bool := some true
theorem lit_Cs (w : World) (xs : List ByteArray) (b : Nat) (t : TypeId) (hb : w.heap[b]? = some (.cells (xs.map Value.string).toArray t (0, 0))) (hm : xs.length ≤ 9223372036854775807) : Kd.C Kd.string w (some ⟨b, 0, none⟩) xs.length xs := by
  refine Kd.C_of_reads (d := ByteArray.empty) (h1 := fun _ => rfl) ⟨rfl, hm, fun hp => ⟨⟨b, 0, none⟩, rfl, fun j hj => ?_⟩⟩
  have : ((⟨b, 0, none⟩ : Addr).add j) = ⟨b, j, none⟩ := by cases j <;> simp [Addr.add]
  rw [this]
  simp only [World.cell?, hb]
  simp [List.getD, hj]
theorem own_below {w w1 : World} {base : Nat} {e : TypeId} {size n : Nat} {v : Value} {xs : List Value} (h : w.ownsRow base e size v n xs) (hb : Below w.heap.size w w1) : w1.ownsRow base e size v n xs := own_move h fun k hk => hb.block k (own_lt h k hk)
theorem own_setCell {w : World} {base : Nat} {e t : TypeId} {size n g : Nat} {v : Value} {xs : List Value} {cells : Array Value} (h : w.ownsRow base e size v n xs) (hb : w.heap[g]? = some (.cells cells t (0, 0))) (ht : e ≠ t) (j : Nat) (u : Value) : (w.setCell ⟨g, j, none⟩ u).ownsRow base e size v n xs :=
  own_move h fun k hk => Below.heap_setCell _ _ _ k (fun e1 => by
    have e1 : k = g := e1
    subst e1
    obtain ⟨cs, hc⟩ := own_typed h k hk
    rw [hb] at hc
    injection hc with hc
    injection hc with _ h2
    exact ht h2.symm)
set_option maxHeartbeats 8000000 in
set_option maxRecDepth 100000 in
theorem ex_walk (w : World) : Calls Try.prog 3 #[] w fun e w' => e = .returned (.bool true) ∧ Below w.heap.size w w' := by
  go_enter Try.func3, Try.ntmps3
  go_wp2_with (go_at_call 6; fail)
  go_at_call 6
  refine (ranks_plain _ _ _ _).mono ?_
  rintro e w6 ⟨rfl, hb6⟩
  have hW := below_step (by (with_reducible repeat (first | exact Below.refl _ _ | apply below_alloc)) : Below w.heap.size w _) hb6
  have gA : w6.heap[w.heap.size]? = some (.cells #[.int .u8 3, .int .i64 0, .int .i64 2, .slice none 0 0] 24 (0, 0)) := blk_later (blk_box (blk_box (blk_box (blk_box (blk_box (heap_new_at (by simp) _) _) _) _) _) _) hb6
  have gS1 : w6.heap[w.heap.size + 1]? = some (.cells #[.int .i64 1, .int .i64 2] 3 (0, 0)) := blk_later (blk_box (blk_box (blk_box (blk_box (heap_new_at (by simp) _) _) _) _) _) hb6
  have gB : w6.heap[w.heap.size + 1 + 1]? = some (.cells #[.int .u8 4, .int .i64 1, .int .i64 2, .slice (some ⟨w.heap.size + 1, 0, none⟩) 2 2] 24 (0, 0)) := blk_later (blk_box (blk_box (blk_box (heap_new_at (by simp) _) _) _) _) hb6
  have gS2 : w6.heap[w.heap.size + 1 + 1 + 1]? = some (.cells #[.int .i64 0, .int .i64 1] 3 (0, 0)) := blk_later (blk_box (blk_box (heap_new_at (by simp) _) _) _) hb6
  have gM : w6.heap[w.heap.size + 1 + 1 + 1 + 1]? = some (.cells #[.int .u8 5, .int .i64 1, .int .i64 0, .slice (some ⟨w.heap.size + 1 + 1 + 1, 0, none⟩) 2 2] 24 (0, 0)) := blk_later (blk_box (heap_new_at (by simp) _) _) hb6
  have gL1 : w6.heap[w.heap.size + 1 + 1 + 1 + 1 + 1]? = some (.cells #[.int .i64 0, .int .i64 1] 3 (0, 0)) := blk_later (heap_new_at (by simp) _) hb6
  clear hb6
  go_wp2_with (go_at_call 6; fail)
  go_at_call 6
  refine (ranks_plain _ _ _ _).mono ?_
  rintro e w7 ⟨rfl, hb7⟩
  have hb67 := below_step (below_box _) hb7
  have gL2 := blk_later (heap_alloc_new w6 (.cells #[.int .i64 2, .int .i64 0] 3)) hb7
  clear hb7
  go_wp2_with (go_at_call 6; fail)
  go_at_call 6
  refine (ranks_plain _ _ _ _).mono ?_
  rintro e w8 ⟨rfl, hb8⟩
  have hb78 := below_step (below_box _) hb8
  have gL3 := blk_later (heap_alloc_new w7 (.cells #[.int .i64 1] 3)) hb8
  clear hb8
  go_wp2_with (go_at_call 6; fail)
  go_at_call 6
  refine (ranks_plain _ _ _ _).mono ?_
  rintro e w9 ⟨rfl, hb9⟩
  have h69 := hb67.trans ((hb78.trans (hb9.mono hb78.size)).mono hb67.size)
  have gA := blk_box (blk_later gA h69) (.cells #[.int .u8 1, .slice (some ⟨w.heap.size + 1 + 1 + 1 + 1 + 1, 0, none⟩) 2 2, .int .u8 1, .slice (some ⟨w6.heap.size, 0, none⟩) 2 2, .int .u8 1, .slice (some ⟨w7.heap.size, 0, none⟩) 1 1, .int .u8 1, .slice none 0 0] 26)
  have gS1 := blk_box (blk_later gS1 h69) (.cells #[.int .u8 1, .slice (some ⟨w.heap.size + 1 + 1 + 1 + 1 + 1, 0, none⟩) 2 2, .int .u8 1, .slice (some ⟨w6.heap.size, 0, none⟩) 2 2, .int .u8 1, .slice (some ⟨w7.heap.size, 0, none⟩) 1 1, .int .u8 1, .slice none 0 0] 26)
  have gB := blk_box (blk_later gB h69) (.cells #[.int .u8 1, .slice (some ⟨w.heap.size + 1 + 1 + 1 + 1 + 1, 0, none⟩) 2 2, .int .u8 1, .slice (some ⟨w6.heap.size, 0, none⟩) 2 2, .int .u8 1, .slice (some ⟨w7.heap.size, 0, none⟩) 1 1, .int .u8 1, .slice none 0 0] 26)
  have gS2 := blk_box (blk_later gS2 h69) (.cells #[.int .u8 1, .slice (some ⟨w.heap.size + 1 + 1 + 1 + 1 + 1, 0, none⟩) 2 2, .int .u8 1, .slice (some ⟨w6.heap.size, 0, none⟩) 2 2, .int .u8 1, .slice (some ⟨w7.heap.size, 0, none⟩) 1 1, .int .u8 1, .slice none 0 0] 26)
  have gM := blk_box (blk_later gM h69) (.cells #[.int .u8 1, .slice (some ⟨w.heap.size + 1 + 1 + 1 + 1 + 1, 0, none⟩) 2 2, .int .u8 1, .slice (some ⟨w6.heap.size, 0, none⟩) 2 2, .int .u8 1, .slice (some ⟨w7.heap.size, 0, none⟩) 1 1, .int .u8 1, .slice none 0 0] 26)
  have gL1 := blk_box (blk_later gL1 h69) (.cells #[.int .u8 1, .slice (some ⟨w.heap.size + 1 + 1 + 1 + 1 + 1, 0, none⟩) 2 2, .int .u8 1, .slice (some ⟨w6.heap.size, 0, none⟩) 2 2, .int .u8 1, .slice (some ⟨w7.heap.size, 0, none⟩) 1 1, .int .u8 1, .slice none 0 0] 26)
  have gL2 := blk_box (blk_later gL2 (hb78.trans (hb9.mono hb78.size))) (.cells #[.int .u8 1, .slice (some ⟨w.heap.size + 1 + 1 + 1 + 1 + 1, 0, none⟩) 2 2, .int .u8 1, .slice (some ⟨w6.heap.size, 0, none⟩) 2 2, .int .u8 1, .slice (some ⟨w7.heap.size, 0, none⟩) 1 1, .int .u8 1, .slice none 0 0] 26)
  have gL3 := blk_box (blk_later gL3 hb9) (.cells #[.int .u8 1, .slice (some ⟨w.heap.size + 1 + 1 + 1 + 1 + 1, 0, none⟩) 2 2, .int .u8 1, .slice (some ⟨w6.heap.size, 0, none⟩) 2 2, .int .u8 1, .slice (some ⟨w7.heap.size, 0, none⟩) 1 1, .int .u8 1, .slice none 0 0] 26)
  have gQ := heap_alloc_new w9 (.cells #[.int .u8 1, .slice (some ⟨w.heap.size + 1 + 1 + 1 + 1 + 1, 0, none⟩) 2 2, .int .u8 1, .slice (some ⟨w6.heap.size, 0, none⟩) 2 2, .int .u8 1, .slice (some ⟨w7.heap.size, 0, none⟩) 1 1, .int .u8 1, .slice none 0 0] 26)
  have hW := below_alloc (below_step hW h69) (.cells #[.int .u8 1, .slice (some ⟨w.heap.size + 1 + 1 + 1 + 1 + 1, 0, none⟩) 2 2, .int .u8 1, .slice (some ⟨w6.heap.size, 0, none⟩) 2 2, .int .u8 1, .slice (some ⟨w7.heap.size, 0, none⟩) 1 1, .int .u8 1, .slice none 0 0] 26)
  clear h69 hb67 hb78 hb9
  go_wp2
  generalize hW1 : w9.alloc (.cells #[.int .u8 1, .slice (some ⟨w.heap.size + 1 + 1 + 1 + 1 + 1, 0, none⟩) 2 2, .int .u8 1, .slice (some ⟨w6.heap.size, 0, none⟩) 2 2, .int .u8 1, .slice (some ⟨w7.heap.size, 0, none⟩) 1 1, .int .u8 1, .slice none 0 0] 26) = W1 at *
  generalize hQ : w9.heap.size = bq at *
  have kA0 : ∀ W, Below W1.heap.size W1 W → W.cell? ⟨w.heap.size, 0, none⟩ = some (.int .u8 3) := fun W hb => (blk_cell (blk_later gA hb) 0).trans rfl
  have kA1 : ∀ W, Below W1.heap.size W1 W → W.cell? ⟨w.heap.size, 1, none⟩ = some (.int .i64 0) := fun W hb => (blk_cell (blk_later gA hb) 1).trans rfl
  have kA2 : ∀ W, Below W1.heap.size W1 W → W.cell? ⟨w.heap.size, 2, none⟩ = some (.int .i64 2) := fun W hb => (blk_cell (blk_later gA hb) 2).trans rfl
  have kA3 : ∀ W, Below W1.heap.size W1 W → W.cell? ⟨w.heap.size, 3, none⟩ = some (.slice none 0 0) := fun W hb => (blk_cell (blk_later gA hb) 3).trans rfl
  have kB0 : ∀ W, Below W1.heap.size W1 W → W.cell? ⟨w.heap.size + 1 + 1, 0, none⟩ = some (.int .u8 4) := fun W hb => (blk_cell (blk_later gB hb) 0).trans rfl
  have kB1 : ∀ W, Below W1.heap.size W1 W → W.cell? ⟨w.heap.size + 1 + 1, 1, none⟩ = some (.int .i64 1) := fun W hb => (blk_cell (blk_later gB hb) 1).trans rfl
  have kB2 : ∀ W, Below W1.heap.size W1 W → W.cell? ⟨w.heap.size + 1 + 1, 2, none⟩ = some (.int .i64 2) := fun W hb => (blk_cell (blk_later gB hb) 2).trans rfl
  have kB3 : ∀ W, Below W1.heap.size W1 W → W.cell? ⟨w.heap.size + 1 + 1, 3, none⟩ = some (.slice (some ⟨w.heap.size + 1, 0, none⟩) 2 2) := fun W hb => (blk_cell (blk_later gB hb) 3).trans rfl
  have kM0 : ∀ W, Below W1.heap.size W1 W → W.cell? ⟨w.heap.size + 1 + 1 + 1 + 1, 0, none⟩ = some (.int .u8 5) := fun W hb => (blk_cell (blk_later gM hb) 0).trans rfl
  have kM1 : ∀ W, Below W1.heap.size W1 W → W.cell? ⟨w.heap.size + 1 + 1 + 1 + 1, 1, none⟩ = some (.int .i64 1) := fun W hb => (blk_cell (blk_later gM hb) 1).trans rfl
  have kM2 : ∀ W, Below W1.heap.size W1 W → W.cell? ⟨w.heap.size + 1 + 1 + 1 + 1, 2, none⟩ = some (.int .i64 0) := fun W hb => (blk_cell (blk_later gM hb) 2).trans rfl
  have kM3 : ∀ W, Below W1.heap.size W1 W → W.cell? ⟨w.heap.size + 1 + 1 + 1 + 1, 3, none⟩ = some (.slice (some ⟨w.heap.size + 1 + 1 + 1, 0, none⟩) 2 2) := fun W hb => (blk_cell (blk_later gM hb) 3).trans rfl
  have kQ0 : ∀ W, Below W1.heap.size W1 W → W.cell? ⟨bq, 0, none⟩ = some (.int .u8 1) := fun W hb => (blk_cell (blk_later gQ hb) 0).trans rfl
  have kQ1 : ∀ W, Below W1.heap.size W1 W → W.cell? ⟨bq, 1, none⟩ = some (.slice (some ⟨w.heap.size + 1 + 1 + 1 + 1 + 1, 0, none⟩) 2 2) := fun W hb => (blk_cell (blk_later gQ hb) 1).trans rfl
  have kQ2 : ∀ W, Below W1.heap.size W1 W → W.cell? ⟨bq, 2, none⟩ = some (.int .u8 1) := fun W hb => (blk_cell (blk_later gQ hb) 2).trans rfl
  have kQ3 : ∀ W, Below W1.heap.size W1 W → W.cell? ⟨bq, 3, none⟩ = some (.slice (some ⟨w6.heap.size, 0, none⟩) 2 2) := fun W hb => (blk_cell (blk_later gQ hb) 3).trans rfl
  have kQ4 : ∀ W, Below W1.heap.size W1 W → W.cell? ⟨bq, 4, none⟩ = some (.int .u8 1) := fun W hb => (blk_cell (blk_later gQ hb) 4).trans rfl
  have kQ5 : ∀ W, Below W1.heap.size W1 W → W.cell? ⟨bq, 5, none⟩ = some (.slice (some ⟨w7.heap.size, 0, none⟩) 1 1) := fun W hb => (blk_cell (blk_later gQ hb) 5).trans rfl
  have kQ6 : ∀ W, Below W1.heap.size W1 W → W.cell? ⟨bq, 6, none⟩ = some (.int .u8 1) := fun W hb => (blk_cell (blk_later gQ hb) 6).trans rfl
  have kQ7 : ∀ W, Below W1.heap.size W1 W → W.cell? ⟨bq, 7, none⟩ = some (.slice none 0 0) := fun W hb => (blk_cell (blk_later gQ hb) 7).trans rfl
  have hS1 : ∀ W, Below W1.heap.size W1 W → Kd.C (Kd.int .i64) W (some ⟨w.heap.size + 1, 0, none⟩) 2 [1, 2] := fun W hb => lit_C W [1, 2] _ (blk_later gS1 hb) (by simp)
  have hS2 : ∀ W, Below W1.heap.size W1 W → Kd.C (Kd.int .i64) W (some ⟨w.heap.size + 1 + 1 + 1, 0, none⟩) 2 [0, 1] := fun W hb => lit_C W [0, 1] _ (blk_later gS2 hb) (by simp)
  have hL1 : ∀ W, Below W1.heap.size W1 W → Kd.C (Kd.int .i64) W (some ⟨w.heap.size + 1 + 1 + 1 + 1 + 1, 0, none⟩) 2 [0, 1] := fun W hb => lit_C W [0, 1] _ (blk_later gL1 hb) (by simp)
  have hL2 : ∀ W, Below W1.heap.size W1 W → Kd.C (Kd.int .i64) W (some ⟨w6.heap.size, 0, none⟩) 2 [2, 0] := fun W hb => lit_C W [2, 0] _ (blk_later gL2 hb) (by simp)
  have hL3 : ∀ W, Below W1.heap.size W1 W → Kd.C (Kd.int .i64) W (some ⟨w7.heap.size, 0, none⟩) 1 [1] := fun W hb => lit_C W [1] _ (blk_later gL3 hb) (by simp)
  have hNil : ∀ W : World, Kd.C (Kd.int .i64) W none 0 [] := fun W => ⟨rfl, by simp, fun hp => absurd hp (by simp)⟩
  have HW := Aside0.mk hW
  clear hW hW1 hQ
  have hb0 := Below.refl W1.heap.size W1
  go_loopw [4, 6] (fun v4 v6 wr => ∃ k : Nat, k ≤ 4 ∧ v6 = .int .i64 k ∧ wr.ownsRow W1.heap.size 3 1 v4 k (nums .i64 (([2, 0, 1, 1] : List Int).take k)) ∧ Below W1.heap.size W1 wr) (fun _ v6 _ => 4 - (intOf v6).toNat)
  case atStart => exact ⟨0, by omega, rfl, World.ownsRow_nil _ _ _ _, hb0⟩
  case round =>
    obtain ⟨k, hk, rfl, hrow, hB⟩ := hrel
    by_cases hk4 : k < 4
    · obtain rfl | rfl | rfl | rfl : k = 0 ∨ k = 1 ∨ k = 2 ∨ k = 3 := by omega
      · go_wp2
        refine Go.Flow2.region_flow' (fun W => Below wr.heap.size wr W) (fun i v W => match i with
          | 0 => v = .agg #[.int .u8 3, .int .i64 0, .int .i64 2, .slice none 0 0]
          | 1 => v = .slice (some ⟨bq, 0, none⟩) 4 4
          | 2 => v = .int .i64 0
          | 3 => v = .pointer (some ⟨bq, 0, none⟩)
          | 4 => v = .agg #[.int .u8 1, .slice (some ⟨w.heap.size + 1 + 1 + 1 + 1 + 1, 0, none⟩) 2 2]
          | 5 => v = .tuple #[.int .i64 2, .int .i64 0]
          | 6 => v = .tuple #[.int .i64 2, .int .i64 0]
          | 7 => v = .int .i64 2
          | 8 => v = .int .i64 0
          | 9 => v = .int .i64 2
          | 10 => v = .int .i64 0
          | _ => True) (fun w w' => Below w.heap.size w w') rfl (by kernel_rfl) (fun w => Below.refl _ w) ?stable1 (Below.refl _ _).drew ?steps1 ?fin1
        case stable1 =>
          intro i v w w' h he
          match i, h with
          | 0, h => exact h
          | 1, h => exact h
          | 2, h => exact h
          | 3, h => exact h
          | 4, h => exact h
          | 5, h => exact h
          | 6, h => exact h
          | 7, h => exact h
          | 8, h => exact h
          | 9, h => exact h
          | 10, h => exact h
          | _ + 11, h => exact h
        case steps1 =>
          refine ⟨?_, ?_, ?_, ?_, ?_, ?_, ?_, ?_, ?_, ?_, ?_, True.intro⟩
          · intro vs w3 hS0 hd
            have hS := below_step hB hS0
            simp only [Go.Flow2.bound, List.filter_cons, List.filter_nil, Region.binds, reduceCtorEq, beq_iff_eq, if_true, if_false, ↓reduceIte, Go.Flow2.Deps, and_true] at hd
            simp only [Go.Flow2.fillFrom, Act.put, List.setIfInBounds_toArray, List.set_cons_succ, List.set_cons_zero, Nat.reduceAdd]
            refine Go.Flow2.wants rfl ?_
            have a0 := kA0 w3 hS
            have a1 := kA1 w3 hS
            have a2 := kA2 w3 hS
            have a3 := kA3 w3 hS
            go_simp
            exact Below.refl _ _
          · intro vs w3 hS0 hd
            have hS := below_step hB hS0
            simp only [Go.Flow2.bound, List.filter_cons, List.filter_nil, Region.binds, reduceCtorEq, beq_iff_eq, if_true, if_false, ↓reduceIte, Go.Flow2.Deps, and_true] at hd
            simp only [Go.Flow2.fillFrom, Act.put, List.setIfInBounds_toArray, List.set_cons_succ, List.set_cons_zero, Nat.reduceAdd]
            refine Go.Flow2.wants rfl ?_
            go_simp
            exact Below.refl _ _
          · intro vs w3 hS0 hd
            have hS := below_step hB hS0
            simp only [Go.Flow2.bound, List.filter_cons, List.filter_nil, Region.binds, reduceCtorEq, beq_iff_eq, if_true, if_false, ↓reduceIte, Go.Flow2.Deps, and_true] at hd
            simp only [Go.Flow2.fillFrom, Act.put, List.setIfInBounds_toArray, List.set_cons_succ, List.set_cons_zero, Nat.reduceAdd]
            refine Go.Flow2.wants rfl ?_
            go_simp
            exact Below.refl _ _
          · intro vs w3 hS0 hd
            have hS := below_step hB hS0
            simp only [Go.Flow2.bound, List.filter_cons, List.filter_nil, Region.binds, reduceCtorEq, beq_iff_eq, if_true, if_false, ↓reduceIte, Go.Flow2.Deps, and_true] at hd
            simp only [Go.Flow2.fillFrom, Act.put, List.setIfInBounds_toArray, List.set_cons_succ, List.set_cons_zero, Nat.reduceAdd]
            refine Go.Flow2.wants rfl ?_
            simp only [hd]
            go_simp
            exact Below.refl _ _
          · intro vs w3 hS0 hd
            have hS := below_step hB hS0
            simp only [Go.Flow2.bound, List.filter_cons, List.filter_nil, Region.binds, reduceCtorEq, beq_iff_eq, if_true, if_false, ↓reduceIte, Go.Flow2.Deps, and_true] at hd
            simp only [Go.Flow2.fillFrom, Act.put, List.setIfInBounds_toArray, List.set_cons_succ, List.set_cons_zero, Nat.reduceAdd]
            refine Go.Flow2.wants rfl ?_
            have q0 := kQ0 w3 hS
            have q1 := kQ1 w3 hS
            simp only [hd]
            go_simp
            exact Below.refl _ _
          · intro vs w3 hS0 hd
            have hS := below_step hB hS0
            simp only [Go.Flow2.bound, List.filter_cons, List.filter_nil, Region.binds, reduceCtorEq, beq_iff_eq, if_true, if_false, ↓reduceIte, Go.Flow2.Deps, and_true] at hd
            simp only [Go.Flow2.fillFrom, Act.put, List.setIfInBounds_toArray, List.set_cons_succ, List.set_cons_zero, Nat.reduceAdd]
            refine Go.Flow2.wants rfl ?_
            simp only [hd]
            go_simp
            refine (assert_Value.calls 20 3 0 2 none 0 [] 1 _ _ [0, 1] 3 2 0 _ (hNil w3) (Nat.le_refl _) (hL1 w3 hS) (Nat.le_refl _) exv1).mono ?_
            rintro e w4 ⟨rfl, hb4⟩
            exact ⟨rfl, below_step hS0 hb4, hb4⟩
          · intro vs w3 hS0 hd
            have hS := below_step hB hS0
            simp only [Go.Flow2.bound, List.filter_cons, List.filter_nil, Region.binds, reduceCtorEq, beq_iff_eq, if_true, if_false, ↓reduceIte, Go.Flow2.Deps, and_true] at hd
            simp only [Go.Flow2.fillFrom, Act.put, List.setIfInBounds_toArray, List.set_cons_succ, List.set_cons_zero, Nat.reduceAdd]
            refine Go.Flow2.wants rfl ?_
            simp only [hd]
            go_simp
            exact Below.refl _ _
          · intro vs w3 hS0 hd
            have hS := below_step hB hS0
            simp only [Go.Flow2.bound, List.filter_cons, List.filter_nil, Region.binds, reduceCtorEq, beq_iff_eq, if_true, if_false, ↓reduceIte, Go.Flow2.Deps, and_true] at hd
            simp only [Go.Flow2.fillFrom, Act.put, List.setIfInBounds_toArray, List.set_cons_succ, List.set_cons_zero, Nat.reduceAdd]
            refine Go.Flow2.wants rfl ?_
            simp only [hd]
            go_simp
            exact Below.refl _ _
          · intro vs w3 hS0 hd
            have hS := below_step hB hS0
            simp only [Go.Flow2.bound, List.filter_cons, List.filter_nil, Region.binds, reduceCtorEq, beq_iff_eq, if_true, if_false, ↓reduceIte, Go.Flow2.Deps, and_true] at hd
            simp only [Go.Flow2.fillFrom, Act.put, List.setIfInBounds_toArray, List.set_cons_succ, List.set_cons_zero, Nat.reduceAdd]
            refine Go.Flow2.wants rfl ?_
            simp only [hd]
            go_simp
            exact Below.refl _ _
          · intro vs w3 hS0 hd
            have hS := below_step hB hS0
            simp only [Go.Flow2.bound, List.filter_cons, List.filter_nil, Region.binds, reduceCtorEq, beq_iff_eq, if_true, if_false, ↓reduceIte, Go.Flow2.Deps, and_true] at hd
            simp only [Go.Flow2.fillFrom, Act.put, List.setIfInBounds_toArray, List.set_cons_succ, List.set_cons_zero, Nat.reduceAdd]
            refine Go.Flow2.wants rfl ?_
            simp only [hd]
            go_simp
            exact Below.refl _ _
          · intro vs w3 hS0 hd
            have hS := below_step hB hS0
            simp only [Go.Flow2.bound, List.filter_cons, List.filter_nil, Region.binds, reduceCtorEq, beq_iff_eq, if_true, if_false, ↓reduceIte, Go.Flow2.Deps, and_true] at hd
            simp only [Go.Flow2.fillFrom, Act.put, List.setIfInBounds_toArray, List.set_cons_succ, List.set_cons_zero, Nat.reduceAdd]
            refine Go.Flow2.wants rfl ?_
            simp only [hd]
            go_simp
            exact Below.refl _ _
        case fin1 =>
          intro vs w3 hS0 hd
          have hS := below_step hB hS0
          simp only [Go.Flow2.fillFrom, Act.put, List.setIfInBounds_toArray, List.set_cons_succ, List.set_cons_zero, Nat.reduceAdd]
          simp only [Go.Flow2.Ends, Nat.reduceAdd] at hd
          simp only [hd]
          clear hd
          have hrow3 := own_below hrow hS0
          go_wp2_with (first | (at_builtin; refine print_append_row (w0 := W1) W1.heap.size rfl _ _ 22 3 .i64 8 rfl Try.underlying22 info_int (by decide) u4 [] [2] (some ⟨w3.heap.size, 0, none⟩) 1 1 rfl rfl (hrow3.alloc _) (readsInt_of_C (lit_C _ [2] _ (heap_alloc_new w3 _) (by simp))) (below_alloc hS _) (by have := hS.size; simp; omega) (by simp) ?_; intro v1 w5 ho5 hb5 _ _))
          go_roundw
          case rel => exact ⟨1, by omega, by simp, ho5, hb5⟩
          case measure => simp [intOf]
      · go_wp2
        refine Go.Flow2.region_flow' (fun W => Below wr.heap.size wr W) (fun i v W => match i with
          | 0 => v = .agg #[.int .u8 3, .int .i64 0, .int .i64 2, .slice none 0 0]
          | 1 => v = .slice (some ⟨bq, 0, none⟩) 4 4
          | 2 => v = .int .i64 1
          | 3 => v = .pointer (some ⟨bq, 2, none⟩)
          | 4 => v = .agg #[.int .u8 1, .slice (some ⟨w6.heap.size, 0, none⟩) 2 2]
          | 5 => v = .tuple #[.int .i64 0, .int .i64 0]
          | 6 => v = .tuple #[.int .i64 0, .int .i64 0]
          | 7 => v = .int .i64 0
          | 8 => v = .int .i64 0
          | 9 => v = .int .i64 0
          | 10 => v = .int .i64 0
          | _ => True) (fun w w' => Below w.heap.size w w') rfl (by kernel_rfl) (fun w => Below.refl _ w) ?stable2 (Below.refl _ _).drew ?steps2 ?fin2
        case stable2 =>
          intro i v w w' h he
          match i, h with
          | 0, h => exact h
          | 1, h => exact h
          | 2, h => exact h
          | 3, h => exact h
          | 4, h => exact h
          | 5, h => exact h
          | 6, h => exact h
          | 7, h => exact h
          | 8, h => exact h
          | 9, h => exact h
          | 10, h => exact h
          | _ + 11, h => exact h
        case steps2 =>
          refine ⟨?_, ?_, ?_, ?_, ?_, ?_, ?_, ?_, ?_, ?_, ?_, True.intro⟩
          · intro vs w3 hS0 hd
            have hS := below_step hB hS0
            simp only [Go.Flow2.bound, List.filter_cons, List.filter_nil, Region.binds, reduceCtorEq, beq_iff_eq, if_true, if_false, ↓reduceIte, Go.Flow2.Deps, and_true] at hd
            simp only [Go.Flow2.fillFrom, Act.put, List.setIfInBounds_toArray, List.set_cons_succ, List.set_cons_zero, Nat.reduceAdd]
            refine Go.Flow2.wants rfl ?_
            have a0 := kA0 w3 hS
            have a1 := kA1 w3 hS
            have a2 := kA2 w3 hS
            have a3 := kA3 w3 hS
            go_simp
            exact Below.refl _ _
          · intro vs w3 hS0 hd
            have hS := below_step hB hS0
            simp only [Go.Flow2.bound, List.filter_cons, List.filter_nil, Region.binds, reduceCtorEq, beq_iff_eq, if_true, if_false, ↓reduceIte, Go.Flow2.Deps, and_true] at hd
            simp only [Go.Flow2.fillFrom, Act.put, List.setIfInBounds_toArray, List.set_cons_succ, List.set_cons_zero, Nat.reduceAdd]
            refine Go.Flow2.wants rfl ?_
            go_simp
            exact Below.refl _ _
          · intro vs w3 hS0 hd
            have hS := below_step hB hS0
            simp only [Go.Flow2.bound, List.filter_cons, List.filter_nil, Region.binds, reduceCtorEq, beq_iff_eq, if_true, if_false, ↓reduceIte, Go.Flow2.Deps, and_true] at hd
            simp only [Go.Flow2.fillFrom, Act.put, List.setIfInBounds_toArray, List.set_cons_succ, List.set_cons_zero, Nat.reduceAdd]
            refine Go.Flow2.wants rfl ?_
            go_simp
            exact Below.refl _ _
          · intro vs w3 hS0 hd
            have hS := below_step hB hS0
            simp only [Go.Flow2.bound, List.filter_cons, List.filter_nil, Region.binds, reduceCtorEq, beq_iff_eq, if_true, if_false, ↓reduceIte, Go.Flow2.Deps, and_true] at hd
            simp only [Go.Flow2.fillFrom, Act.put, List.setIfInBounds_toArray, List.set_cons_succ, List.set_cons_zero, Nat.reduceAdd]
            refine Go.Flow2.wants rfl ?_
            simp only [hd]
            go_simp
            exact Below.refl _ _
          · intro vs w3 hS0 hd
            have hS := below_step hB hS0
            simp only [Go.Flow2.bound, List.filter_cons, List.filter_nil, Region.binds, reduceCtorEq, beq_iff_eq, if_true, if_false, ↓reduceIte, Go.Flow2.Deps, and_true] at hd
            simp only [Go.Flow2.fillFrom, Act.put, List.setIfInBounds_toArray, List.set_cons_succ, List.set_cons_zero, Nat.reduceAdd]
            refine Go.Flow2.wants rfl ?_
            have q0 := kQ2 w3 hS
            have q1 := kQ3 w3 hS
            simp only [hd]
            go_simp
            exact Below.refl _ _
          · intro vs w3 hS0 hd
            have hS := below_step hB hS0
            simp only [Go.Flow2.bound, List.filter_cons, List.filter_nil, Region.binds, reduceCtorEq, beq_iff_eq, if_true, if_false, ↓reduceIte, Go.Flow2.Deps, and_true] at hd
            simp only [Go.Flow2.fillFrom, Act.put, List.setIfInBounds_toArray, List.set_cons_succ, List.set_cons_zero, Nat.reduceAdd]
            refine Go.Flow2.wants rfl ?_
            simp only [hd]
            go_simp
            refine (assert_Value.calls 20 3 0 2 none 0 [] 1 _ _ [2, 0] 3 0 0 _ (hNil w3) (Nat.le_refl _) (hL2 w3 hS) (Nat.le_refl _) exv2).mono ?_
            rintro e w4 ⟨rfl, hb4⟩
            exact ⟨rfl, below_step hS0 hb4, hb4⟩
          · intro vs w3 hS0 hd
            have hS := below_step hB hS0
            simp only [Go.Flow2.bound, List.filter_cons, List.filter_nil, Region.binds, reduceCtorEq, beq_iff_eq, if_true, if_false, ↓reduceIte, Go.Flow2.Deps, and_true] at hd
            simp only [Go.Flow2.fillFrom, Act.put, List.setIfInBounds_toArray, List.set_cons_succ, List.set_cons_zero, Nat.reduceAdd]
            refine Go.Flow2.wants rfl ?_
            simp only [hd]
            go_simp
            exact Below.refl _ _
          · intro vs w3 hS0 hd
            have hS := below_step hB hS0
            simp only [Go.Flow2.bound, List.filter_cons, List.filter_nil, Region.binds, reduceCtorEq, beq_iff_eq, if_true, if_false, ↓reduceIte, Go.Flow2.Deps, and_true] at hd
            simp only [Go.Flow2.fillFrom, Act.put, List.setIfInBounds_toArray, List.set_cons_succ, List.set_cons_zero, Nat.reduceAdd]
            refine Go.Flow2.wants rfl ?_
            simp only [hd]
            go_simp
            exact Below.refl _ _
          · intro vs w3 hS0 hd
            have hS := below_step hB hS0
            simp only [Go.Flow2.bound, List.filter_cons, List.filter_nil, Region.binds, reduceCtorEq, beq_iff_eq, if_true, if_false, ↓reduceIte, Go.Flow2.Deps, and_true] at hd
            simp only [Go.Flow2.fillFrom, Act.put, List.setIfInBounds_toArray, List.set_cons_succ, List.set_cons_zero, Nat.reduceAdd]
            refine Go.Flow2.wants rfl ?_
            simp only [hd]
            go_simp
            exact Below.refl _ _
          · intro vs w3 hS0 hd
            have hS := below_step hB hS0
            simp only [Go.Flow2.bound, List.filter_cons, List.filter_nil, Region.binds, reduceCtorEq, beq_iff_eq, if_true, if_false, ↓reduceIte, Go.Flow2.Deps, and_true] at hd
            simp only [Go.Flow2.fillFrom, Act.put, List.setIfInBounds_toArray, List.set_cons_succ, List.set_cons_zero, Nat.reduceAdd]
            refine Go.Flow2.wants rfl ?_
            simp only [hd]
            go_simp
            exact Below.refl _ _
          · intro vs w3 hS0 hd
            have hS := below_step hB hS0
            simp only [Go.Flow2.bound, List.filter_cons, List.filter_nil, Region.binds, reduceCtorEq, beq_iff_eq, if_true, if_false, ↓reduceIte, Go.Flow2.Deps, and_true] at hd
            simp only [Go.Flow2.fillFrom, Act.put, List.setIfInBounds_toArray, List.set_cons_succ, List.set_cons_zero, Nat.reduceAdd]
            refine Go.Flow2.wants rfl ?_
            simp only [hd]
            go_simp
            exact Below.refl _ _
        case fin2 =>
          intro vs w3 hS0 hd
          have hS := below_step hB hS0
          simp only [Go.Flow2.fillFrom, Act.put, List.setIfInBounds_toArray, List.set_cons_succ, List.set_cons_zero, Nat.reduceAdd]
          simp only [Go.Flow2.Ends, Nat.reduceAdd] at hd
          simp only [hd]
          clear hd
          have hrow3 := own_below hrow hS0
          go_wp2_with (first | (at_builtin; refine print_append_row (w0 := W1) W1.heap.size rfl _ _ 22 3 .i64 8 rfl Try.underlying22 info_int (by decide) u4 [2] [0] (some ⟨w3.heap.size, 0, none⟩) 1 1 rfl rfl (hrow3.alloc _) (readsInt_of_C (lit_C _ [0] _ (heap_alloc_new w3 _) (by simp))) (below_alloc hS _) (by have := hS.size; simp; omega) (by simp) ?_; intro v1 w5 ho5 hb5 _ _))
          go_roundw
          case rel => exact ⟨2, by omega, by simp, ho5, hb5⟩
          case measure => simp [intOf]
      · go_wp2
        refine Go.Flow2.region_flow' (fun W => Below wr.heap.size wr W) (fun i v W => match i with
          | 0 => v = .agg #[.int .u8 3, .int .i64 0, .int .i64 2, .slice none 0 0]
          | 1 => v = .slice (some ⟨bq, 0, none⟩) 4 4
          | 2 => v = .int .i64 2
          | 3 => v = .pointer (some ⟨bq, 4, none⟩)
          | 4 => v = .agg #[.int .u8 1, .slice (some ⟨w7.heap.size, 0, none⟩) 1 1]
          | 5 => v = .tuple #[.int .i64 1, .int .i64 0]
          | 6 => v = .tuple #[.int .i64 1, .int .i64 0]
          | 7 => v = .int .i64 1
          | 8 => v = .int .i64 0
          | 9 => v = .int .i64 1
          | 10 => v = .int .i64 0
          | _ => True) (fun w w' => Below w.heap.size w w') rfl (by kernel_rfl) (fun w => Below.refl _ w) ?stable3 (Below.refl _ _).drew ?steps3 ?fin3
        case stable3 =>
          intro i v w w' h he
          match i, h with
          | 0, h => exact h
          | 1, h => exact h
          | 2, h => exact h
          | 3, h => exact h
          | 4, h => exact h
          | 5, h => exact h
          | 6, h => exact h
          | 7, h => exact h
          | 8, h => exact h
          | 9, h => exact h
          | 10, h => exact h
          | _ + 11, h => exact h
        case steps3 =>
          refine ⟨?_, ?_, ?_, ?_, ?_, ?_, ?_, ?_, ?_, ?_, ?_, True.intro⟩
          · intro vs w3 hS0 hd
            have hS := below_step hB hS0
            simp only [Go.Flow2.bound, List.filter_cons, List.filter_nil, Region.binds, reduceCtorEq, beq_iff_eq, if_true, if_false, ↓reduceIte, Go.Flow2.Deps, and_true] at hd
            simp only [Go.Flow2.fillFrom, Act.put, List.setIfInBounds_toArray, List.set_cons_succ, List.set_cons_zero, Nat.reduceAdd]
            refine Go.Flow2.wants rfl ?_
            have a0 := kA0 w3 hS
            have a1 := kA1 w3 hS
            have a2 := kA2 w3 hS
            have a3 := kA3 w3 hS
            go_simp
            exact Below.refl _ _
          · intro vs w3 hS0 hd
            have hS := below_step hB hS0
            simp only [Go.Flow2.bound, List.filter_cons, List.filter_nil, Region.binds, reduceCtorEq, beq_iff_eq, if_true, if_false, ↓reduceIte, Go.Flow2.Deps, and_true] at hd
            simp only [Go.Flow2.fillFrom, Act.put, List.setIfInBounds_toArray, List.set_cons_succ, List.set_cons_zero, Nat.reduceAdd]
            refine Go.Flow2.wants rfl ?_
            go_simp
            exact Below.refl _ _
          · intro vs w3 hS0 hd
            have hS := below_step hB hS0
            simp only [Go.Flow2.bound, List.filter_cons, List.filter_nil, Region.binds, reduceCtorEq, beq_iff_eq, if_true, if_false, ↓reduceIte, Go.Flow2.Deps, and_true] at hd
            simp only [Go.Flow2.fillFrom, Act.put, List.setIfInBounds_toArray, List.set_cons_succ, List.set_cons_zero, Nat.reduceAdd]
            refine Go.Flow2.wants rfl ?_
            go_simp
            exact Below.refl _ _
          · intro vs w3 hS0 hd
            have hS := below_step hB hS0
            simp only [Go.Flow2.bound, List.filter_cons, List.filter_nil, Region.binds, reduceCtorEq, beq_iff_eq, if_true, if_false, ↓reduceIte, Go.Flow2.Deps, and_true] at hd
            simp only [Go.Flow2.fillFrom, Act.put, List.setIfInBounds_toArray, List.set_cons_succ, List.set_cons_zero, Nat.reduceAdd]
            refine Go.Flow2.wants rfl ?_
            simp only [hd]
            go_simp
            exact Below.refl _ _
          · intro vs w3 hS0 hd
            have hS := below_step hB hS0
            simp only [Go.Flow2.bound, List.filter_cons, List.filter_nil, Region.binds, reduceCtorEq, beq_iff_eq, if_true, if_false, ↓reduceIte, Go.Flow2.Deps, and_true] at hd
            simp only [Go.Flow2.fillFrom, Act.put, List.setIfInBounds_toArray, List.set_cons_succ, List.set_cons_zero, Nat.reduceAdd]
            refine Go.Flow2.wants rfl ?_
            have q0 := kQ4 w3 hS
            have q1 := kQ5 w3 hS
            simp only [hd]
            go_simp
            exact Below.refl _ _
          · intro vs w3 hS0 hd
            have hS := below_step hB hS0
            simp only [Go.Flow2.bound, List.filter_cons, List.filter_nil, Region.binds, reduceCtorEq, beq_iff_eq, if_true, if_false, ↓reduceIte, Go.Flow2.Deps, and_true] at hd
            simp only [Go.Flow2.fillFrom, Act.put, List.setIfInBounds_toArray, List.set_cons_succ, List.set_cons_zero, Nat.reduceAdd]
            refine Go.Flow2.wants rfl ?_
            simp only [hd]
            go_simp
            refine (assert_Value.calls 20 3 0 2 none 0 [] 1 _ _ [1] 3 1 0 _ (hNil w3) (Nat.le_refl _) (hL3 w3 hS) (Nat.le_refl _) exv3).mono ?_
            rintro e w4 ⟨rfl, hb4⟩
            exact ⟨rfl, below_step hS0 hb4, hb4⟩
          · intro vs w3 hS0 hd
            have hS := below_step hB hS0
            simp only [Go.Flow2.bound, List.filter_cons, List.filter_nil, Region.binds, reduceCtorEq, beq_iff_eq, if_true, if_false, ↓reduceIte, Go.Flow2.Deps, and_true] at hd
            simp only [Go.Flow2.fillFrom, Act.put, List.setIfInBounds_toArray, List.set_cons_succ, List.set_cons_zero, Nat.reduceAdd]
            refine Go.Flow2.wants rfl ?_
            simp only [hd]
            go_simp
            exact Below.refl _ _
          · intro vs w3 hS0 hd
            have hS := below_step hB hS0
            simp only [Go.Flow2.bound, List.filter_cons, List.filter_nil, Region.binds, reduceCtorEq, beq_iff_eq, if_true, if_false, ↓reduceIte, Go.Flow2.Deps, and_true] at hd
            simp only [Go.Flow2.fillFrom, Act.put, List.setIfInBounds_toArray, List.set_cons_succ, List.set_cons_zero, Nat.reduceAdd]
            refine Go.Flow2.wants rfl ?_
            simp only [hd]
            go_simp
            exact Below.refl _ _
          · intro vs w3 hS0 hd
            have hS := below_step hB hS0
            simp only [Go.Flow2.bound, List.filter_cons, List.filter_nil, Region.binds, reduceCtorEq, beq_iff_eq, if_true, if_false, ↓reduceIte, Go.Flow2.Deps, and_true] at hd
            simp only [Go.Flow2.fillFrom, Act.put, List.setIfInBounds_toArray, List.set_cons_succ, List.set_cons_zero, Nat.reduceAdd]
            refine Go.Flow2.wants rfl ?_
            simp only [hd]
            go_simp
            exact Below.refl _ _
          · intro vs w3 hS0 hd
            have hS := below_step hB hS0
            simp only [Go.Flow2.bound, List.filter_cons, List.filter_nil, Region.binds, reduceCtorEq, beq_iff_eq, if_true, if_false, ↓reduceIte, Go.Flow2.Deps, and_true] at hd
            simp only [Go.Flow2.fillFrom, Act.put, List.setIfInBounds_toArray, List.set_cons_succ, List.set_cons_zero, Nat.reduceAdd]
            refine Go.Flow2.wants rfl ?_
            simp only [hd]
            go_simp
            exact Below.refl _ _
          · intro vs w3 hS0 hd
            have hS := below_step hB hS0
            simp only [Go.Flow2.bound, List.filter_cons, List.filter_nil, Region.binds, reduceCtorEq, beq_iff_eq, if_true, if_false, ↓reduceIte, Go.Flow2.Deps, and_true] at hd
            simp only [Go.Flow2.fillFrom, Act.put, List.setIfInBounds_toArray, List.set_cons_succ, List.set_cons_zero, Nat.reduceAdd]
            refine Go.Flow2.wants rfl ?_
            simp only [hd]
            go_simp
            exact Below.refl _ _
        case fin3 =>
          intro vs w3 hS0 hd
          have hS := below_step hB hS0
          simp only [Go.Flow2.fillFrom, Act.put, List.setIfInBounds_toArray, List.set_cons_succ, List.set_cons_zero, Nat.reduceAdd]
          simp only [Go.Flow2.Ends, Nat.reduceAdd] at hd
          simp only [hd]
          clear hd
          have hrow3 := own_below hrow hS0
          go_wp2_with (first | (at_builtin; refine print_append_row (w0 := W1) W1.heap.size rfl _ _ 22 3 .i64 8 rfl Try.underlying22 info_int (by decide) u4 [2, 0] [1] (some ⟨w3.heap.size, 0, none⟩) 1 1 rfl rfl (hrow3.alloc _) (readsInt_of_C (lit_C _ [1] _ (heap_alloc_new w3 _) (by simp))) (below_alloc hS _) (by have := hS.size; simp; omega) (by simp) ?_; intro v1 w5 ho5 hb5 _ _))
          go_roundw
          case rel => exact ⟨3, by omega, by simp, ho5, hb5⟩
          case measure => simp [intOf]
      · go_wp2
        refine Go.Flow2.region_flow' (fun W => Below wr.heap.size wr W) (fun i v W => match i with
          | 0 => v = .agg #[.int .u8 3, .int .i64 0, .int .i64 2, .slice none 0 0]
          | 1 => v = .slice (some ⟨bq, 0, none⟩) 4 4
          | 2 => v = .int .i64 3
          | 3 => v = .pointer (some ⟨bq, 6, none⟩)
          | 4 => v = .agg #[.int .u8 1, .slice none 0 0]
          | 5 => v = .tuple #[.int .i64 1, .int .i64 0]
          | 6 => v = .tuple #[.int .i64 1, .int .i64 0]
          | 7 => v = .int .i64 1
          | 8 => v = .int .i64 0
          | 9 => v = .int .i64 1
          | 10 => v = .int .i64 0
          | _ => True) (fun w w' => Below w.heap.size w w') rfl (by kernel_rfl) (fun w => Below.refl _ w) ?stable4 (Below.refl _ _).drew ?steps4 ?fin4
        case stable4 =>
          intro i v w w' h he
          match i, h with
          | 0, h => exact h
          | 1, h => exact h
          | 2, h => exact h
          | 3, h => exact h
          | 4, h => exact h
          | 5, h => exact h
          | 6, h => exact h
          | 7, h => exact h
          | 8, h => exact h
          | 9, h => exact h
          | 10, h => exact h
          | _ + 11, h => exact h
        case steps4 =>
          refine ⟨?_, ?_, ?_, ?_, ?_, ?_, ?_, ?_, ?_, ?_, ?_, True.intro⟩
          · intro vs w3 hS0 hd
            have hS := below_step hB hS0
            simp only [Go.Flow2.bound, List.filter_cons, List.filter_nil, Region.binds, reduceCtorEq, beq_iff_eq, if_true, if_false, ↓reduceIte, Go.Flow2.Deps, and_true] at hd
            simp only [Go.Flow2.fillFrom, Act.put, List.setIfInBounds_toArray, List.set_cons_succ, List.set_cons_zero, Nat.reduceAdd]
            refine Go.Flow2.wants rfl ?_
            have a0 := kA0 w3 hS
            have a1 := kA1 w3 hS
            have a2 := kA2 w3 hS
            have a3 := kA3 w3 hS
            go_simp
            exact Below.refl _ _
          · intro vs w3 hS0 hd
            have hS := below_step hB hS0
            simp only [Go.Flow2.bound, List.filter_cons, List.filter_nil, Region.binds, reduceCtorEq, beq_iff_eq, if_true, if_false, ↓reduceIte, Go.Flow2.Deps, and_true] at hd
            simp only [Go.Flow2.fillFrom, Act.put, List.setIfInBounds_toArray, List.set_cons_succ, List.set_cons_zero, Nat.reduceAdd]
            refine Go.Flow2.wants rfl ?_
            go_simp
            exact Below.refl _ _
          · intro vs w3 hS0 hd
            have hS := below_step hB hS0
            simp only [Go.Flow2.bound, List.filter_cons, List.filter_nil, Region.binds, reduceCtorEq, beq_iff_eq, if_true, if_false, ↓reduceIte, Go.Flow2.Deps, and_true] at hd
            simp only [Go.Flow2.fillFrom, Act.put, List.setIfInBounds_toArray, List.set_cons_succ, List.set_cons_zero, Nat.reduceAdd]
            refine Go.Flow2.wants rfl ?_
            go_simp
            exact Below.refl _ _
          · intro vs w3 hS0 hd
            have hS := below_step hB hS0
            simp only [Go.Flow2.bound, List.filter_cons, List.filter_nil, Region.binds, reduceCtorEq, beq_iff_eq, if_true, if_false, ↓reduceIte, Go.Flow2.Deps, and_true] at hd
            simp only [Go.Flow2.fillFrom, Act.put, List.setIfInBounds_toArray, List.set_cons_succ, List.set_cons_zero, Nat.reduceAdd]
            refine Go.Flow2.wants rfl ?_
            simp only [hd]
            go_simp
            exact Below.refl _ _
          · intro vs w3 hS0 hd
            have hS := below_step hB hS0
            simp only [Go.Flow2.bound, List.filter_cons, List.filter_nil, Region.binds, reduceCtorEq, beq_iff_eq, if_true, if_false, ↓reduceIte, Go.Flow2.Deps, and_true] at hd
            simp only [Go.Flow2.fillFrom, Act.put, List.setIfInBounds_toArray, List.set_cons_succ, List.set_cons_zero, Nat.reduceAdd]
            refine Go.Flow2.wants rfl ?_
            have q0 := kQ6 w3 hS
            have q1 := kQ7 w3 hS
            simp only [hd]
            go_simp
            exact Below.refl _ _
          · intro vs w3 hS0 hd
            have hS := below_step hB hS0
            simp only [Go.Flow2.bound, List.filter_cons, List.filter_nil, Region.binds, reduceCtorEq, beq_iff_eq, if_true, if_false, ↓reduceIte, Go.Flow2.Deps, and_true] at hd
            simp only [Go.Flow2.fillFrom, Act.put, List.setIfInBounds_toArray, List.set_cons_succ, List.set_cons_zero, Nat.reduceAdd]
            refine Go.Flow2.wants rfl ?_
            simp only [hd]
            go_simp
            refine (assert_Value.calls 20 3 0 2 none 0 [] 1 _ _ [] 3 1 0 _ (hNil w3) (Nat.le_refl _) (hNil w3) (Nat.le_refl _) exv4).mono ?_
            rintro e w4 ⟨rfl, hb4⟩
            exact ⟨rfl, below_step hS0 hb4, hb4⟩
          · intro vs w3 hS0 hd
            have hS := below_step hB hS0
            simp only [Go.Flow2.bound, List.filter_cons, List.filter_nil, Region.binds, reduceCtorEq, beq_iff_eq, if_true, if_false, ↓reduceIte, Go.Flow2.Deps, and_true] at hd
            simp only [Go.Flow2.fillFrom, Act.put, List.setIfInBounds_toArray, List.set_cons_succ, List.set_cons_zero, Nat.reduceAdd]
            refine Go.Flow2.wants rfl ?_
            simp only [hd]
            go_simp
            exact Below.refl _ _
          · intro vs w3 hS0 hd
            have hS := below_step hB hS0
            simp only [Go.Flow2.bound, List.filter_cons, List.filter_nil, Region.binds, reduceCtorEq, beq_iff_eq, if_true, if_false, ↓reduceIte, Go.Flow2.Deps, and_true] at hd
            simp only [Go.Flow2.fillFrom, Act.put, List.setIfInBounds_toArray, List.set_cons_succ, List.set_cons_zero, Nat.reduceAdd]
            refine Go.Flow2.wants rfl ?_
            simp only [hd]
            go_simp
            exact Below.refl _ _
          · intro vs w3 hS0 hd
            have hS := below_step hB hS0
            simp only [Go.Flow2.bound, List.filter_cons, List.filter_nil, Region.binds, reduceCtorEq, beq_iff_eq, if_true, if_false, ↓reduceIte, Go.Flow2.Deps, and_true] at hd
            simp only [Go.Flow2.fillFrom, Act.put, List.setIfInBounds_toArray, List.set_cons_succ, List.set_cons_zero, Nat.reduceAdd]
            refine Go.Flow2.wants rfl ?_
            simp only [hd]
            go_simp
            exact Below.refl _ _
          · intro vs w3 hS0 hd
            have hS := below_step hB hS0
            simp only [Go.Flow2.bound, List.filter_cons, List.filter_nil, Region.binds, reduceCtorEq, beq_iff_eq, if_true, if_false, ↓reduceIte, Go.Flow2.Deps, and_true] at hd
            simp only [Go.Flow2.fillFrom, Act.put, List.setIfInBounds_toArray, List.set_cons_succ, List.set_cons_zero, Nat.reduceAdd]
            refine Go.Flow2.wants rfl ?_
            simp only [hd]
            go_simp
            exact Below.refl _ _
          · intro vs w3 hS0 hd
            have hS := below_step hB hS0
            simp only [Go.Flow2.bound, List.filter_cons, List.filter_nil, Region.binds, reduceCtorEq, beq_iff_eq, if_true, if_false, ↓reduceIte, Go.Flow2.Deps, and_true] at hd
            simp only [Go.Flow2.fillFrom, Act.put, List.setIfInBounds_toArray, List.set_cons_succ, List.set_cons_zero, Nat.reduceAdd]
            refine Go.Flow2.wants rfl ?_
            simp only [hd]
            go_simp
            exact Below.refl _ _
        case fin4 =>
          intro vs w3 hS0 hd
          have hS := below_step hB hS0
          simp only [Go.Flow2.fillFrom, Act.put, List.setIfInBounds_toArray, List.set_cons_succ, List.set_cons_zero, Nat.reduceAdd]
          simp only [Go.Flow2.Ends, Nat.reduceAdd] at hd
          simp only [hd]
          clear hd
          have hrow3 := own_below hrow hS0
          go_wp2_with (first | (at_builtin; refine print_append_row (w0 := W1) W1.heap.size rfl _ _ 22 3 .i64 8 rfl Try.underlying22 info_int (by decide) u4 [2, 0, 1] [1] (some ⟨w3.heap.size, 0, none⟩) 1 1 rfl rfl (hrow3.alloc _) (readsInt_of_C (lit_C _ [1] _ (heap_alloc_new w3 _) (by simp))) (below_alloc hS _) (by have := hS.size; simp; omega) (by simp) ?_; intro v1 w5 ho5 hb5 _ _))
          go_roundw
          case rel => exact ⟨4, by omega, by simp, ho5, hb5⟩
          case measure => simp [intOf]
    · obtain rfl : k = 4 := by omega
      go_wp2
      refine Go.Flow2.region_flow' (fun W => Below wr.heap.size wr W) (fun i v W => match i with
        | 0 => v = .agg #[.int .u8 4, .int .i64 1, .int .i64 2, .slice (some ⟨w.heap.size + 1, 0, none⟩) 2 2]
        | 1 => ∃ A c, v = .slice A 3 c ∧ 3 ≤ c ∧ Kd.C (Kd.int .i64) W A 3 [0, 2, 1]
        | 2 => ∃ A c, v = .agg #[.int .u8 1, .slice A 3 c] ∧ 3 ≤ c ∧ Kd.C (Kd.int .i64) W A 3 [0, 2, 1]
        | 3 => v = .tuple #[.int .i64 0, .int .i64 0]
        | 4 => v = .tuple #[.int .i64 0, .int .i64 0]
        | 5 => v = .int .i64 0
        | 6 => v = .int .i64 0
        | 7 => v = .int .i64 0
        | 8 => v = .int .i64 0
        | _ => True) (fun w w' => Below w.heap.size w w') rfl (by kernel_rfl) (fun w => Below.refl _ w) ?stable5 (Below.refl _ _).drew ?steps5 ?fin5
      case stable5 =>
        intro i v w w' h he
        match i, h with
        | 0, h => exact h
        | 1, ⟨A, c, e1, e2, e3⟩ => exact ⟨A, c, e1, e2, Kd.C_below e3 he⟩
        | 2, ⟨A, c, e1, e2, e3⟩ => exact ⟨A, c, e1, e2, Kd.C_below e3 he⟩
        | 3, h => exact h
        | 4, h => exact h
        | 5, h => exact h
        | 6, h => exact h
        | 7, h => exact h
        | 8, h => exact h
        | _ + 9, h => exact h
      case steps5 =>
        refine ⟨?_, ?_, ?_, ?_, ?_, ?_, ?_, ?_, ?_, True.intro⟩
        · intro vs w3 hS0 hd
          have hS := below_step hB hS0
          simp only [Go.Flow2.bound, List.filter_cons, List.filter_nil, Region.binds, reduceCtorEq, beq_iff_eq, if_true, if_false, ↓reduceIte, Go.Flow2.Deps, and_true] at hd
          simp only [Go.Flow2.fillFrom, Act.put, List.setIfInBounds_toArray, List.set_cons_succ, List.set_cons_zero, Nat.reduceAdd]
          refine Go.Flow2.wants rfl ?_
          have a0 := kB0 w3 hS
          have a1 := kB1 w3 hS
          have a2 := kB2 w3 hS
          have a3 := kB3 w3 hS
          go_simp
          exact Below.refl _ _
        · intro vs w3 hS0 hd
          have hS := below_step hB hS0
          simp only [Go.Flow2.bound, List.filter_cons, List.filter_nil, Region.binds, reduceCtorEq, beq_iff_eq, if_true, if_false, ↓reduceIte, Go.Flow2.Deps, and_true] at hd
          simp only [Go.Flow2.fillFrom, Act.put, List.setIfInBounds_toArray, List.set_cons_succ, List.set_cons_zero, Nat.reduceAdd]
          refine Go.Flow2.wants rfl ?_
          go_simp
          exact ⟨⟨_, _, ⟨rfl, rfl⟩, Nat.le_refl _, lit_C _ [0, 2, 1] _ (heap_alloc_new w3 _) (by simp)⟩, below_alloc hS0 _, below_box _⟩
        · intro vs w3 hS0 hd
          have hS := below_step hB hS0
          simp only [Go.Flow2.bound, List.filter_cons, List.filter_nil, Region.binds, reduceCtorEq, beq_iff_eq, if_true, if_false, ↓reduceIte, Go.Flow2.Deps, and_true] at hd
          simp only [Go.Flow2.fillFrom, Act.put, List.setIfInBounds_toArray, List.set_cons_succ, List.set_cons_zero, Nat.reduceAdd]
          refine Go.Flow2.wants rfl ?_
          obtain ⟨A, c, e1, e2, e3⟩ := hd
          simp only [e1]
          go_simp
          refine (ranks_plain A 3 c _).mono ?_
          rintro e w4 ⟨rfl, hb4⟩
          exact ⟨⟨A, c, rfl, e2, Kd.C_below e3 hb4⟩, below_step hS0 hb4, hb4⟩
        · intro vs w3 hS0 hd
          have hS := below_step hB hS0
          simp only [Go.Flow2.bound, List.filter_cons, List.filter_nil, Region.binds, reduceCtorEq, beq_iff_eq, if_true, if_false, ↓reduceIte, Go.Flow2.Deps, and_true] at hd
          simp only [Go.Flow2.fillFrom, Act.put, List.setIfInBounds_toArray, List.set_cons_succ, List.set_cons_zero, Nat.reduceAdd]
          refine Go.Flow2.wants rfl ?_
          obtain ⟨h0, ⟨A, c, e1, e2, e3⟩, _⟩ := hd
          simp only [h0, e1]
          go_simp
          refine (assert_Value.calls 20 4 1 2 _ 2 [1, 2]  1 A c [0, 2, 1] 3 0 0 _ (hS1 w3 hS) (Nat.le_refl _) e3 e2 exv5).mono ?_
          rintro e w4 ⟨rfl, hb4⟩
          exact ⟨rfl, below_step hS0 hb4, hb4⟩
        · intro vs w3 hS0 hd
          have hS := below_step hB hS0
          simp only [Go.Flow2.bound, List.filter_cons, List.filter_nil, Region.binds, reduceCtorEq, beq_iff_eq, if_true, if_false, ↓reduceIte, Go.Flow2.Deps, and_true] at hd
          simp only [Go.Flow2.fillFrom, Act.put, List.setIfInBounds_toArray, List.set_cons_succ, List.set_cons_zero, Nat.reduceAdd]
          refine Go.Flow2.wants rfl ?_
          simp only [hd]
          go_simp
          exact Below.refl _ _
        · intro vs w3 hS0 hd
          have hS := below_step hB hS0
          simp only [Go.Flow2.bound, List.filter_cons, List.filter_nil, Region.binds, reduceCtorEq, beq_iff_eq, if_true, if_false, ↓reduceIte, Go.Flow2.Deps, and_true] at hd
          simp only [Go.Flow2.fillFrom, Act.put, List.setIfInBounds_toArray, List.set_cons_succ, List.set_cons_zero, Nat.reduceAdd]
          refine Go.Flow2.wants rfl ?_
          simp only [hd]
          go_simp
          exact Below.refl _ _
        · intro vs w3 hS0 hd
          have hS := below_step hB hS0
          simp only [Go.Flow2.bound, List.filter_cons, List.filter_nil, Region.binds, reduceCtorEq, beq_iff_eq, if_true, if_false, ↓reduceIte, Go.Flow2.Deps, and_true] at hd
          simp only [Go.Flow2.fillFrom, Act.put, List.setIfInBounds_toArray, List.set_cons_succ, List.set_cons_zero, Nat.reduceAdd]
          refine Go.Flow2.wants rfl ?_
          simp only [hd]
          go_simp
          exact Below.refl _ _
        · intro vs w3 hS0 hd
          have hS := below_step hB hS0
          simp only [Go.Flow2.bound, List.filter_cons, List.filter_nil, Region.binds, reduceCtorEq, beq_iff_eq, if_true, if_false, ↓reduceIte, Go.Flow2.Deps, and_true] at hd
          simp only [Go.Flow2.fillFrom, Act.put, List.setIfInBounds_toArray, List.set_cons_succ, List.set_cons_zero, Nat.reduceAdd]
          refine Go.Flow2.wants rfl ?_
          simp only [hd]
          go_simp
          exact Below.refl _ _
        · intro vs w3 hS0 hd
          have hS := below_step hB hS0
          simp only [Go.Flow2.bound, List.filter_cons, List.filter_nil, Region.binds, reduceCtorEq, beq_iff_eq, if_true, if_false, ↓reduceIte, Go.Flow2.Deps, and_true] at hd
          simp only [Go.Flow2.fillFrom, Act.put, List.setIfInBounds_toArray, List.set_cons_succ, List.set_cons_zero, Nat.reduceAdd]
          refine Go.Flow2.wants rfl ?_
          simp only [hd]
          go_simp
          exact Below.refl _ _
      intro vs w13 hS0 hd
      have hBw13 := below_step hB hS0
      simp only [Go.Flow2.fillFrom, Act.put, List.setIfInBounds_toArray, List.set_cons_succ, List.set_cons_zero, Nat.reduceAdd]
      simp only [Go.Flow2.Ends, Nat.reduceAdd] at hd
      obtain ⟨h0, ⟨B1, d1, h1, _, _⟩, ⟨B2, d2, h2, _, _⟩, h3, h4, h5, h6, h7, h8, _⟩ := hd
      simp only [h0, h1, h2, h3, h4, h5, h6, h7, h8]
      clear h0 h1 h2 h3 h4 h5 h6 h7 h8
      have hrow := own_below hrow hS0
      go_wp2
      refine Go.Flow2.region_flow' (fun W => Below w13.heap.size w13 W) (fun i v W => match i with
        | 0 => v = .agg #[.int .u8 4, .int .i64 1, .int .i64 2, .slice (some ⟨w.heap.size + 1, 0, none⟩) 2 2]
        | 1 => ∃ A c, v = .slice A 1 c ∧ 1 ≤ c ∧ Kd.C (Kd.int .i64) W A 1 [0]
        | 2 => ∃ A c, v = .agg #[.int .u8 1, .slice A 1 c] ∧ 1 ≤ c ∧ Kd.C (Kd.int .i64) W A 1 [0]
        | 3 => v = .tuple #[.int .i64 1, .int .i64 0]
        | 4 => v = .tuple #[.int .i64 1, .int .i64 0]
        | 5 => v = .int .i64 1
        | 6 => v = .int .i64 0
        | 7 => v = .int .i64 1
        | 8 => v = .int .i64 0
        | _ => True) (fun w w' => Below w.heap.size w w') rfl (by kernel_rfl) (fun w => Below.refl _ w) ?stable6 (Below.refl _ _).drew ?steps6 ?fin6
      case stable6 =>
        intro i v w w' h he
        match i, h with
        | 0, h => exact h
        | 1, ⟨A, c, e1, e2, e3⟩ => exact ⟨A, c, e1, e2, Kd.C_below e3 he⟩
        | 2, ⟨A, c, e1, e2, e3⟩ => exact ⟨A, c, e1, e2, Kd.C_below e3 he⟩
        | 3, h => exact h
        | 4, h => exact h
        | 5, h => exact h
        | 6, h => exact h
        | 7, h => exact h
        | 8, h => exact h
        | _ + 9, h => exact h
      case steps6 =>
        refine ⟨?_, ?_, ?_, ?_, ?_, ?_, ?_, ?_, ?_, True.intro⟩
        · intro vs w3 hS0 hd
          have hS := below_step hBw13 hS0
          simp only [Go.Flow2.bound, List.filter_cons, List.filter_nil, Region.binds, reduceCtorEq, beq_iff_eq, if_true, if_false, ↓reduceIte, Go.Flow2.Deps, and_true] at hd
          simp only [Go.Flow2.fillFrom, Act.put, List.setIfInBounds_toArray, List.set_cons_succ, List.set_cons_zero, Nat.reduceAdd]
          refine Go.Flow2.wants rfl ?_
          have a0 := kB0 w3 hS
          have a1 := kB1 w3 hS
          have a2 := kB2 w3 hS
          have a3 := kB3 w3 hS
          go_simp
          exact Below.refl _ _
        · intro vs w3 hS0 hd
          have hS := below_step hBw13 hS0
          simp only [Go.Flow2.bound, List.filter_cons, List.filter_nil, Region.binds, reduceCtorEq, beq_iff_eq, if_true, if_false, ↓reduceIte, Go.Flow2.Deps, and_true] at hd
          simp only [Go.Flow2.fillFrom, Act.put, List.setIfInBounds_toArray, List.set_cons_succ, List.set_cons_zero, Nat.reduceAdd]
          refine Go.Flow2.wants rfl ?_
          go_simp
          exact ⟨⟨_, _, ⟨rfl, rfl⟩, Nat.le_refl _, lit_C _ [0] _ (heap_alloc_new w3 _) (by simp)⟩, below_alloc hS0 _, below_box _⟩
        · intro vs w3 hS0 hd
          have hS := below_step hBw13 hS0
          simp only [Go.Flow2.bound, List.filter_cons, List.filter_nil, Region.binds, reduceCtorEq, beq_iff_eq, if_true, if_false, ↓reduceIte, Go.Flow2.Deps, and_true] at hd
          simp only [Go.Flow2.fillFrom, Act.put, List.setIfInBounds_toArray, List.set_cons_succ, List.set_cons_zero, Nat.reduceAdd]
          refine Go.Flow2.wants rfl ?_
          obtain ⟨A, c, e1, e2, e3⟩ := hd
          simp only [e1]
          go_simp
          refine (ranks_plain A 1 c _).mono ?_
          rintro e w4 ⟨rfl, hb4⟩
          exact ⟨⟨A, c, rfl, e2, Kd.C_below e3 hb4⟩, below_step hS0 hb4, hb4⟩
        · intro vs w3 hS0 hd
          have hS := below_step hBw13 hS0
          simp only [Go.Flow2.bound, List.filter_cons, List.filter_nil, Region.binds, reduceCtorEq, beq_iff_eq, if_true, if_false, ↓reduceIte, Go.Flow2.Deps, and_true] at hd
          simp only [Go.Flow2.fillFrom, Act.put, List.setIfInBounds_toArray, List.set_cons_succ, List.set_cons_zero, Nat.reduceAdd]
          refine Go.Flow2.wants rfl ?_
          obtain ⟨h0, ⟨A, c, e1, e2, e3⟩, _⟩ := hd
          simp only [h0, e1]
          go_simp
          refine (assert_Value.calls 20 4 1 2 _ 2 [1, 2]  1 A c [0] 3 1 0 _ (hS1 w3 hS) (Nat.le_refl _) e3 e2 exv6).mono ?_
          rintro e w4 ⟨rfl, hb4⟩
          exact ⟨rfl, below_step hS0 hb4, hb4⟩
        · intro vs w3 hS0 hd
          have hS := below_step hBw13 hS0
          simp only [Go.Flow2.bound, List.filter_cons, List.filter_nil, Region.binds, reduceCtorEq, beq_iff_eq, if_true, if_false, ↓reduceIte, Go.Flow2.Deps, and_true] at hd
          simp only [Go.Flow2.fillFrom, Act.put, List.setIfInBounds_toArray, List.set_cons_succ, List.set_cons_zero, Nat.reduceAdd]
          refine Go.Flow2.wants rfl ?_
          simp only [hd]
          go_simp
          exact Below.refl _ _
        · intro vs w3 hS0 hd
          have hS := below_step hBw13 hS0
          simp only [Go.Flow2.bound, List.filter_cons, List.filter_nil, Region.binds, reduceCtorEq, beq_iff_eq, if_true, if_false, ↓reduceIte, Go.Flow2.Deps, and_true] at hd
          simp only [Go.Flow2.fillFrom, Act.put, List.setIfInBounds_toArray, List.set_cons_succ, List.set_cons_zero, Nat.reduceAdd]
          refine Go.Flow2.wants rfl ?_
          simp only [hd]
          go_simp
          exact Below.refl _ _
        · intro vs w3 hS0 hd
          have hS := below_step hBw13 hS0
          simp only [Go.Flow2.bound, List.filter_cons, List.filter_nil, Region.binds, reduceCtorEq, beq_iff_eq, if_true, if_false, ↓reduceIte, Go.Flow2.Deps, and_true] at hd
          simp only [Go.Flow2.fillFrom, Act.put, List.setIfInBounds_toArray, List.set_cons_succ, List.set_cons_zero, Nat.reduceAdd]
          refine Go.Flow2.wants rfl ?_
          simp only [hd]
          go_simp
          exact Below.refl _ _
        · intro vs w3 hS0 hd
          have hS := below_step hBw13 hS0
          simp only [Go.Flow2.bound, List.filter_cons, List.filter_nil, Region.binds, reduceCtorEq, beq_iff_eq, if_true, if_false, ↓reduceIte, Go.Flow2.Deps, and_true] at hd
          simp only [Go.Flow2.fillFrom, Act.put, List.setIfInBounds_toArray, List.set_cons_succ, List.set_cons_zero, Nat.reduceAdd]
          refine Go.Flow2.wants rfl ?_
          simp only [hd]
          go_simp
          exact Below.refl _ _
        · intro vs w3 hS0 hd
          have hS := below_step hBw13 hS0
          simp only [Go.Flow2.bound, List.filter_cons, List.filter_nil, Region.binds, reduceCtorEq, beq_iff_eq, if_true, if_false, ↓reduceIte, Go.Flow2.Deps, and_true] at hd
          simp only [Go.Flow2.fillFrom, Act.put, List.setIfInBounds_toArray, List.set_cons_succ, List.set_cons_zero, Nat.reduceAdd]
          refine Go.Flow2.wants rfl ?_
          simp only [hd]
          go_simp
          exact Below.refl _ _
      intro vs w14 hS0 hd
      have hBw14 := below_step hBw13 hS0
      simp only [Go.Flow2.fillFrom, Act.put, List.setIfInBounds_toArray, List.set_cons_succ, List.set_cons_zero, Nat.reduceAdd]
      simp only [Go.Flow2.Ends, Nat.reduceAdd] at hd
      obtain ⟨h0, ⟨B1, d1, h1, _, _⟩, ⟨B2, d2, h2, _, _⟩, h3, h4, h5, h6, h7, h8, _⟩ := hd
      simp only [h0, h1, h2, h3, h4, h5, h6, h7, h8]
      clear h0 h1 h2 h3 h4 h5 h6 h7 h8
      have hrow := own_below hrow hS0
      go_wp2
      refine Go.Flow2.region_flow' (fun W => Below w14.heap.size w14 W) (fun i v W => match i with
        | 0 => v = .agg #[.int .u8 5, .int .i64 1, .int .i64 0, .slice (some ⟨w.heap.size + 1 + 1 + 1, 0, none⟩) 2 2]
        | 1 => ∃ A c, v = .slice A 3 c ∧ 3 ≤ c ∧ Kd.C (Kd.int .i64) W A 3 [2, 0, 1]
        | 2 => ∃ A c, v = .agg #[.int .u8 1, .slice A 3 c] ∧ 3 ≤ c ∧ Kd.C (Kd.int .i64) W A 3 [2, 0, 1]
        | 3 => v = .tuple #[.int .i64 0, .int .i64 0]
        | 4 => v = .tuple #[.int .i64 0, .int .i64 0]
        | 5 => v = .int .i64 0
        | 6 => v = .int .i64 0
        | 7 => v = .int .i64 0
        | 8 => v = .int .i64 0
        | _ => True) (fun w w' => Below w.heap.size w w') rfl (by kernel_rfl) (fun w => Below.refl _ w) ?stable7 (Below.refl _ _).drew ?steps7 ?fin7
      case stable7 =>
        intro i v w w' h he
        match i, h with
        | 0, h => exact h
        | 1, ⟨A, c, e1, e2, e3⟩ => exact ⟨A, c, e1, e2, Kd.C_below e3 he⟩
        | 2, ⟨A, c, e1, e2, e3⟩ => exact ⟨A, c, e1, e2, Kd.C_below e3 he⟩
        | 3, h => exact h
        | 4, h => exact h
        | 5, h => exact h
        | 6, h => exact h
        | 7, h => exact h
        | 8, h => exact h
        | _ + 9, h => exact h
      case steps7 =>
        refine ⟨?_, ?_, ?_, ?_, ?_, ?_, ?_, ?_, ?_, True.intro⟩
        · intro vs w3 hS0 hd
          have hS := below_step hBw14 hS0
          simp only [Go.Flow2.bound, List.filter_cons, List.filter_nil, Region.binds, reduceCtorEq, beq_iff_eq, if_true, if_false, ↓reduceIte, Go.Flow2.Deps, and_true] at hd
          simp only [Go.Flow2.fillFrom, Act.put, List.setIfInBounds_toArray, List.set_cons_succ, List.set_cons_zero, Nat.reduceAdd]
          refine Go.Flow2.wants rfl ?_
          have a0 := kM0 w3 hS
          have a1 := kM1 w3 hS
          have a2 := kM2 w3 hS
          have a3 := kM3 w3 hS
          go_simp
          exact Below.refl _ _
        · intro vs w3 hS0 hd
          have hS := below_step hBw14 hS0
          simp only [Go.Flow2.bound, List.filter_cons, List.filter_nil, Region.binds, reduceCtorEq, beq_iff_eq, if_true, if_false, ↓reduceIte, Go.Flow2.Deps, and_true] at hd
          simp only [Go.Flow2.fillFrom, Act.put, List.setIfInBounds_toArray, List.set_cons_succ, List.set_cons_zero, Nat.reduceAdd]
          refine Go.Flow2.wants rfl ?_
          go_simp
          exact ⟨⟨_, _, ⟨rfl, rfl⟩, Nat.le_refl _, lit_C _ [2, 0, 1] _ (heap_alloc_new w3 _) (by simp)⟩, below_alloc hS0 _, below_box _⟩
        · intro vs w3 hS0 hd
          have hS := below_step hBw14 hS0
          simp only [Go.Flow2.bound, List.filter_cons, List.filter_nil, Region.binds, reduceCtorEq, beq_iff_eq, if_true, if_false, ↓reduceIte, Go.Flow2.Deps, and_true] at hd
          simp only [Go.Flow2.fillFrom, Act.put, List.setIfInBounds_toArray, List.set_cons_succ, List.set_cons_zero, Nat.reduceAdd]
          refine Go.Flow2.wants rfl ?_
          obtain ⟨A, c, e1, e2, e3⟩ := hd
          simp only [e1]
          go_simp
          refine (ranks_plain A 3 c _).mono ?_
          rintro e w4 ⟨rfl, hb4⟩
          exact ⟨⟨A, c, rfl, e2, Kd.C_below e3 hb4⟩, below_step hS0 hb4, hb4⟩
        · intro vs w3 hS0 hd
          have hS := below_step hBw14 hS0
          simp only [Go.Flow2.bound, List.filter_cons, List.filter_nil, Region.binds, reduceCtorEq, beq_iff_eq, if_true, if_false, ↓reduceIte, Go.Flow2.Deps, and_true] at hd
          simp only [Go.Flow2.fillFrom, Act.put, List.setIfInBounds_toArray, List.set_cons_succ, List.set_cons_zero, Nat.reduceAdd]
          refine Go.Flow2.wants rfl ?_
          obtain ⟨h0, ⟨A, c, e1, e2, e3⟩, _⟩ := hd
          simp only [h0, e1]
          go_simp
          refine (assert_Value.calls 20 5 1 0 _ 2 [0, 1]  1 A c [2, 0, 1] 3 0 0 _ (hS2 w3 hS) (Nat.le_refl _) e3 e2 exv7).mono ?_
          rintro e w4 ⟨rfl, hb4⟩
          exact ⟨rfl, below_step hS0 hb4, hb4⟩
        · intro vs w3 hS0 hd
          have hS := below_step hBw14 hS0
          simp only [Go.Flow2.bound, List.filter_cons, List.filter_nil, Region.binds, reduceCtorEq, beq_iff_eq, if_true, if_false, ↓reduceIte, Go.Flow2.Deps, and_true] at hd
          simp only [Go.Flow2.fillFrom, Act.put, List.setIfInBounds_toArray, List.set_cons_succ, List.set_cons_zero, Nat.reduceAdd]
          refine Go.Flow2.wants rfl ?_
          simp only [hd]
          go_simp
          exact Below.refl _ _
        · intro vs w3 hS0 hd
          have hS := below_step hBw14 hS0
          simp only [Go.Flow2.bound, List.filter_cons, List.filter_nil, Region.binds, reduceCtorEq, beq_iff_eq, if_true, if_false, ↓reduceIte, Go.Flow2.Deps, and_true] at hd
          simp only [Go.Flow2.fillFrom, Act.put, List.setIfInBounds_toArray, List.set_cons_succ, List.set_cons_zero, Nat.reduceAdd]
          refine Go.Flow2.wants rfl ?_
          simp only [hd]
          go_simp
          exact Below.refl _ _
        · intro vs w3 hS0 hd
          have hS := below_step hBw14 hS0
          simp only [Go.Flow2.bound, List.filter_cons, List.filter_nil, Region.binds, reduceCtorEq, beq_iff_eq, if_true, if_false, ↓reduceIte, Go.Flow2.Deps, and_true] at hd
          simp only [Go.Flow2.fillFrom, Act.put, List.setIfInBounds_toArray, List.set_cons_succ, List.set_cons_zero, Nat.reduceAdd]
          refine Go.Flow2.wants rfl ?_
          simp only [hd]
          go_simp
          exact Below.refl _ _
        · intro vs w3 hS0 hd
          have hS := below_step hBw14 hS0
          simp only [Go.Flow2.bound, List.filter_cons, List.filter_nil, Region.binds, reduceCtorEq, beq_iff_eq, if_true, if_false, ↓reduceIte, Go.Flow2.Deps, and_true] at hd
          simp only [Go.Flow2.fillFrom, Act.put, List.setIfInBounds_toArray, List.set_cons_succ, List.set_cons_zero, Nat.reduceAdd]
          refine Go.Flow2.wants rfl ?_
          simp only [hd]
          go_simp
          exact Below.refl _ _
        · intro vs w3 hS0 hd
          have hS := below_step hBw14 hS0
          simp only [Go.Flow2.bound, List.filter_cons, List.filter_nil, Region.binds, reduceCtorEq, beq_iff_eq, if_true, if_false, ↓reduceIte, Go.Flow2.Deps, and_true] at hd
          simp only [Go.Flow2.fillFrom, Act.put, List.setIfInBounds_toArray, List.set_cons_succ, List.set_cons_zero, Nat.reduceAdd]
          refine Go.Flow2.wants rfl ?_
          simp only [hd]
          go_simp
          exact Below.refl _ _
      intro vs w15 hS0 hd
      have hBw15 := below_step hBw14 hS0
      simp only [Go.Flow2.fillFrom, Act.put, List.setIfInBounds_toArray, List.set_cons_succ, List.set_cons_zero, Nat.reduceAdd]
      simp only [Go.Flow2.Ends, Nat.reduceAdd] at hd
      obtain ⟨h0, ⟨B1, d1, h1, _, _⟩, ⟨B2, d2, h2, _, _⟩, h3, h4, h5, h6, h7, h8, _⟩ := hd
      simp only [h0, h1, h2, h3, h4, h5, h6, h7, h8]
      clear h0 h1 h2 h3 h4 h5 h6 h7 h8
      have hrow := own_below hrow hS0
      go_wp2
      refine Go.Flow2.region_flow' (fun W => Below w15.heap.size w15 W) (fun i v W => match i with
        | 0 => v = .agg #[.int .u8 3, .int .i64 0, .int .i64 2, .slice none 0 0]
        | 1 => ∃ A c, v = .slice A 1 c ∧ 1 ≤ c ∧ Kd.C (Kd.int .i64) W A 1 [1]
        | 2 => ∃ A c, v = .agg #[.int .u8 2, .slice A 1 c] ∧ 1 ≤ c ∧ Kd.C (Kd.int .i64) W A 1 [1]
        | 3 => v = .tuple #[.int .i64 0, .int .i64 8]
        | 4 => v = .tuple #[.int .i64 0, .int .i64 8]
        | 5 => v = .int .i64 0
        | 6 => v = .int .i64 8
        | 7 => v = .int .i64 0
        | 8 => v = .int .i64 8
        | _ => True) (fun w w' => Below w.heap.size w w') rfl (by kernel_rfl) (fun w => Below.refl _ w) ?stable8 (Below.refl _ _).drew ?steps8 ?fin8
      case stable8 =>
        intro i v w w' h he
        match i, h with
        | 0, h => exact h
        | 1, ⟨A, c, e1, e2, e3⟩ => exact ⟨A, c, e1, e2, Kd.C_below e3 he⟩
        | 2, ⟨A, c, e1, e2, e3⟩ => exact ⟨A, c, e1, e2, Kd.C_below e3 he⟩
        | 3, h => exact h
        | 4, h => exact h
        | 5, h => exact h
        | 6, h => exact h
        | 7, h => exact h
        | 8, h => exact h
        | _ + 9, h => exact h
      case steps8 =>
        refine ⟨?_, ?_, ?_, ?_, ?_, ?_, ?_, ?_, ?_, True.intro⟩
        · intro vs w3 hS0 hd
          have hS := below_step hBw15 hS0
          simp only [Go.Flow2.bound, List.filter_cons, List.filter_nil, Region.binds, reduceCtorEq, beq_iff_eq, if_true, if_false, ↓reduceIte, Go.Flow2.Deps, and_true] at hd
          simp only [Go.Flow2.fillFrom, Act.put, List.setIfInBounds_toArray, List.set_cons_succ, List.set_cons_zero, Nat.reduceAdd]
          refine Go.Flow2.wants rfl ?_
          have a0 := kA0 w3 hS
          have a1 := kA1 w3 hS
          have a2 := kA2 w3 hS
          have a3 := kA3 w3 hS
          go_simp
          exact Below.refl _ _
        · intro vs w3 hS0 hd
          have hS := below_step hBw15 hS0
          simp only [Go.Flow2.bound, List.filter_cons, List.filter_nil, Region.binds, reduceCtorEq, beq_iff_eq, if_true, if_false, ↓reduceIte, Go.Flow2.Deps, and_true] at hd
          simp only [Go.Flow2.fillFrom, Act.put, List.setIfInBounds_toArray, List.set_cons_succ, List.set_cons_zero, Nat.reduceAdd]
          refine Go.Flow2.wants rfl ?_
          go_simp
          exact ⟨⟨_, _, ⟨rfl, rfl⟩, Nat.le_refl _, lit_C _ [1] _ (heap_alloc_new w3 _) (by simp)⟩, below_alloc hS0 _, below_box _⟩
        · intro vs w3 hS0 hd
          have hS := below_step hBw15 hS0
          simp only [Go.Flow2.bound, List.filter_cons, List.filter_nil, Region.binds, reduceCtorEq, beq_iff_eq, if_true, if_false, ↓reduceIte, Go.Flow2.Deps, and_true] at hd
          simp only [Go.Flow2.fillFrom, Act.put, List.setIfInBounds_toArray, List.set_cons_succ, List.set_cons_zero, Nat.reduceAdd]
          refine Go.Flow2.wants rfl ?_
          obtain ⟨A, c, e1, e2, e3⟩ := hd
          simp only [e1]
          go_simp
          refine (marks_plain A 1 c _).mono ?_
          rintro e w4 ⟨rfl, hb4⟩
          exact ⟨⟨A, c, rfl, e2, Kd.C_below e3 hb4⟩, below_step hS0 hb4, hb4⟩
        · intro vs w3 hS0 hd
          have hS := below_step hBw15 hS0
          simp only [Go.Flow2.bound, List.filter_cons, List.filter_nil, Region.binds, reduceCtorEq, beq_iff_eq, if_true, if_false, ↓reduceIte, Go.Flow2.Deps, and_true] at hd
          simp only [Go.Flow2.fillFrom, Act.put, List.setIfInBounds_toArray, List.set_cons_succ, List.set_cons_zero, Nat.reduceAdd]
          refine Go.Flow2.wants rfl ?_
          obtain ⟨h0, ⟨A, c, e1, e2, e3⟩, _⟩ := hd
          simp only [h0, e1]
          go_simp
          refine (assert_Value.calls 20 3 0 2 none 0 []  2 A c [1] 3 0 8 _ (hNil w3) (Nat.le_refl _) e3 e2 exv8).mono ?_
          rintro e w4 ⟨rfl, hb4⟩
          exact ⟨rfl, below_step hS0 hb4, hb4⟩
        · intro vs w3 hS0 hd
          have hS := below_step hBw15 hS0
          simp only [Go.Flow2.bound, List.filter_cons, List.filter_nil, Region.binds, reduceCtorEq, beq_iff_eq, if_true, if_false, ↓reduceIte, Go.Flow2.Deps, and_true] at hd
          simp only [Go.Flow2.fillFrom, Act.put, List.setIfInBounds_toArray, List.set_cons_succ, List.set_cons_zero, Nat.reduceAdd]
          refine Go.Flow2.wants rfl ?_
          simp only [hd]
          go_simp
          exact Below.refl _ _
        · intro vs w3 hS0 hd
          have hS := below_step hBw15 hS0
          simp only [Go.Flow2.bound, List.filter_cons, List.filter_nil, Region.binds, reduceCtorEq, beq_iff_eq, if_true, if_false, ↓reduceIte, Go.Flow2.Deps, and_true] at hd
          simp only [Go.Flow2.fillFrom, Act.put, List.setIfInBounds_toArray, List.set_cons_succ, List.set_cons_zero, Nat.reduceAdd]
          refine Go.Flow2.wants rfl ?_
          simp only [hd]
          go_simp
          exact Below.refl _ _
        · intro vs w3 hS0 hd
          have hS := below_step hBw15 hS0
          simp only [Go.Flow2.bound, List.filter_cons, List.filter_nil, Region.binds, reduceCtorEq, beq_iff_eq, if_true, if_false, ↓reduceIte, Go.Flow2.Deps, and_true] at hd
          simp only [Go.Flow2.fillFrom, Act.put, List.setIfInBounds_toArray, List.set_cons_succ, List.set_cons_zero, Nat.reduceAdd]
          refine Go.Flow2.wants rfl ?_
          simp only [hd]
          go_simp
          exact Below.refl _ _
        · intro vs w3 hS0 hd
          have hS := below_step hBw15 hS0
          simp only [Go.Flow2.bound, List.filter_cons, List.filter_nil, Region.binds, reduceCtorEq, beq_iff_eq, if_true, if_false, ↓reduceIte, Go.Flow2.Deps, and_true] at hd
          simp only [Go.Flow2.fillFrom, Act.put, List.setIfInBounds_toArray, List.set_cons_succ, List.set_cons_zero, Nat.reduceAdd]
          refine Go.Flow2.wants rfl ?_
          simp only [hd]
          go_simp
          exact Below.refl _ _
        · intro vs w3 hS0 hd
          have hS := below_step hBw15 hS0
          simp only [Go.Flow2.bound, List.filter_cons, List.filter_nil, Region.binds, reduceCtorEq, beq_iff_eq, if_true, if_false, ↓reduceIte, Go.Flow2.Deps, and_true] at hd
          simp only [Go.Flow2.fillFrom, Act.put, List.setIfInBounds_toArray, List.set_cons_succ, List.set_cons_zero, Nat.reduceAdd]
          refine Go.Flow2.wants rfl ?_
          simp only [hd]
          go_simp
          exact Below.refl _ _
      intro vs w16 hS0 hd
      have hBw16 := below_step hBw15 hS0
      simp only [Go.Flow2.fillFrom, Act.put, List.setIfInBounds_toArray, List.set_cons_succ, List.set_cons_zero, Nat.reduceAdd]
      simp only [Go.Flow2.Ends, Nat.reduceAdd] at hd
      obtain ⟨h0, ⟨B1, d1, h1, _, _⟩, ⟨B2, d2, h2, _, _⟩, h3, h4, h5, h6, h7, h8, _⟩ := hd
      simp only [h0, h1, h2, h3, h4, h5, h6, h7, h8]
      clear h0 h1 h2 h3 h4 h5 h6 h7 h8
      have hrow := own_below hrow hS0
      go_wp2_with (go_at_call 9; fail)
      have gStr := blk_box (blk_box (heap_alloc_new w16 (.cells #[.string ⟨#[97]⟩, .string ⟨#[98]⟩, .string ⟨#[99]⟩] 9)) (.cells #[.string ⟨#[120]⟩, .slice (some ⟨w16.heap.size, 0, none⟩) 3 3, .int .i64 2, .int .u8 2] 34)) (.cells #[.int .i64 2, .int .i64 0] 3)
      have gCon := blk_box (heap_new_at (b := w16.heap.size + 1) (World.size_alloc w16 (.cells #[.string ⟨#[97]⟩, .string ⟨#[98]⟩, .string ⟨#[99]⟩] 9)) (.cells #[.string ⟨#[120]⟩, .slice (some ⟨w16.heap.size, 0, none⟩) 3 3, .int .i64 2, .int .u8 2] 34)) (.cells #[.int .i64 2, .int .i64 0] 3)
      have gEl := heap_new_at (b := w16.heap.size + 1 + 1) (by simp) (W := (w16.alloc (.cells #[.string ⟨#[97]⟩, .string ⟨#[98]⟩, .string ⟨#[99]⟩] 9)).alloc (.cells #[.string ⟨#[120]⟩, .slice (some ⟨w16.heap.size, 0, none⟩) 3 3, .int .i64 2, .int .u8 2] 34)) (.cells #[.int .i64 2, .int .i64 0] 3)
      have hb17 := below_alloc (below_alloc (below_box (w := w16) (.cells #[.string ⟨#[97]⟩, .string ⟨#[98]⟩, .string ⟨#[99]⟩] 9)) (.cells #[.string ⟨#[120]⟩, .slice (some ⟨w16.heap.size, 0, none⟩) 3 3, .int .i64 2, .int .u8 2] 34)) (.cells #[.int .i64 2, .int .i64 0] 3)
      go_at_call 9
      refine (assert_Of.calls 20 ⟨#[120]⟩ _ 3 [⟨#[97]⟩, ⟨#[98]⟩, ⟨#[99]⟩] 2 2 _ 2 [2, 0] none 0 [] none 0 [] [⟨2, 2, 1, []⟩, ⟨2, 0, 1, []⟩] 0 _ (lit_Cs _ [⟨#[97]⟩, ⟨#[98]⟩, ⟨#[99]⟩] _ _ gStr (by simp)) (Nat.le_refl _) (lit_C _ [2, 0] _ gEl (by simp)) (Nat.le_refl _) ⟨rfl, by simp, fun hp => absurd hp (by simp)⟩ (Nat.le_refl _) ⟨rfl, by simp, fun hp => absurd hp (by simp)⟩ (Nat.le_refl _) exo1).mono ?_
      rintro e w18 ⟨v18, rfl, hs18, hb18⟩
      have h1618 := below_step hb17 hb18
      have hB18 := below_step hBw16 h1618
      have hrow := own_below hrow h1618
      have gStr := blk_later gStr hb18
      have gCon := blk_later gCon hb18
      clear gEl hb17 hb18
      have cc0 : w18.cell? ⟨w16.heap.size + 1, 0, none⟩ = some (.string ⟨#[120]⟩) := (blk_cell gCon 0).trans rfl
      have cc1 : w18.cell? ⟨w16.heap.size + 1, 1, none⟩ = some (.slice (some ⟨w16.heap.size, 0, none⟩) 3 3) := (blk_cell gCon 1).trans rfl
      have cc2 : w18.cell? ⟨w16.heap.size + 1, 2, none⟩ = some (.int .i64 2) := (blk_cell gCon 2).trans rfl
      have cc3 : w18.cell? ⟨w16.heap.size + 1, 3, none⟩ = some (.int .u8 2) := (blk_cell gCon 3).trans rfl
      go_wp2_with (go_at_call 9; fail)
      have gEl := heap_alloc_new w18 (.cells #[.int .i64 2, .int .i64 2] 3)
      go_at_call 9
      refine (assert_Of.calls 20 ⟨#[120]⟩ _ 3 [⟨#[97]⟩, ⟨#[98]⟩, ⟨#[99]⟩] 2 2 _ 2 [2, 2] none 0 [] none 0 [] [] 8 _ (lit_Cs _ [⟨#[97]⟩, ⟨#[98]⟩, ⟨#[99]⟩] _ _ (blk_box gStr _) (by simp)) (Nat.le_refl _) (lit_C _ [2, 2] _ gEl (by simp)) (Nat.le_refl _) ⟨rfl, by simp, fun hp => absurd hp (by simp)⟩ (Nat.le_refl _) ⟨rfl, by simp, fun hp => absurd hp (by simp)⟩ (Nat.le_refl _) exo2).mono ?_
      rintro e w19 ⟨v19, rfl, hs19, hb19⟩
      have h1819 := below_step (below_box _) hb19
      have hB19 := below_step hB18 h1819
      have hrow := own_below hrow h1819
      have gStr := blk_later (blk_box gStr _) hb19
      have gCon := blk_later (blk_box gCon _) hb19
      have hs18 := Kd.S_below hs18 h1819
      clear gEl hb19 cc0 cc1 cc2 cc3
      have cc3 : w19.cell? ⟨w16.heap.size + 1, 3, none⟩ = some (.int .u8 2) := (blk_cell gCon 3).trans rfl
      have cf3 := blk_frozen gCon 3
      have hB20 := hB19.setCell (p := ⟨w16.heap.size + 1, 3, none⟩) (by have := hBw16.size; show W1.heap.size ≤ w16.heap.size + 1; omega) (.int .u8 3)
      have gCon20 : (w19.setCell ⟨w16.heap.size + 1, 3, none⟩ (.int .u8 3)).heap[w16.heap.size + 1]? = some (.cells #[.string ⟨#[120]⟩, .slice (some ⟨w16.heap.size, 0, none⟩) 3 3, .int .i64 2, .int .u8 3] 34 (0, 0)) := (blk_set gCon 3 _).trans rfl
      have dc0 := blk_cell gCon20 0
      have dc1 := blk_cell gCon20 1
      have dc2 := blk_cell gCon20 2
      have dc3 := blk_cell gCon20 3
      simp only [List.getElem?_toArray, List.getElem?_cons_zero, List.getElem?_cons_succ] at dc0 dc1 dc2 dc3
      have gStr20 := (Below.heap_setCell w19 ⟨w16.heap.size + 1, 3, none⟩ (.int .u8 3) w16.heap.size (by show w16.heap.size ≠ w16.heap.size + 1; omega)).trans gStr
      have hs20 := Kd.S_set hs18 gCon (by decide) 3 (.int .u8 3)
      go_wp2_with (go_at_call 9; fail)
      have hrow := own_setCell hrow gCon (by decide) 3 (.int .u8 3)
      have hz20 : (w19.setCell ⟨w16.heap.size + 1, 3, none⟩ (.int .u8 3)).heap.size = w19.heap.size := by simp
      generalize w19.setCell ⟨w16.heap.size + 1, 3, none⟩ (.int .u8 3) = w20 at *
      have gEl := heap_new_at hz20 (.cells #[.int .i64 2, .int .i64 0] 3)
      go_at_call 9
      refine (assert_Of.calls 20 ⟨#[120]⟩ _ 3 [⟨#[97]⟩, ⟨#[98]⟩, ⟨#[99]⟩] 2 3 _ 2 [2, 0] none 0 [] none 0 [] [] 6 _ (lit_Cs _ [⟨#[97]⟩, ⟨#[98]⟩, ⟨#[99]⟩] _ _ (blk_box gStr20 _) (by simp)) (Nat.le_refl _) (lit_C _ [2, 0] _ gEl (by simp)) (Nat.le_refl _) ⟨rfl, by simp, fun hp => absurd hp (by simp)⟩ (Nat.le_refl _) ⟨rfl, by simp, fun hp => absurd hp (by simp)⟩ (Nat.le_refl _) exo3).mono ?_
      rintro e w21 ⟨v21, rfl, hs21, hb21⟩
      have h2021 := below_step (below_box _) hb21
      have hB21 := below_step hB20 h2021
      have hrow := own_below hrow h2021
      have hs21b := Kd.S_below hs20 h2021
      clear gEl hb21 cc3 cf3 dc0 dc1 dc2 dc3 gCon20 gStr20 gCon gStr
      go_wp2_with (fail)
      obtain ⟨Al, cl, hv18, hcl, hCl⟩ := Kd.S_reads hs21b
      obtain ⟨Ag, cg, hu4, hcg, hCg⟩ := own_C hrow
      clear hs21b hs21 hs20 hs19 hs18 hrow
      subst hv18 hu4
      go_at_call 8
      refine (marks_plain _ _ _ _).mono ?_
      rintro e w22 ⟨rfl, hb22⟩
      have gL := blk_later (heap_alloc_new w21 (.cells #[.int .i64 0, .int .i64 1] 3)) hb22
      have h2122 := below_step (below_box _) hb22
      have hB22 := below_step hB21 h2122
      clear hb22
      go_wp2_with (fail)
      go_at_call 7
      refine (assert_Value.calls 20 1 0 1 none 0 [] 2 _ 2 [0, 1] 3 1 0 _ (hNil _) (Nat.le_refl _) (lit_C _ [0, 1] _ gL (by simp)) (Nat.le_refl _) exv9).mono ?_
      rintro e w23 ⟨rfl, hb23⟩
      have h2123 := below_step h2122 hb23
      have hB23 := below_step hB22 hb23
      clear hb23 gL
      have gW := heap_alloc_new w23 (.cells #[.int .u8 2, .int .i64 2, .int .i64 1, .slice none 0 0, .int .u8 2, .int .i64 0, .int .i64 1, .slice none 0 0] 24)
      have hB24 := below_alloc hB23 (.cells #[.int .u8 2, .int .i64 2, .int .i64 1, .slice none 0 0, .int .u8 2, .int .i64 0, .int .i64 1, .slice none 0 0] 24)
      have h2124 := below_alloc h2123 (.cells #[.int .u8 2, .int .i64 2, .int .i64 1, .slice none 0 0, .int .u8 2, .int .i64 0, .int .i64 1, .slice none 0 0] 24)
      go_wp2_with (fail)
      have gI := heap_new_at (b := w23.heap.size + 1) (World.size_alloc w23 (.cells #[.int .u8 2, .int .i64 2, .int .i64 1, .slice none 0 0, .int .u8 2, .int .i64 0, .int .i64 1, .slice none 0 0] 24)) (.cells #[.int .i64 2, .int .i64 0, .int .i64 1, .int .i64 1] 3)
      have h2125 := below_alloc h2124 (.cells #[.int .i64 2, .int .i64 0, .int .i64 1, .int .i64 1] 3)
      have hB25 := below_alloc hB24 (.cells #[.int .i64 2, .int .i64 0, .int .i64 1, .int .i64 1] 3)
      have gW := blk_box gW (.cells #[.int .i64 2, .int .i64 0, .int .i64 1, .int .i64 1] 3)
      go_at_call 10
      refine (suffrageref08_Ints.calls 20 Ag cg [2, 0, 1, 1] _ 4 [2, 0, 1, 1] true _ (Kd.C_below hCg h2125) hcg (lit_C _ [2, 0, 1, 1] _ gI (by simp)) (Nat.le_refl _) exq1).mono ?_
      rintro e w26 ⟨rfl, hd26⟩
      have hb26 := hd26.below
      have h2126 := below_step h2125 hb26
      have hB26 := below_step hB25 hb26
      have gW := blk_later gW hb26
      clear hb26 hd26 gI
      go_wp2_with (fail)
      go_at_call 11
      refine (suffrageref41_All.calls 20 Al cl [⟨2, 2, 1, []⟩, ⟨2, 0, 1, []⟩] _ 2 [⟨2, 2, 1, []⟩, ⟨2, 0, 1, []⟩] true _ (Kd.C_below hCl h2126) hcl (lit_C24 _ _ gW) (Nat.le_refl _) exq2).mono ?_
      rintro e w27 ⟨rfl, hb27⟩
      have hB27 := below_step hB26 hb27
      clear hb27 gW
      have cA0_27 := kA0 _ hB27
      have cA1_27 := kA1 _ hB27
      have cA2_27 := kA2 _ hB27
      have cA3_27 := kA3 _ hB27
      go_wp2_with (fail)
      go_at_call 12
      refine (assert_Check.calls 20 3 0 2 none 0 [] 2 _ _ (hNil _) (Nat.le_refl _) exq3).mono ?_
      rintro e w28 ⟨rfl, hb28⟩
      have hB28 := below_step hB27 hb28
      clear hb28 cA0_27 cA1_27 cA2_27 cA3_27
      have cA0_28 := kA0 _ hB28
      have cA1_28 := kA1 _ hB28
      have cA2_28 := kA2 _ hB28
      have cA3_28 := kA3 _ hB28
      go_wp2_with (fail)
      go_at_call 12
      refine (assert_Check.calls 20 3 0 2 none 0 [] 11 _ _ (hNil _) (Nat.le_refl _) exq4).mono ?_
      rintro e w29 ⟨rfl, hb29⟩
      have hB29 := below_step hB28 hb29
      clear hb29 cA0_28 cA1_28 cA2_28 cA3_28
      have cM0_29 := kM0 _ hB29
      have cM1_29 := kM1 _ hB29
      have cM2_29 := kM2 _ hB29
      have cM3_29 := kM3 _ hB29
      go_wp2_with (fail)
      go_at_call 12
      refine (assert_Check.calls 20 5 1 0 _ 2 [0, 1] 2 _ _ (hS2 _ hB29) (Nat.le_refl _) exq5).mono ?_
      rintro e w30 ⟨rfl, hb30⟩
      have hB30 := below_step hB29 hb30
      clear hb30 cM0_29 cM1_29 cM2_29 cM3_29
      have cA0_30 := kA0 _ hB30
      have cA1_30 := kA1 _ hB30
      have cA2_30 := kA2 _ hB30
      have cA3_30 := kA3 _ hB30
      go_wp2_with (fail)
      go_at_call 13
      refine (assert_Same.calls 20 3 0 2 none 0 [] 3 0 2 none 0 [] _ _ (hNil _) (Nat.le_refl _) (hNil _) (Nat.le_refl _) exq6).mono ?_
      rintro e w31 ⟨rfl, hb31⟩
      have hB31 := below_step hB30 hb31
      clear hb31
      have cA0_31 := kA0 _ hB31
      have cA1_31 := kA1 _ hB31
      have cA2_31 := kA2 _ hB31
      have cA3_31 := kA3 _ hB31
      have cB0_31 := kB0 _ hB31
      have cB1_31 := kB1 _ hB31
      have cB2_31 := kB2 _ hB31
      have cB3_31 := kB3 _ hB31
      go_wp2_with (fail)
      go_at_call 13
      refine (assert_Same.calls 20 3 0 2 none 0 [] 4 1 2 _ 2 [1, 2] _ _ (hNil _) (Nat.le_refl _) (hS1 _ hB31) (Nat.le_refl _) exq7).mono ?_
      rintro e w32 ⟨rfl, hb32⟩
      have hB32 := below_step hB31 hb32
      clear hb32
      go_wp2_with (fail)
      go_ret
      exact ⟨rfl, HW.out.trans (hB32.mono HW.out.size)⟩
theorem suffragelaw41_AssertExamples.calls (r : Bool) (w : World) (h : suffragelaw41_AssertExamples.f = some r) : Calls Try.prog 3 #[] w fun e w' => e = .returned (.bool r) ∧ Below w.heap.size w w' := by
  obtain rfl : true = r := Option.some.inj h
  exact ex_walk w

end Go.Proofs.Ytegdcoamafcfeaa.Pr
