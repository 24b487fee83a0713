-- Written by a program of this session (the kit's print, many functions in one namespace). Not trusted: Lean checks it.
import Derived.Test.YtegdcoamafcfeaaM0
import Derived.Test.YtegdcoamafcfeaaM1
import Derived.Test.YtegdcoamafcfeaaM2
import Derived.Test.YtegdcoamafcfeaaM3
import Derived.Test.YtegdcoamafcfeaaM5
import Derived.Test.YtegdcoamafcfeaaM7
import Derived.Test.YtegdcoamafcfeaaM8
namespace Go.Proofs.Ytegdcoamafcfeaa.Pr
open Go.RowKit Go.Proofs.YtegdcoamafcfeaaW.PrintWords Go.Proofs.YtegdcoamafcfeaaW.PrintLast
set_option linter.unusedVariables false
set_option linter.unusedSimpArgs false
/-! ### suffragelaw41_AssertExamples: function 3 (by hand) -/
theorem ranks_plain (A : Option Addr) (n c : Nat) (w : World) : Calls Try.prog 6 #[.slice A n c] w fun e w' => e = .returned (.agg #[.int .u8 1, .slice A n c]) ∧ Below w.heap.size w w' := by
  have hb := heap_alloc_new w (.cells #[.int .u8 1, .slice A n c] 26)
  go_enter Try.func6, Try.ntmps6
  go_wp2
  refine bodyPost_ret (results_cell_row rfl _ _ w.heap.size 26 #[.int .u8 1, .slice A n c] (0, 0) _ rfl hb Try.underlying26 rfl (by kernel_rfl)) rfl ?_
  exact ⟨rfl, below_box _⟩
theorem marks_plain (A : Option Addr) (n c : Nat) (w : World) : Calls Try.prog 8 #[.slice A n c] w fun e w' => e = .returned (.agg #[.int .u8 2, .slice A n c]) ∧ Below w.heap.size w w' := by
  have hb := heap_alloc_new w (.cells #[.int .u8 2, .slice A n c] 26)
  go_enter Try.func8, Try.ntmps8
  go_wp2
  refine bodyPost_ret (results_cell_row rfl _ _ w.heap.size 26 #[.int .u8 2, .slice A n c] (0, 0) _ rfl hb Try.underlying26 rfl (by kernel_rfl)) rfl ?_
  exact ⟨rfl, below_box _⟩
/-- A literal's row is read. -/
theorem lit_C (w : World) (xs : List Int) (b : Nat) (hb : w.heap[b]? = some (.cells (nums .i64 xs).toArray 3 (0, 0))) (hm : xs.length ≤ 9223372036854775807) : Kd.C (Kd.int .i64) w (some ⟨b, 0, none⟩) xs.length xs := by
  refine C_of_readsInt ⟨rfl, by simpa [maxLen] using hm, fun hp => ⟨⟨b, 0, none⟩, rfl, fun j hj => ?_⟩⟩
  have hx : (nums IntKind.i64 xs)[j]? = some (.int .i64 (xs.getD j 0)) := by simp [nums, List.getD, hj]
  have : ((⟨b, 0, none⟩ : Addr).add j) = ⟨b, j, none⟩ := by cases j <;> simp [Addr.add]
  rw [this]
  simp only [World.cell?, hb]
  simpa using hx
theorem exv1 : assert_Value.f 20 3 0 2 [] 1 [0, 1] 3 = some (2, 0) := by kernel_rfl
theorem exv2 : assert_Value.f 20 3 0 2 [] 1 [2, 0] 3 = some (0, 0) := by kernel_rfl
theorem exv3 : assert_Value.f 20 3 0 2 [] 1 [1] 3 = some (1, 0) := by kernel_rfl
theorem exv4 : assert_Value.f 20 3 0 2 [] 1 [] 3 = some (1, 0) := by kernel_rfl
theorem exv5 : assert_Value.f 20 4 1 2 [1, 2] 1 [0, 2, 1] 3 = some (0, 0) := by kernel_rfl
theorem exv6 : assert_Value.f 20 4 1 2 [1, 2] 1 [0] 3 = some (1, 0) := by kernel_rfl
theorem exv7 : assert_Value.f 20 5 1 0 [0, 1] 1 [2, 0, 1] 3 = some (0, 0) := by kernel_rfl
theorem exv8 : assert_Value.f 20 3 0 2 [] 2 [1] 3 = some (0, 8) := by kernel_rfl
theorem exv9 : assert_Value.f 20 1 0 1 [] 2 [0, 1] 3 = some (1, 0) := by kernel_rfl
theorem exs1 : (([2, 0] : List Int).mergeSort fun x y => decide (x ≤ y)) = [0, 2] := by simp [List.mergeSort, List.MergeSort.Internal.splitInTwo, List.merge]
theorem exs2 : (([2, 2] : List Int).mergeSort fun x y => decide (x ≤ y)) = [2, 2] := by simp [List.mergeSort, List.MergeSort.Internal.splitInTwo, List.merge]
theorem exo1 : assert_Of.f 20 ⟨#[120]⟩ [⟨#[97]⟩, ⟨#[98]⟩, ⟨#[99]⟩] 2 2 [2, 0] [] [] = some ([⟨2, 2, 1, []⟩, ⟨2, 0, 1, []⟩], 0) := by
  unfold assert_Of.f
  rw [exs1]
  kernel_rfl
theorem exo2 : assert_Of.f 20 ⟨#[120]⟩ [⟨#[97]⟩, ⟨#[98]⟩, ⟨#[99]⟩] 2 2 [2, 2] [] [] = some ([], 8) := by
  unfold assert_Of.f
  rw [exs2]
  kernel_rfl
theorem exo3 : assert_Of.f 20 ⟨#[120]⟩ [⟨#[97]⟩, ⟨#[98]⟩, ⟨#[99]⟩] 2 3 [2, 0] [] [] = some ([], 6) := by kernel_rfl
theorem exq1 : suffrageref08_Ints.f 20 [2, 0, 1, 1] [2, 0, 1, 1] = some true := by kernel_rfl
theorem exq2 : suffrageref41_All.f 20 [⟨2, 2, 1, []⟩, ⟨2, 0, 1, []⟩] [⟨2, 2, 1, []⟩, ⟨2, 0, 1, []⟩] = some true := by kernel_rfl
theorem exq3 : assert_Check.f 20 3 0 2 [] 2 = some 8 := by kernel_rfl
theorem exq4 : assert_Check.f 20 3 0 2 [] 11 = some 2 := by kernel_rfl
theorem exq5 : assert_Check.f 20 5 1 0 [0, 1] 2 = some 0 := by kernel_rfl
theorem exq6 : assert_Same.f 20 3 0 2 [] 3 0 2 [] = some true := by kernel_rfl
theorem exq7 : assert_Same.f 20 3 0 2 [] 4 1 2 [1, 2] = some false := by kernel_rfl
theorem own_C {w : World} {base n : Nat} {e : TypeId} {v : Value} {xs : List Int} (h : w.ownsRow base e 1 v n (nums .i64 xs)) : ∃ A c, v = .slice A n c ∧ n ≤ c ∧ Kd.C (Kd.int .i64) w A n xs := by
  obtain ⟨A, c, rfl, hr⟩ := own_reads h
  exact ⟨A, c, rfl, own_le h, C_of_readsInt hr⟩
theorem lit_C24 (w : World) (b : Nat) (hb : w.heap[b]? = some (.cells #[.int .u8 2, .int .i64 2, .int .i64 1, .slice none 0 0, .int .u8 2, .int .i64 0, .int .i64 1, .slice none 0 0] 24 (0, 0))) : Kd.C k24 w (some ⟨b, 0, none⟩) 2 [⟨2, 2, 1, []⟩, ⟨2, 0, 1, []⟩] := by
  have hN : Kd.C (Kd.int .i64) w none 0 [] := ⟨rfl, by simp, fun hp => absurd hp (by simp)⟩
  refine ⟨rfl, by simp, fun _ => ⟨_, rfl, fun j p hj => ?_⟩⟩
  match j, hj with
  | 0, hj =>
    injection hj with hj
    subst hj
    refine ⟨_, rfl, k24_mk w ⟨2, 2, 1, []⟩ (A3 := none) (c3 := 0) (Nat.le_refl _) hN, fun i u hu => ?_⟩
    match i, hu with
    | 0, hu => exact (blk_cell hb 0).trans hu
    | 1, hu => exact (blk_cell hb 1).trans hu
    | 2, hu => exact (blk_cell hb 2).trans hu
    | 3, hu => exact (blk_cell hb 3).trans hu
    | _ + 4, hu => exact absurd hu (by simp)
  | 1, hj =>
    injection hj with hj
    subst hj
    refine ⟨_, rfl, k24_mk w ⟨2, 0, 1, []⟩ (A3 := none) (c3 := 0) (Nat.le_refl _) hN, fun i u hu => ?_⟩
    match i, hu with
    | 0, hu => exact (blk_cell hb 4).trans hu
    | 1, hu => exact (blk_cell hb 5).trans hu
    | 2, hu => exact (blk_cell hb 6).trans hu
    | 3, hu => exact (blk_cell hb 7).trans hu
    | _ + 4, hu => exact absurd hu (by simp)
  | _ + 2, hj => exact absurd hj (by simp)
def suffragelaw41_AssertExamples.f : Option Bool := some true
theorem lit_Cs (w : World) (xs : List ByteArray) (b : Nat) (t : TypeId) (hb : w.heap[b]? = some (.cells (xs.map Value.string).toArray t (0, 0))) (hm : xs.length ≤ 9223372036854775807) : Kd.C Kd.string w (some ⟨b, 0, none⟩) xs.length xs := by
  refine Kd.C_of_reads (d := ByteArray.empty) (h1 := fun _ => rfl) ⟨rfl, hm, fun hp => ⟨⟨b, 0, none⟩, rfl, fun j hj => ?_⟩⟩
  have : ((⟨b, 0, none⟩ : Addr).add j) = ⟨b, j, none⟩ := by cases j <;> simp [Addr.add]
  rw [this]
  simp only [World.cell?, hb]
  simp [List.getD, hj]
theorem own_below {w w1 : World} {base : Nat} {e : TypeId} {size n : Nat} {v : Value} {xs : List Value} (h : w.ownsRow base e size v n xs) (hb : Below w.heap.size w w1) : w1.ownsRow base e size v n xs := own_move h fun k hk => hb.block k (own_lt h k hk)
theorem own_setCell {w : World} {base : Nat} {e t : TypeId} {size n g : Nat} {v : Value} {xs : List Value} {cells : Array Value} (h : w.ownsRow base e size v n xs) (hb : w.heap[g]? = some (.cells cells t (0, 0))) (ht : e ≠ t) (j : Nat) (u : Value) : (w.setCell ⟨g, j, none⟩ u).ownsRow base e size v n xs :=
  own_move h fun k hk => Below.heap_setCell _ _ _ k (fun e1 => by
    have e1 : k = g := e1
    subst e1
    obtain ⟨cs, hc⟩ := own_typed h k hk
    rw [hb] at hc
    injection hc with hc
    injection hc with _ h2
    exact ht h2.symm)
set_option maxHeartbeats 8000000 in
set_option maxRecDepth 100000 in
theorem ex_walk (w : World) : Calls Try.prog 3 #[] w fun e w' => e = .returned (.bool true) ∧ Below w.heap.size w w' := by
  go_enter Try.func3, Try.ntmps3
  go_wp2_with (go_at_call 6; fail)
  go_at_call 6
  refine (ranks_plain _ _ _ _).mono ?_
  rintro e w6 ⟨rfl, hb6⟩
  have hW := below_step (by (with_reducible repeat (first | exact Below.refl _ _ | apply below_alloc)) : Below w.heap.size w _) hb6
  have gA : w6.heap[w.heap.size]? = some (.cells #[.int .u8 3, .int .i64 0, .int .i64 2, .slice none 0 0] 24 (0, 0)) := blk_later (blk_box (blk_box (blk_box (blk_box (blk_box (heap_new_at (by simp) _) _) _) _) _) _) hb6
  have gS1 : w6.heap[w.heap.size + 1]? = some (.cells #[.int .i64 1, .int .i64 2] 3 (0, 0)) := blk_later (blk_box (blk_box (blk_box (blk_box (heap_new_at (by simp) _) _) _) _) _) hb6
  have gB : w6.heap[w.heap.size + 1 + 1]? = some (.cells #[.int .u8 4, .int .i64 1, .int .i64 2, .slice (some ⟨w.heap.size + 1, 0, none⟩) 2 2] 24 (0, 0)) := blk_later (blk_box (blk_box (blk_box (heap_new_at (by simp) _) _) _) _) hb6
  have gS2 : w6.heap[w.heap.size + 1 + 1 + 1]? = some (.cells #[.int .i64 0, .int .i64 1] 3 (0, 0)) := blk_later (blk_box (blk_box (heap_new_at (by simp) _) _) _) hb6
  have gM : w6.heap[w.heap.size + 1 + 1 + 1 + 1]? = some (.cells #[.int .u8 5, .int .i64 1, .int .i64 0, .slice (some ⟨w.heap.size + 1 + 1 + 1, 0, none⟩) 2 2] 24 (0, 0)) := blk_later (blk_box (heap_new_at (by simp) _) _) hb6
  have gL1 : w6.heap[w.heap.size + 1 + 1 + 1 + 1 + 1]? = some (.cells #[.int .i64 0, .int .i64 1] 3 (0, 0)) := blk_later (heap_new_at (by simp) _) hb6
  clear hb6
  go_wp2_with (go_at_call 6; fail)
  go_at_call 6
  refine (ranks_plain _ _ _ _).mono ?_
  rintro e w7 ⟨rfl, hb7⟩
  have hb67 := below_step (below_box _) hb7
  have gL2 := blk_later (heap_alloc_new w6 (.cells #[.int .i64 2, .int .i64 0] 3)) hb7
  clear hb7
  go_wp2_with (go_at_call 6; fail)
  go_at_call 6
  refine (ranks_plain _ _ _ _).mono ?_
  rintro e w8 ⟨rfl, hb8⟩
  have hb78 := below_step (below_box _) hb8
  have gL3 := blk_later (heap_alloc_new w7 (.cells #[.int .i64 1] 3)) hb8
  clear hb8
  go_wp2_with (go_at_call 6; fail)
  go_at_call 6
  refine (ranks_plain _ _ _ _).mono ?_
  rintro e w9 ⟨rfl, hb9⟩
  have h69 := hb67.trans ((hb78.trans (hb9.mono hb78.size)).mono hb67.size)
  have gA := blk_box (blk_later gA h69) (.cells #[.int .u8 1, .slice (some ⟨w.heap.size + 1 + 1 + 1 + 1 + 1, 0, none⟩) 2 2, .int .u8 1, .slice (some ⟨w6.heap.size, 0, none⟩) 2 2, .int .u8 1, .slice (some ⟨w7.heap.size, 0, none⟩) 1 1, .int .u8 1, .slice none 0 0] 26)
  have gS1 := blk_box (blk_later gS1 h69) (.cells #[.int .u8 1, .slice (some ⟨w.heap.size + 1 + 1 + 1 + 1 + 1, 0, none⟩) 2 2, .int .u8 1, .slice (some ⟨w6.heap.size, 0, none⟩) 2 2, .int .u8 1, .slice (some ⟨w7.heap.size, 0, none⟩) 1 1, .int .u8 1, .slice none 0 0] 26)
  have gB := blk_box (blk_later gB h69) (.cells #[.int .u8 1, .slice (some ⟨w.heap.size + 1 + 1 + 1 + 1 + 1, 0, none⟩) 2 2, .int .u8 1, .slice (some ⟨w6.heap.size, 0, none⟩) 2 2, .int .u8 1, .slice (some ⟨w7.heap.size, 0, none⟩) 1 1, .int .u8 1, .slice none 0 0] 26)
  have gS2 := blk_box (blk_later gS2 h69) (.cells #[.int .u8 1, .slice (some ⟨w.heap.size + 1 + 1 + 1 + 1 + 1, 0, none⟩) 2 2, .int .u8 1, .slice (some ⟨w6.heap.size, 0, none⟩) 2 2, .int .u8 1, .slice (some ⟨w7.heap.size, 0, none⟩) 1 1, .int .u8 1, .slice none 0 0] 26)
  have gM := blk_box (blk_later gM h69) (.cells #[.int .u8 1, .slice (some ⟨w.heap.size + 1 + 1 + 1 + 1 + 1, 0, none⟩) 2 2, .int .u8 1, .slice (some ⟨w6.heap.size, 0, none⟩) 2 2, .int .u8 1, .slice (some ⟨w7.heap.size, 0, none⟩) 1 1, .int .u8 1, .slice none 0 0] 26)
  have gL1 := blk_box (blk_later gL1 h69) (.cells #[.int .u8 1, .slice (some ⟨w.heap.size + 1 + 1 + 1 + 1 + 1, 0, none⟩) 2 2, .int .u8 1, .slice (some ⟨w6.heap.size, 0, none⟩) 2 2, .int .u8 1, .slice (some ⟨w7.heap.size, 0, none⟩) 1 1, .int .u8 1, .slice none 0 0] 26)
  have gL2 := blk_box (blk_later gL2 (hb78.trans (hb9.mono hb78.size))) (.cells #[.int .u8 1, .slice (some ⟨w.heap.size + 1 + 1 + 1 + 1 + 1, 0, none⟩) 2 2, .int .u8 1, .slice (some ⟨w6.heap.size, 0, none⟩) 2 2, .int .u8 1, .slice (some ⟨w7.heap.size, 0, none⟩) 1 1, .int .u8 1, .slice none 0 0] 26)
  have gL3 := blk_box (blk_later gL3 hb9) (.cells #[.int .u8 1, .slice (some ⟨w.heap.size + 1 + 1 + 1 + 1 + 1, 0, none⟩) 2 2, .int .u8 1, .slice (some ⟨w6.heap.size, 0, none⟩) 2 2, .int .u8 1, .slice (some ⟨w7.heap.size, 0, none⟩) 1 1, .int .u8 1, .slice none 0 0] 26)
  have gQ := heap_alloc_new w9 (.cells #[.int .u8 1, .slice (some ⟨w.heap.size + 1 + 1 + 1 + 1 + 1, 0, none⟩) 2 2, .int .u8 1, .slice (some ⟨w6.heap.size, 0, none⟩) 2 2, .int .u8 1, .slice (some ⟨w7.heap.size, 0, none⟩) 1 1, .int .u8 1, .slice none 0 0] 26)
  have hW := below_alloc (below_step hW h69) (.cells #[.int .u8 1, .slice (some ⟨w.heap.size + 1 + 1 + 1 + 1 + 1, 0, none⟩) 2 2, .int .u8 1, .slice (some ⟨w6.heap.size, 0, none⟩) 2 2, .int .u8 1, .slice (some ⟨w7.heap.size, 0, none⟩) 1 1, .int .u8 1, .slice none 0 0] 26)
  clear h69 hb67 hb78 hb9
  go_wp2
  generalize hW1 : w9.alloc (.cells #[.int .u8 1, .slice (some ⟨w.heap.size + 1 + 1 + 1 + 1 + 1, 0, none⟩) 2 2, .int .u8 1, .slice (some ⟨w6.heap.size, 0, none⟩) 2 2, .int .u8 1, .slice (some ⟨w7.heap.size, 0, none⟩) 1 1, .int .u8 1, .slice none 0 0] 26) = W1 at *
  generalize hQ : w9.heap.size = bq at *
  have kA0 : ∀ W, Below W1.heap.size W1 W → W.cell? ⟨w.heap.size, 0, none⟩ = some (.int .u8 3) := fun W hb => (blk_cell (blk_later gA hb) 0).trans rfl
  have kA1 : ∀ W, Below W1.heap.size W1 W → W.cell? ⟨w.heap.size, 1, none⟩ = some (.int .i64 0) := fun W hb => (blk_cell (blk_later gA hb) 1).trans rfl
  have kA2 : ∀ W, Below W1.heap.size W1 W → W.cell? ⟨w.heap.size, 2, none⟩ = some (.int .i64 2) := fun W hb => (blk_cell (blk_later gA hb) 2).trans rfl
  have kA3 : ∀ W, Below W1.heap.size W1 W → W.cell? ⟨w.heap.size, 3, none⟩ = some (.slice none 0 0) := fun W hb => (blk_cell (blk_later gA hb) 3).trans rfl
  have kB0 : ∀ W, Below W1.heap.size W1 W → W.cell? ⟨w.heap.size + 1 + 1, 0, none⟩ = some (.int .u8 4) := fun W hb => (blk_cell (blk_later gB hb) 0).trans rfl
  have kB1 : ∀ W, Below W1.heap.size W1 W → W.cell? ⟨w.heap.size + 1 + 1, 1, none⟩ = some (.int .i64 1) := fun W hb => (blk_cell (blk_later gB hb) 1).trans rfl
  have kB2 : ∀ W, Below W1.heap.size W1 W → W.cell? ⟨w.heap.size + 1 + 1, 2, none⟩ = some (.int .i64 2) := fun W hb => (blk_cell (blk_later gB hb) 2).trans rfl
  have kB3 : ∀ W, Below W1.heap.size W1 W → W.cell? ⟨w.heap.size + 1 + 1, 3, none⟩ = some (.slice (some ⟨w.heap.size + 1, 0, none⟩) 2 2) := fun W hb => (blk_cell (blk_later gB hb) 3).trans rfl
  have kM0 : ∀ W, Below W1.heap.size W1 W → W.cell? ⟨w.heap.size + 1 + 1 + 1 + 1, 0, none⟩ = some (.int .u8 5) := fun W hb => (blk_cell (blk_later gM hb) 0).trans rfl
  have kM1 : ∀ W, Below W1.heap.size W1 W → W.cell? ⟨w.heap.size + 1 + 1 + 1 + 1, 1, none⟩ = some (.int .i64 1) := fun W hb => (blk_cell (blk_later gM hb) 1).trans rfl
  have kM2 : ∀ W, Below W1.heap.size W1 W → W.cell? ⟨w.heap.size + 1 + 1 + 1 + 1, 2, none⟩ = some (.int .i64 0) := fun W hb => (blk_cell (blk_later gM hb) 2).trans rfl
  have kM3 : ∀ W, Below W1.heap.size W1 W → W.cell? ⟨w.heap.size + 1 + 1 + 1 + 1, 3, none⟩ = some (.slice (some ⟨w.heap.size + 1 + 1 + 1, 0, none⟩) 2 2) := fun W hb => (blk_cell (blk_later gM hb) 3).trans rfl
  have kQ0 : ∀ W, Below W1.heap.size W1 W → W.cell? ⟨bq, 0, none⟩ = some (.int .u8 1) := fun W hb => (blk_cell (blk_later gQ hb) 0).trans rfl
  have kQ1 : ∀ W, Below W1.heap.size W1 W → W.cell? ⟨bq, 1, none⟩ = some (.slice (some ⟨w.heap.size + 1 + 1 + 1 + 1 + 1, 0, none⟩) 2 2) := fun W hb => (blk_cell (blk_later gQ hb) 1).trans rfl
  have kQ2 : ∀ W, Below W1.heap.size W1 W → W.cell? ⟨bq, 2, none⟩ = some (.int .u8 1) := fun W hb => (blk_cell (blk_later gQ hb) 2).trans rfl
  have kQ3 : ∀ W, Below W1.heap.size W1 W → W.cell? ⟨bq, 3, none⟩ = some (.slice (some ⟨w6.heap.size, 0, none⟩) 2 2) := fun W hb => (blk_cell (blk_later gQ hb) 3).trans rfl
  have kQ4 : ∀ W, Below W1.heap.size W1 W → W.cell? ⟨bq, 4, none⟩ = some (.int .u8 1) := fun W hb => (blk_cell (blk_later gQ hb) 4).trans rfl
  have kQ5 : ∀ W, Below W1.heap.size W1 W → W.cell? ⟨bq, 5, none⟩ = some (.slice (some ⟨w7.heap.size, 0, none⟩) 1 1) := fun W hb => (blk_cell (blk_later gQ hb) 5).trans rfl
  have kQ6 : ∀ W, Below W1.heap.size W1 W → W.cell? ⟨bq, 6, none⟩ = some (.int .u8 1) := fun W hb => (blk_cell (blk_later gQ hb) 6).trans rfl
  have kQ7 : ∀ W, Below W1.heap.size W1 W → W.cell? ⟨bq, 7, none⟩ = some (.slice none 0 0) := fun W hb => (blk_cell (blk_later gQ hb) 7).trans rfl
  have hS1 : ∀ W, Below W1.heap.size W1 W → Kd.C (Kd.int .i64) W (some ⟨w.heap.size + 1, 0, none⟩) 2 [1, 2] := fun W hb => lit_C W [1, 2] _ (blk_later gS1 hb) (by simp)
  have hS2 : ∀ W, Below W1.heap.size W1 W → Kd.C (Kd.int .i64) W (some ⟨w.heap.size + 1 + 1 + 1, 0, none⟩) 2 [0, 1] := fun W hb => lit_C W [0, 1] _ (blk_later gS2 hb) (by simp)
  have hL1 : ∀ W, Below W1.heap.size W1 W → Kd.C (Kd.int .i64) W (some ⟨w.heap.size + 1 + 1 + 1 + 1 + 1, 0, none⟩) 2 [0, 1] := fun W hb => lit_C W [0, 1] _ (blk_later gL1 hb) (by simp)
  have hL2 : ∀ W, Below W1.heap.size W1 W → Kd.C (Kd.int .i64) W (some ⟨w6.heap.size, 0, none⟩) 2 [2, 0] := fun W hb => lit_C W [2, 0] _ (blk_later gL2 hb) (by simp)
  have hL3 : ∀ W, Below W1.heap.size W1 W → Kd.C (Kd.int .i64) W (some ⟨w7.heap.size, 0, none⟩) 1 [1] := fun W hb => lit_C W [1] _ (blk_later gL3 hb) (by simp)
  have hNil : ∀ W : World, Kd.C (Kd.int .i64) W none 0 [] := fun W => ⟨rfl, by simp, fun hp => absurd hp (by simp)⟩
  have HW := Aside0.mk hW
  clear hW hW1 hQ
  have hb0 := Below.refl W1.heap.size W1
  go_loopw [4, 6] (fun v4 v6 wr => ∃ k : Nat, k ≤ 4 ∧ v6 = .int .i64 k ∧ wr.ownsRow W1.heap.size 3 1 v4 k (nums .i64 (([2, 0, 1, 1] : List Int).take k)) ∧ Below W1.heap.size W1 wr) (fun _ v6 _ => 4 - (intOf v6).toNat)
  case atStart => exact ⟨0, by omega, rfl, World.ownsRow_nil _ _ _ _, hb0⟩
  case round =>
    obtain ⟨k, hk, rfl, hrow, hB⟩ := hrel
    by_cases hk4 : k < 4
    · obtain rfl | rfl | rfl | rfl : k = 0 ∨ k = 1 ∨ k = 2 ∨ k = 3 := by omega
      · go_wp2
        refine Go.Flow2.region_flow' (fun W => Below wr.heap.size wr W) (fun i v W => match i with
          | 0 => v = .agg #[.int .u8 3, .int .i64 0, .int .i64 2, .slice none 0 0]
          | 1 => v = .slice (some ⟨bq, 0, none⟩) 4 4
          | 2 => v = .int .i64 0
          | 3 => v = .pointer (some ⟨bq, 0, none⟩)
          | 4 => v = .agg #[.int .u8 1, .slice (some ⟨w.heap.size + 1 + 1 + 1 + 1 + 1, 0, none⟩) 2 2]
          | 5 => v = .tuple #[.int .i64 2, .int .i64 0]
          | 6 => v = .tuple #[.int .i64 2, .int .i64 0]
          | 7 => v = .int .i64 2
          | 8 => v = .int .i64 0
          | 9 => v = .int .i64 2
          | 10 => v = .int .i64 0
          | _ => True) (fun w w' => Below w.heap.size w w') rfl (by kernel_rfl) (fun w => Below.refl _ w) ?stable1 (Below.refl _ _).drew ?steps1 ?fin1
        case stable1 =>
          intro i v w w' h he
          match i, h with
          | 0, h => exact h
          | 1, h => exact h
          | 2, h => exact h
          | 3, h => exact h
          | 4, h => exact h
          | 5, h => exact h
          | 6, h => exact h
          | 7, h => exact h
          | 8, h => exact h
          | 9, h => exact h
          | 10, h => exact h
          | _ + 11, h => exact h
        case steps1 =>
          refine ⟨?_, ?_, ?_, ?_, ?_, ?_, ?_, ?_, ?_, ?_, ?_, True.intro⟩
          all_goals (intro vs w3 hS0 hd; have hS := below_step hB hS0; simp only [Go.Flow2.bound, List.filter_cons, List.filter_nil, Region.binds, reduceCtorEq, beq_iff_eq, if_true, if_false, ↓reduceIte, Go.Flow2.Deps, and_true] at hd; simp only [Go.Flow2.fillFrom, Act.put, List.setIfInBounds_toArray, List.set_cons_succ, List.set_cons_zero, Nat.reduceAdd]; refine Go.Flow2.wants rfl ?_)
          · have a0 := kA0 w3 hS; have a1 := kA1 w3 hS; have a2 := kA2 w3 hS; have a3 := kA3 w3 hS; go_simp; exact Below.refl _ _
          · go_simp; exact Below.refl _ _
          · go_simp; exact Below.refl _ _
          · simp only [hd]; go_simp; exact Below.refl _ _
          · have q0 := kQ0 w3 hS; have q1 := kQ1 w3 hS; simp only [hd]; go_simp; exact Below.refl _ _
          · simp only [hd]; go_simp; refine (assert_Value.calls 20 3 0 2 none 0 [] 1 _ _ [0, 1] 3 2 0 _ (hNil w3) (Nat.le_refl _) (hL1 w3 hS) (Nat.le_refl _) exv1).mono ?_; rintro e w4 ⟨rfl, hb4⟩; exact ⟨rfl, below_step hS0 hb4, hb4⟩
          · simp only [hd]; go_simp; exact Below.refl _ _
          · simp only [hd]; go_simp; exact Below.refl _ _
          · simp only [hd]; go_simp; exact Below.refl _ _
          · simp only [hd]; go_simp; exact Below.refl _ _
          · simp only [hd]; go_simp; exact Below.refl _ _
        case fin1 =>
          intro vs w3 hS0 hd
          have hS := below_step hB hS0
          simp only [Go.Flow2.fillFrom, Act.put, List.setIfInBounds_toArray, List.set_cons_succ, List.set_cons_zero, Nat.reduceAdd]
          simp only [Go.Flow2.Ends, Nat.reduceAdd] at hd
          simp only [hd]
          clear hd
          have hrow3 := own_below hrow hS0
          go_wp2_with (first | (at_builtin; refine print_append_row (w0 := W1) W1.heap.size rfl _ _ 22 3 .i64 8 rfl Try.underlying22 info_int (by decide) u4 [] [2] (some ⟨w3.heap.size, 0, none⟩) 1 1 rfl rfl (hrow3.alloc _) (readsInt_of_C (lit_C _ [2] _ (heap_alloc_new w3 _) (by simp))) (below_alloc hS _) (by have := hS.size; simp; omega) (by simp) ?_; intro v1 w5 ho5 hb5 _ _))
          go_roundw
          case rel => exact ⟨1, by omega, by simp, ho5, hb5⟩
          case measure => simp [intOf]
      · go_wp2
        refine Go.Flow2.region_flow' (fun W => Below wr.heap.size wr W) (fun i v W => match i with
          | 0 => v = .agg #[.int .u8 3, .int .i64 0, .int .i64 2, .slice none 0 0]
          | 1 => v = .slice (some ⟨bq, 0, none⟩) 4 4
          | 2 => v = .int .i64 1
          | 3 => v = .pointer (some ⟨bq, 2, none⟩)
          | 4 => v = .agg #[.int .u8 1, .slice (some ⟨w6.heap.size, 0, none⟩) 2 2]
          | 5 => v = .tuple #[.int .i64 0, .int .i64 0]
          | 6 => v = .tuple #[.int .i64 0, .int .i64 0]
          | 7 => v = .int .i64 0
          | 8 => v = .int .i64 0
          | 9 => v = .int .i64 0
          | 10 => v = .int .i64 0
          | _ => True) (fun w w' => Below w.heap.size w w') rfl (by kernel_rfl) (fun w => Below.refl _ w) ?stable2 (Below.refl _ _).drew ?steps2 ?fin2
        case stable2 =>
          intro i v w w' h he
          match i, h with
          | 0, h => exact h
          | 1, h => exact h
          | 2, h => exact h
          | 3, h => exact h
          | 4, h => exact h
          | 5, h => exact h
          | 6, h => exact h
          | 7, h => exact h
          | 8, h => exact h
          | 9, h => exact h
          | 10, h => exact h
          | _ + 11, h => exact h
        case steps2 =>
          refine ⟨?_, ?_, ?_, ?_, ?_, ?_, ?_, ?_, ?_, ?_, ?_, True.intro⟩
          all_goals (intro vs w3 hS0 hd; have hS := below_step hB hS0; simp only [Go.Flow2.bound, List.filter_cons, List.filter_nil, Region.binds, reduceCtorEq, beq_iff_eq, if_true, if_false, ↓reduceIte, Go.Flow2.Deps, and_true] at hd; simp only [Go.Flow2.fillFrom, Act.put, List.setIfInBounds_toArray, List.set_cons_succ, List.set_cons_zero, Nat.reduceAdd]; refine Go.Flow2.wants rfl ?_)
          · have a0 := kA0 w3 hS; have a1 := kA1 w3 hS; have a2 := kA2 w3 hS; have a3 := kA3 w3 hS; go_simp; exact Below.refl _ _
          · go_simp; exact Below.refl _ _
          · go_simp; exact Below.refl _ _
          · simp only [hd]; go_simp; exact Below.refl _ _
          · have q0 := kQ2 w3 hS; have q1 := kQ3 w3 hS; simp only [hd]; go_simp; exact Below.refl _ _
          · simp only [hd]; go_simp; refine (assert_Value.calls 20 3 0 2 none 0 [] 1 _ _ [2, 0] 3 0 0 _ (hNil w3) (Nat.le_refl _) (hL2 w3 hS) (Nat.le_refl _) exv2).mono ?_; rintro e w4 ⟨rfl, hb4⟩; exact ⟨rfl, below_step hS0 hb4, hb4⟩
          · simp only [hd]; go_simp; exact Below.refl _ _
          · simp only [hd]; go_simp; exact Below.refl _ _
          · simp only [hd]; go_simp; exact Below.refl _ _
          · simp only [hd]; go_simp; exact Below.refl _ _
          · simp only [hd]; go_simp; exact Below.refl _ _
        case fin2 =>
          intro vs w3 hS0 hd
          have hS := below_step hB hS0
          simp only [Go.Flow2.fillFrom, Act.put, List.setIfInBounds_toArray, List.set_cons_succ, List.set_cons_zero, Nat.reduceAdd]
          simp only [Go.Flow2.Ends, Nat.reduceAdd] at hd
          simp only [hd]
          clear hd
          have hrow3 := own_below hrow hS0
          go_wp2_with (first | (at_builtin; refine print_append_row (w0 := W1) W1.heap.size rfl _ _ 22 3 .i64 8 rfl Try.underlying22 info_int (by decide) u4 [2] [0] (some ⟨w3.heap.size, 0, none⟩) 1 1 rfl rfl (hrow3.alloc _) (readsInt_of_C (lit_C _ [0] _ (heap_alloc_new w3 _) (by simp))) (below_alloc hS _) (by have := hS.size; simp; omega) (by simp) ?_; intro v1 w5 ho5 hb5 _ _))
          go_roundw
          case rel => exact ⟨2, by omega, by simp, ho5, hb5⟩
          case measure => simp [intOf]
      · go_wp2
        refine Go.Flow2.region_flow' (fun W => Below wr.heap.size wr W) (fun i v W => match i with
          | 0 => v = .agg #[.int .u8 3, .int .i64 0, .int .i64 2, .slice none 0 0]
          | 1 => v = .slice (some ⟨bq, 0, none⟩) 4 4
          | 2 => v = .int .i64 2
          | 3 => v = .pointer (some ⟨bq, 4, none⟩)
          | 4 => v = .agg #[.int .u8 1, .slice (some ⟨w7.heap.size, 0, none⟩) 1 1]
          | 5 => v = .tuple #[.int .i64 1, .int .i64 0]
          | 6 => v = .tuple #[.int .i64 1, .int .i64 0]
          | 7 => v = .int .i64 1
          | 8 => v = .int .i64 0
          | 9 => v = .int .i64 1
          | 10 => v = .int .i64 0
          | _ => True) (fun w w' => Below w.heap.size w w') rfl (by kernel_rfl) (fun w => Below.refl _ w) ?stable3 (Below.refl _ _).drew ?steps3 ?fin3
        case stable3 =>
          intro i v w w' h he
          match i, h with
          | 0, h => exact h
          | 1, h => exact h
          | 2, h => exact h
          | 3, h => exact h
          | 4, h => exact h
          | 5, h => exact h
          | 6, h => exact h
          | 7, h => exact h
          | 8, h => exact h
          | 9, h => exact h
          | 10, h => exact h
          | _ + 11, h => exact h
        case steps3 =>
          refine ⟨?_, ?_, ?_, ?_, ?_, ?_, ?_, ?_, ?_, ?_, ?_, True.intro⟩
          all_goals (intro vs w3 hS0 hd; have hS := below_step hB hS0; simp only [Go.Flow2.bound, List.filter_cons, List.filter_nil, Region.binds, reduceCtorEq, beq_iff_eq, if_true, if_false, ↓reduceIte, Go.Flow2.Deps, and_true] at hd; simp only [Go.Flow2.fillFrom, Act.put, List.setIfInBounds_toArray, List.set_cons_succ, List.set_cons_zero, Nat.reduceAdd]; refine Go.Flow2.wants rfl ?_)
          · have a0 := kA0 w3 hS; have a1 := kA1 w3 hS; have a2 := kA2 w3 hS; have a3 := kA3 w3 hS; go_simp; exact Below.refl _ _
          · go_simp; exact Below.refl _ _
          · go_simp; exact Below.refl _ _
          · simp only [hd]; go_simp; exact Below.refl _ _
          · have q0 := kQ4 w3 hS; have q1 := kQ5 w3 hS; simp only [hd]; go_simp; exact Below.refl _ _
          · simp only [hd]; go_simp; refine (assert_Value.calls 20 3 0 2 none 0 [] 1 _ _ [1] 3 1 0 _ (hNil w3) (Nat.le_refl _) (hL3 w3 hS) (Nat.le_refl _) exv3).mono ?_; rintro e w4 ⟨rfl, hb4⟩; exact ⟨rfl, below_step hS0 hb4, hb4⟩
          · simp only [hd]; go_simp; exact Below.refl _ _
          · simp only [hd]; go_simp; exact Below.refl _ _
          · simp only [hd]; go_simp; exact Below.refl _ _
          · simp only [hd]; go_simp; exact Below.refl _ _
          · simp only [hd]; go_simp; exact Below.refl _ _
        case fin3 =>
          intro vs w3 hS0 hd
          have hS := below_step hB hS0
          simp only [Go.Flow2.fillFrom, Act.put, List.setIfInBounds_toArray, List.set_cons_succ, List.set_cons_zero, Nat.reduceAdd]
          simp only [Go.Flow2.Ends, Nat.reduceAdd] at hd
          simp only [hd]
          clear hd
          have hrow3 := own_below hrow hS0
          go_wp2_with (first | (at_builtin; refine print_append_row (w0 := W1) W1.heap.size rfl _ _ 22 3 .i64 8 rfl Try.underlying22 info_int (by decide) u4 [2, 0] [1] (some ⟨w3.heap.size, 0, none⟩) 1 1 rfl rfl (hrow3.alloc _) (readsInt_of_C (lit_C _ [1] _ (heap_alloc_new w3 _) (by simp))) (below_alloc hS _) (by have := hS.size; simp; omega) (by simp) ?_; intro v1 w5 ho5 hb5 _ _))
          go_roundw
          case rel => exact ⟨3, by omega, by simp, ho5, hb5⟩
          case measure => simp [intOf]
      · go_wp2
        refine Go.Flow2.region_flow' (fun W => Below wr.heap.size wr W) (fun i v W => match i with
          | 0 => v = .agg #[.int .u8 3, .int .i64 0, .int .i64 2, .slice none 0 0]
          | 1 => v = .slice (some ⟨bq, 0, none⟩) 4 4
          | 2 => v = .int .i64 3
          | 3 => v = .pointer (some ⟨bq, 6, none⟩)
          | 4 => v = .agg #[.int .u8 1, .slice none 0 0]
          | 5 => v = .tuple #[.int .i64 1, .int .i64 0]
          | 6 => v = .tuple #[.int .i64 1, .int .i64 0]
          | 7 => v = .int .i64 1
          | 8 => v = .int .i64 0
          | 9 => v = .int .i64 1
          | 10 => v = .int .i64 0
          | _ => True) (fun w w' => Below w.heap.size w w') rfl (by kernel_rfl) (fun w => Below.refl _ w) ?stable4 (Below.refl _ _).drew ?steps4 ?fin4
        case stable4 =>
          intro i v w w' h he
          match i, h with
          | 0, h => exact h
          | 1, h => exact h
          | 2, h => exact h
          | 3, h => exact h
          | 4, h => exact h
          | 5, h => exact h
          | 6, h => exact h
          | 7, h => exact h
          | 8, h => exact h
          | 9, h => exact h
          | 10, h => exact h
          | _ + 11, h => exact h
        case steps4 =>
          refine ⟨?_, ?_, ?_, ?_, ?_, ?_, ?_, ?_, ?_, ?_, ?_, True.intro⟩
          all_goals (intro vs w3 hS0 hd; have hS := below_step hB hS0; simp only [Go.Flow2.bound, List.filter_cons, List.filter_nil, Region.binds, reduceCtorEq, beq_iff_eq, if_true, if_false, ↓reduceIte, Go.Flow2.Deps, and_true] at hd; simp only [Go.Flow2.fillFrom, Act.put, List.setIfInBounds_toArray, List.set_cons_succ, List.set_cons_zero, Nat.reduceAdd]; refine Go.Flow2.wants rfl ?_)
          · have a0 := kA0 w3 hS; have a1 := kA1 w3 hS; have a2 := kA2 w3 hS; have a3 := kA3 w3 hS; go_simp; exact Below.refl _ _
          · go_simp; exact Below.refl _ _
          · go_simp; exact Below.refl _ _
          · simp only [hd]; go_simp; exact Below.refl _ _
          · have q0 := kQ6 w3 hS; have q1 := kQ7 w3 hS; simp only [hd]; go_simp; exact Below.refl _ _
          · simp only [hd]; go_simp; refine (assert_Value.calls 20 3 0 2 none 0 [] 1 _ _ [] 3 1 0 _ (hNil w3) (Nat.le_refl _) (hNil w3) (Nat.le_refl _) exv4).mono ?_; rintro e w4 ⟨rfl, hb4⟩; exact ⟨rfl, below_step hS0 hb4, hb4⟩
          · simp only [hd]; go_simp; exact Below.refl _ _
          · simp only [hd]; go_simp; exact Below.refl _ _
          · simp only [hd]; go_simp; exact Below.refl _ _
          · simp only [hd]; go_simp; exact Below.refl _ _
          · simp only [hd]; go_simp; exact Below.refl _ _
        case fin4 =>
          intro vs w3 hS0 hd
          have hS := below_step hB hS0
          simp only [Go.Flow2.fillFrom, Act.put, List.setIfInBounds_toArray, List.set_cons_succ, List.set_cons_zero, Nat.reduceAdd]
          simp only [Go.Flow2.Ends, Nat.reduceAdd] at hd
          simp only [hd]
          clear hd
          have hrow3 := own_below hrow hS0
          go_wp2_with (first | (at_builtin; refine print_append_row (w0 := W1) W1.heap.size rfl _ _ 22 3 .i64 8 rfl Try.underlying22 info_int (by decide) u4 [2, 0, 1] [1] (some ⟨w3.heap.size, 0, none⟩) 1 1 rfl rfl (hrow3.alloc _) (readsInt_of_C (lit_C _ [1] _ (heap_alloc_new w3 _) (by simp))) (below_alloc hS _) (by have := hS.size; simp; omega) (by simp) ?_; intro v1 w5 ho5 hb5 _ _))
          go_roundw
          case rel => exact ⟨4, by omega, by simp, ho5, hb5⟩
          case measure => simp [intOf]
    · obtain rfl : k = 4 := by omega
      go_wp2
      refine Go.Flow2.region_flow' (fun W => Below wr.heap.size wr W) (fun i v W => match i with
        | 0 => v = .agg #[.int .u8 4, .int .i64 1, .int .i64 2, .slice (some ⟨w.heap.size + 1, 0, none⟩) 2 2]
        | 1 => ∃ A c, v = .slice A 3 c ∧ 3 ≤ c ∧ Kd.C (Kd.int .i64) W A 3 [0, 2, 1]
        | 2 => ∃ A c, v = .agg #[.int .u8 1, .slice A 3 c] ∧ 3 ≤ c ∧ Kd.C (Kd.int .i64) W A 3 [0, 2, 1]
        | 3 => v = .tuple #[.int .i64 0, .int .i64 0]
        | 4 => v = .tuple #[.int .i64 0, .int .i64 0]
        | 5 => v = .int .i64 0
        | 6 => v = .int .i64 0
        | 7 => v = .int .i64 0
        | 8 => v = .int .i64 0
        | _ => True) (fun w w' => Below w.heap.size w w') rfl (by kernel_rfl) (fun w => Below.refl _ w) ?stable5 (Below.refl _ _).drew ?steps5 ?fin5
      case stable5 =>
        intro i v w w' h he
        match i, h with
        | 0, h => exact h
        | 1, ⟨A, c, e1, e2, e3⟩ => exact ⟨A, c, e1, e2, Kd.C_below e3 he⟩
        | 2, ⟨A, c, e1, e2, e3⟩ => exact ⟨A, c, e1, e2, Kd.C_below e3 he⟩
        | 3, h => exact h
        | 4, h => exact h
        | 5, h => exact h
        | 6, h => exact h
        | 7, h => exact h
        | 8, h => exact h
        | _ + 9, h => exact h
      case steps5 =>
        refine ⟨?_, ?_, ?_, ?_, ?_, ?_, ?_, ?_, ?_, True.intro⟩
        all_goals (intro vs w3 hS0 hd; have hS := below_step hB hS0; simp only [Go.Flow2.bound, List.filter_cons, List.filter_nil, Region.binds, reduceCtorEq, beq_iff_eq, if_true, if_false, ↓reduceIte, Go.Flow2.Deps, and_true] at hd; simp only [Go.Flow2.fillFrom, Act.put, List.setIfInBounds_toArray, List.set_cons_succ, List.set_cons_zero, Nat.reduceAdd]; refine Go.Flow2.wants rfl ?_)
        · have a0 := kB0 w3 hS; have a1 := kB1 w3 hS; have a2 := kB2 w3 hS; have a3 := kB3 w3 hS; go_simp; exact Below.refl _ _
        · go_simp; exact ⟨⟨_, _, ⟨rfl, rfl⟩, Nat.le_refl _, lit_C _ [0, 2, 1] _ (heap_alloc_new w3 _) (by simp)⟩, below_alloc hS0 _, below_box _⟩
        · obtain ⟨A, c, e1, e2, e3⟩ := hd; simp only [e1]; go_simp; refine (ranks_plain A 3 c _).mono ?_; rintro e w4 ⟨rfl, hb4⟩; exact ⟨⟨A, c, rfl, e2, Kd.C_below e3 hb4⟩, below_step hS0 hb4, hb4⟩
        · obtain ⟨h0, ⟨A, c, e1, e2, e3⟩, _⟩ := hd; simp only [h0, e1]; go_simp; refine (assert_Value.calls 20 4 1 2 _ 2 [1, 2]  1 A c [0, 2, 1] 3 0 0 _ (hS1 w3 hS) (Nat.le_refl _) e3 e2 exv5).mono ?_; rintro e w4 ⟨rfl, hb4⟩; exact ⟨rfl, below_step hS0 hb4, hb4⟩
        · simp only [hd]; go_simp; exact Below.refl _ _
        · simp only [hd]; go_simp; exact Below.refl _ _
        · simp only [hd]; go_simp; exact Below.refl _ _
        · simp only [hd]; go_simp; exact Below.refl _ _
        · simp only [hd]; go_simp; exact Below.refl _ _
      intro vs w13 hS0 hd
      have hBw13 := below_step hB hS0
      simp only [Go.Flow2.fillFrom, Act.put, List.setIfInBounds_toArray, List.set_cons_succ, List.set_cons_zero, Nat.reduceAdd]
      simp only [Go.Flow2.Ends, Nat.reduceAdd] at hd
      obtain ⟨h0, ⟨B1, d1, h1, _, _⟩, ⟨B2, d2, h2, _, _⟩, h3, h4, h5, h6, h7, h8, _⟩ := hd
      simp only [h0, h1, h2, h3, h4, h5, h6, h7, h8]
      clear h0 h1 h2 h3 h4 h5 h6 h7 h8
      have hrow := own_below hrow hS0
      go_wp2
      refine Go.Flow2.region_flow' (fun W => Below w13.heap.size w13 W) (fun i v W => match i with
        | 0 => v = .agg #[.int .u8 4, .int .i64 1, .int .i64 2, .slice (some ⟨w.heap.size + 1, 0, none⟩) 2 2]
        | 1 => ∃ A c, v = .slice A 1 c ∧ 1 ≤ c ∧ Kd.C (Kd.int .i64) W A 1 [0]
        | 2 => ∃ A c, v = .agg #[.int .u8 1, .slice A 1 c] ∧ 1 ≤ c ∧ Kd.C (Kd.int .i64) W A 1 [0]
        | 3 => v = .tuple #[.int .i64 1, .int .i64 0]
        | 4 => v = .tuple #[.int .i64 1, .int .i64 0]
        | 5 => v = .int .i64 1
        | 6 => v = .int .i64 0
        | 7 => v = .int .i64 1
        | 8 => v = .int .i64 0
        | _ => True) (fun w w' => Below w.heap.size w w') rfl (by kernel_rfl) (fun w => Below.refl _ w) ?stable6 (Below.refl _ _).drew ?steps6 ?fin6
      case stable6 =>
        intro i v w w' h he
        match i, h with
        | 0, h => exact h
        | 1, ⟨A, c, e1, e2, e3⟩ => exact ⟨A, c, e1, e2, Kd.C_below e3 he⟩
        | 2, ⟨A, c, e1, e2, e3⟩ => exact ⟨A, c, e1, e2, Kd.C_below e3 he⟩
        | 3, h => exact h
        | 4, h => exact h
        | 5, h => exact h
        | 6, h => exact h
        | 7, h => exact h
        | 8, h => exact h
        | _ + 9, h => exact h
      case steps6 =>
        refine ⟨?_, ?_, ?_, ?_, ?_, ?_, ?_, ?_, ?_, True.intro⟩
        all_goals (intro vs w3 hS0 hd; have hS := below_step hBw13 hS0; simp only [Go.Flow2.bound, List.filter_cons, List.filter_nil, Region.binds, reduceCtorEq, beq_iff_eq, if_true, if_false, ↓reduceIte, Go.Flow2.Deps, and_true] at hd; simp only [Go.Flow2.fillFrom, Act.put, List.setIfInBounds_toArray, List.set_cons_succ, List.set_cons_zero, Nat.reduceAdd]; refine Go.Flow2.wants rfl ?_)
        · have a0 := kB0 w3 hS; have a1 := kB1 w3 hS; have a2 := kB2 w3 hS; have a3 := kB3 w3 hS; go_simp; exact Below.refl _ _
        · go_simp; exact ⟨⟨_, _, ⟨rfl, rfl⟩, Nat.le_refl _, lit_C _ [0] _ (heap_alloc_new w3 _) (by simp)⟩, below_alloc hS0 _, below_box _⟩
        · obtain ⟨A, c, e1, e2, e3⟩ := hd; simp only [e1]; go_simp; refine (ranks_plain A 1 c _).mono ?_; rintro e w4 ⟨rfl, hb4⟩; exact ⟨⟨A, c, rfl, e2, Kd.C_below e3 hb4⟩, below_step hS0 hb4, hb4⟩
        · obtain ⟨h0, ⟨A, c, e1, e2, e3⟩, _⟩ := hd; simp only [h0, e1]; go_simp; refine (assert_Value.calls 20 4 1 2 _ 2 [1, 2]  1 A c [0] 3 1 0 _ (hS1 w3 hS) (Nat.le_refl _) e3 e2 exv6).mono ?_; rintro e w4 ⟨rfl, hb4⟩; exact ⟨rfl, below_step hS0 hb4, hb4⟩
        · simp only [hd]; go_simp; exact Below.refl _ _
        · simp only [hd]; go_simp; exact Below.refl _ _
        · simp only [hd]; go_simp; exact Below.refl _ _
        · simp only [hd]; go_simp; exact Below.refl _ _
        · simp only [hd]; go_simp; exact Below.refl _ _
      intro vs w14 hS0 hd
      have hBw14 := below_step hBw13 hS0
      simp only [Go.Flow2.fillFrom, Act.put, List.setIfInBounds_toArray, List.set_cons_succ, List.set_cons_zero, Nat.reduceAdd]
      simp only [Go.Flow2.Ends, Nat.reduceAdd] at hd
      obtain ⟨h0, ⟨B1, d1, h1, _, _⟩, ⟨B2, d2, h2, _, _⟩, h3, h4, h5, h6, h7, h8, _⟩ := hd
      simp only [h0, h1, h2, h3, h4, h5, h6, h7, h8]
      clear h0 h1 h2 h3 h4 h5 h6 h7 h8
      have hrow := own_below hrow hS0
      go_wp2
      refine Go.Flow2.region_flow' (fun W => Below w14.heap.size w14 W) (fun i v W => match i with
        | 0 => v = .agg #[.int .u8 5, .int .i64 1, .int .i64 0, .slice (some ⟨w.heap.size + 1 + 1 + 1, 0, none⟩) 2 2]
        | 1 => ∃ A c, v = .slice A 3 c ∧ 3 ≤ c ∧ Kd.C (Kd.int .i64) W A 3 [2, 0, 1]
        | 2 => ∃ A c, v = .agg #[.int .u8 1, .slice A 3 c] ∧ 3 ≤ c ∧ Kd.C (Kd.int .i64) W A 3 [2, 0, 1]
        | 3 => v = .tuple #[.int .i64 0, .int .i64 0]
        | 4 => v = .tuple #[.int .i64 0, .int .i64 0]
        | 5 => v = .int .i64 0
        | 6 => v = .int .i64 0
        | 7 => v = .int .i64 0
        | 8 => v = .int .i64 0
        | _ => True) (fun w w' => Below w.heap.size w w') rfl (by kernel_rfl) (fun w => Below.refl _ w) ?stable7 (Below.refl _ _).drew ?steps7 ?fin7
      case stable7 =>
        intro i v w w' h he
        match i, h with
        | 0, h => exact h
        | 1, ⟨A, c, e1, e2, e3⟩ => exact ⟨A, c, e1, e2, Kd.C_below e3 he⟩
        | 2, ⟨A, c, e1, e2, e3⟩ => exact ⟨A, c, e1, e2, Kd.C_below e3 he⟩
        | 3, h => exact h
        | 4, h => exact h
        | 5, h => exact h
        | 6, h => exact h
        | 7, h => exact h
        | 8, h => exact h
        | _ + 9, h => exact h
      case steps7 =>
        refine ⟨?_, ?_, ?_, ?_, ?_, ?_, ?_, ?_, ?_, True.intro⟩
        all_goals (intro vs w3 hS0 hd; have hS := below_step hBw14 hS0; simp only [Go.Flow2.bound, List.filter_cons, List.filter_nil, Region.binds, reduceCtorEq, beq_iff_eq, if_true, if_false, ↓reduceIte, Go.Flow2.Deps, and_true] at hd; simp only [Go.Flow2.fillFrom, Act.put, List.setIfInBounds_toArray, List.set_cons_succ, List.set_cons_zero, Nat.reduceAdd]; refine Go.Flow2.wants rfl ?_)
        · have a0 := kM0 w3 hS; have a1 := kM1 w3 hS; have a2 := kM2 w3 hS; have a3 := kM3 w3 hS; go_simp; exact Below.refl _ _
        · go_simp; exact ⟨⟨_, _, ⟨rfl, rfl⟩, Nat.le_refl _, lit_C _ [2, 0, 1] _ (heap_alloc_new w3 _) (by simp)⟩, below_alloc hS0 _, below_box _⟩
        · obtain ⟨A, c, e1, e2, e3⟩ := hd; simp only [e1]; go_simp; refine (ranks_plain A 3 c _).mono ?_; rintro e w4 ⟨rfl, hb4⟩; exact ⟨⟨A, c, rfl, e2, Kd.C_below e3 hb4⟩, below_step hS0 hb4, hb4⟩
        · obtain ⟨h0, ⟨A, c, e1, e2, e3⟩, _⟩ := hd; simp only [h0, e1]; go_simp; refine (assert_Value.calls 20 5 1 0 _ 2 [0, 1]  1 A c [2, 0, 1] 3 0 0 _ (hS2 w3 hS) (Nat.le_refl _) e3 e2 exv7).mono ?_; rintro e w4 ⟨rfl, hb4⟩; exact ⟨rfl, below_step hS0 hb4, hb4⟩
        · simp only [hd]; go_simp; exact Below.refl _ _
        · simp only [hd]; go_simp; exact Below.refl _ _
        · simp only [hd]; go_simp; exact Below.refl _ _
        · simp only [hd]; go_simp; exact Below.refl _ _
        · simp only [hd]; go_simp; exact Below.refl _ _
      intro vs w15 hS0 hd
      have hBw15 := below_step hBw14 hS0
      simp only [Go.Flow2.fillFrom, Act.put, List.setIfInBounds_toArray, List.set_cons_succ, List.set_cons_zero, Nat.reduceAdd]
      simp only [Go.Flow2.Ends, Nat.reduceAdd] at hd
      obtain ⟨h0, ⟨B1, d1, h1, _, _⟩, ⟨B2, d2, h2, _, _⟩, h3, h4, h5, h6, h7, h8, _⟩ := hd
      simp only [h0, h1, h2, h3, h4, h5, h6, h7, h8]
      clear h0 h1 h2 h3 h4 h5 h6 h7 h8
      have hrow := own_below hrow hS0
      go_wp2
      refine Go.Flow2.region_flow' (fun W => Below w15.heap.size w15 W) (fun i v W => match i with
        | 0 => v = .agg #[.int .u8 3, .int .i64 0, .int .i64 2, .slice none 0 0]
        | 1 => ∃ A c, v = .slice A 1 c ∧ 1 ≤ c ∧ Kd.C (Kd.int .i64) W A 1 [1]
        | 2 => ∃ A c, v = .agg #[.int .u8 2, .slice A 1 c] ∧ 1 ≤ c ∧ Kd.C (Kd.int .i64) W A 1 [1]
        | 3 => v = .tuple #[.int .i64 0, .int .i64 8]
        | 4 => v = .tuple #[.int .i64 0, .int .i64 8]
        | 5 => v = .int .i64 0
        | 6 => v = .int .i64 8
        | 7 => v = .int .i64 0
        | 8 => v = .int .i64 8
        | _ => True) (fun w w' => Below w.heap.size w w') rfl (by kernel_rfl) (fun w => Below.refl _ w) ?stable8 (Below.refl _ _).drew ?steps8 ?fin8
      case stable8 =>
        intro i v w w' h he
        match i, h with
        | 0, h => exact h
        | 1, ⟨A, c, e1, e2, e3⟩ => exact ⟨A, c, e1, e2, Kd.C_below e3 he⟩
        | 2, ⟨A, c, e1, e2, e3⟩ => exact ⟨A, c, e1, e2, Kd.C_below e3 he⟩
        | 3, h => exact h
        | 4, h => exact h
        | 5, h => exact h
        | 6, h => exact h
        | 7, h => exact h
        | 8, h => exact h
        | _ + 9, h => exact h
      case steps8 =>
        refine ⟨?_, ?_, ?_, ?_, ?_, ?_, ?_, ?_, ?_, True.intro⟩
        all_goals (intro vs w3 hS0 hd; have hS := below_step hBw15 hS0; simp only [Go.Flow2.bound, List.filter_cons, List.filter_nil, Region.binds, reduceCtorEq, beq_iff_eq, if_true, if_false, ↓reduceIte, Go.Flow2.Deps, and_true] at hd; simp only [Go.Flow2.fillFrom, Act.put, List.setIfInBounds_toArray, List.set_cons_succ, List.set_cons_zero, Nat.reduceAdd]; refine Go.Flow2.wants rfl ?_)
        · have a0 := kA0 w3 hS; have a1 := kA1 w3 hS; have a2 := kA2 w3 hS; have a3 := kA3 w3 hS; go_simp; exact Below.refl _ _
        · go_simp; exact ⟨⟨_, _, ⟨rfl, rfl⟩, Nat.le_refl _, lit_C _ [1] _ (heap_alloc_new w3 _) (by simp)⟩, below_alloc hS0 _, below_box _⟩
        · obtain ⟨A, c, e1, e2, e3⟩ := hd; simp only [e1]; go_simp; refine (marks_plain A 1 c _).mono ?_; rintro e w4 ⟨rfl, hb4⟩; exact ⟨⟨A, c, rfl, e2, Kd.C_below e3 hb4⟩, below_step hS0 hb4, hb4⟩
        · obtain ⟨h0, ⟨A, c, e1, e2, e3⟩, _⟩ := hd; simp only [h0, e1]; go_simp; refine (assert_Value.calls 20 3 0 2 none 0 []  2 A c [1] 3 0 8 _ (hNil w3) (Nat.le_refl _) e3 e2 exv8).mono ?_; rintro e w4 ⟨rfl, hb4⟩; exact ⟨rfl, below_step hS0 hb4, hb4⟩
        · simp only [hd]; go_simp; exact Below.refl _ _
        · simp only [hd]; go_simp; exact Below.refl _ _
        · simp only [hd]; go_simp; exact Below.refl _ _
        · simp only [hd]; go_simp; exact Below.refl _ _
        · simp only [hd]; go_simp; exact Below.refl _ _
      intro vs w16 hS0 hd
      have hBw16 := below_step hBw15 hS0
      simp only [Go.Flow2.fillFrom, Act.put, List.setIfInBounds_toArray, List.set_cons_succ, List.set_cons_zero, Nat.reduceAdd]
      simp only [Go.Flow2.Ends, Nat.reduceAdd] at hd
      obtain ⟨h0, ⟨B1, d1, h1, _, _⟩, ⟨B2, d2, h2, _, _⟩, h3, h4, h5, h6, h7, h8, _⟩ := hd
      simp only [h0, h1, h2, h3, h4, h5, h6, h7, h8]
      clear h0 h1 h2 h3 h4 h5 h6 h7 h8
      have hrow := own_below hrow hS0
      go_wp2_with (go_at_call 9; fail)
      have gStr := blk_box (blk_box (heap_alloc_new w16 (.cells #[.string ⟨#[97]⟩, .string ⟨#[98]⟩, .string ⟨#[99]⟩] 9)) (.cells #[.string ⟨#[120]⟩, .slice (some ⟨w16.heap.size, 0, none⟩) 3 3, .int .i64 2, .int .u8 2] 34)) (.cells #[.int .i64 2, .int .i64 0] 3)
      have gCon := blk_box (heap_new_at (b := w16.heap.size + 1) (World.size_alloc w16 (.cells #[.string ⟨#[97]⟩, .string ⟨#[98]⟩, .string ⟨#[99]⟩] 9)) (.cells #[.string ⟨#[120]⟩, .slice (some ⟨w16.heap.size, 0, none⟩) 3 3, .int .i64 2, .int .u8 2] 34)) (.cells #[.int .i64 2, .int .i64 0] 3)
      have gEl := heap_new_at (b := w16.heap.size + 1 + 1) (by simp) (W := (w16.alloc (.cells #[.string ⟨#[97]⟩, .string ⟨#[98]⟩, .string ⟨#[99]⟩] 9)).alloc (.cells #[.string ⟨#[120]⟩, .slice (some ⟨w16.heap.size, 0, none⟩) 3 3, .int .i64 2, .int .u8 2] 34)) (.cells #[.int .i64 2, .int .i64 0] 3)
      have hb17 := below_alloc (below_alloc (below_box (w := w16) (.cells #[.string ⟨#[97]⟩, .string ⟨#[98]⟩, .string ⟨#[99]⟩] 9)) (.cells #[.string ⟨#[120]⟩, .slice (some ⟨w16.heap.size, 0, none⟩) 3 3, .int .i64 2, .int .u8 2] 34)) (.cells #[.int .i64 2, .int .i64 0] 3)
      go_at_call 9
      refine (assert_Of.calls 20 ⟨#[120]⟩ _ 3 [⟨#[97]⟩, ⟨#[98]⟩, ⟨#[99]⟩] 2 2 _ 2 [2, 0] none 0 [] none 0 [] [⟨2, 2, 1, []⟩, ⟨2, 0, 1, []⟩] 0 _ (lit_Cs _ [⟨#[97]⟩, ⟨#[98]⟩, ⟨#[99]⟩] _ _ gStr (by simp)) (Nat.le_refl _) (lit_C _ [2, 0] _ gEl (by simp)) (Nat.le_refl _) ⟨rfl, by simp, fun hp => absurd hp (by simp)⟩ (Nat.le_refl _) ⟨rfl, by simp, fun hp => absurd hp (by simp)⟩ (Nat.le_refl _) exo1).mono ?_
      rintro e w18 ⟨v18, rfl, hs18, hb18⟩
      have h1618 := below_step hb17 hb18
      have hB18 := below_step hBw16 h1618
      have hrow := own_below hrow h1618
      have gStr := blk_later gStr hb18
      have gCon := blk_later gCon hb18
      clear gEl hb17 hb18
      have cc0 : w18.cell? ⟨w16.heap.size + 1, 0, none⟩ = some (.string ⟨#[120]⟩) := (blk_cell gCon 0).trans rfl
      have cc1 : w18.cell? ⟨w16.heap.size + 1, 1, none⟩ = some (.slice (some ⟨w16.heap.size, 0, none⟩) 3 3) := (blk_cell gCon 1).trans rfl
      have cc2 : w18.cell? ⟨w16.heap.size + 1, 2, none⟩ = some (.int .i64 2) := (blk_cell gCon 2).trans rfl
      have cc3 : w18.cell? ⟨w16.heap.size + 1, 3, none⟩ = some (.int .u8 2) := (blk_cell gCon 3).trans rfl
      go_wp2_with (go_at_call 9; fail)
      have gEl := heap_alloc_new w18 (.cells #[.int .i64 2, .int .i64 2] 3)
      go_at_call 9
      refine (assert_Of.calls 20 ⟨#[120]⟩ _ 3 [⟨#[97]⟩, ⟨#[98]⟩, ⟨#[99]⟩] 2 2 _ 2 [2, 2] none 0 [] none 0 [] [] 8 _ (lit_Cs _ [⟨#[97]⟩, ⟨#[98]⟩, ⟨#[99]⟩] _ _ (blk_box gStr _) (by simp)) (Nat.le_refl _) (lit_C _ [2, 2] _ gEl (by simp)) (Nat.le_refl _) ⟨rfl, by simp, fun hp => absurd hp (by simp)⟩ (Nat.le_refl _) ⟨rfl, by simp, fun hp => absurd hp (by simp)⟩ (Nat.le_refl _) exo2).mono ?_
      rintro e w19 ⟨v19, rfl, hs19, hb19⟩
      have h1819 := below_step (below_box _) hb19
      have hB19 := below_step hB18 h1819
      have hrow := own_below hrow h1819
      have gStr := blk_later (blk_box gStr _) hb19
      have gCon := blk_later (blk_box gCon _) hb19
      have hs18 := Kd.S_below hs18 h1819
      clear gEl hb19 cc0 cc1 cc2 cc3
      have cc3 : w19.cell? ⟨w16.heap.size + 1, 3, none⟩ = some (.int .u8 2) := (blk_cell gCon 3).trans rfl
      have cf3 := blk_frozen gCon 3
      have hB20 := hB19.setCell (p := ⟨w16.heap.size + 1, 3, none⟩) (by have := hBw16.size; show W1.heap.size ≤ w16.heap.size + 1; omega) (.int .u8 3)
      have gCon20 : (w19.setCell ⟨w16.heap.size + 1, 3, none⟩ (.int .u8 3)).heap[w16.heap.size + 1]? = some (.cells #[.string ⟨#[120]⟩, .slice (some ⟨w16.heap.size, 0, none⟩) 3 3, .int .i64 2, .int .u8 3] 34 (0, 0)) := (blk_set gCon 3 _).trans rfl
      have dc0 := blk_cell gCon20 0
      have dc1 := blk_cell gCon20 1
      have dc2 := blk_cell gCon20 2
      have dc3 := blk_cell gCon20 3
      simp only [List.getElem?_toArray, List.getElem?_cons_zero, List.getElem?_cons_succ] at dc0 dc1 dc2 dc3
      have gStr20 := (Below.heap_setCell w19 ⟨w16.heap.size + 1, 3, none⟩ (.int .u8 3) w16.heap.size (by show w16.heap.size ≠ w16.heap.size + 1; omega)).trans gStr
      have hs20 := Kd.S_set hs18 gCon (by decide) 3 (.int .u8 3)
      go_wp2_with (go_at_call 9; fail)
      have hrow := own_setCell hrow gCon (by decide) 3 (.int .u8 3)
      have hz20 : (w19.setCell ⟨w16.heap.size + 1, 3, none⟩ (.int .u8 3)).heap.size = w19.heap.size := by simp
      generalize w19.setCell ⟨w16.heap.size + 1, 3, none⟩ (.int .u8 3) = w20 at *
      have gEl := heap_new_at hz20 (.cells #[.int .i64 2, .int .i64 0] 3)
      go_at_call 9
      refine (assert_Of.calls 20 ⟨#[120]⟩ _ 3 [⟨#[97]⟩, ⟨#[98]⟩, ⟨#[99]⟩] 2 3 _ 2 [2, 0] none 0 [] none 0 [] [] 6 _ (lit_Cs _ [⟨#[97]⟩, ⟨#[98]⟩, ⟨#[99]⟩] _ _ (blk_box gStr20 _) (by simp)) (Nat.le_refl _) (lit_C _ [2, 0] _ gEl (by simp)) (Nat.le_refl _) ⟨rfl, by simp, fun hp => absurd hp (by simp)⟩ (Nat.le_refl _) ⟨rfl, by simp, fun hp => absurd hp (by simp)⟩ (Nat.le_refl _) exo3).mono ?_
      rintro e w21 ⟨v21, rfl, hs21, hb21⟩
      have h2021 := below_step (below_box _) hb21
      have hB21 := below_step hB20 h2021
      have hrow := own_below hrow h2021
      have hs21b := Kd.S_below hs20 h2021
      clear gEl hb21 cc3 cf3 dc0 dc1 dc2 dc3 gCon20 gStr20 gCon gStr
      go_wp2_with (fail)
      obtain ⟨Al, cl, hv18, hcl, hCl⟩ := Kd.S_reads hs21b
      obtain ⟨Ag, cg, hu4, hcg, hCg⟩ := own_C hrow
      clear hs21b hs21 hs20 hs19 hs18 hrow
      subst hv18 hu4
      go_at_call 8
      refine (marks_plain _ _ _ _).mono ?_
      rintro e w22 ⟨rfl, hb22⟩
      have gL := blk_later (heap_alloc_new w21 (.cells #[.int .i64 0, .int .i64 1] 3)) hb22
      have h2122 := below_step (below_box _) hb22
      have hB22 := below_step hB21 h2122
      clear hb22
      go_wp2_with (fail)
      go_at_call 7
      refine (assert_Value.calls 20 1 0 1 none 0 [] 2 _ 2 [0, 1] 3 1 0 _ (hNil _) (Nat.le_refl _) (lit_C _ [0, 1] _ gL (by simp)) (Nat.le_refl _) exv9).mono ?_
      rintro e w23 ⟨rfl, hb23⟩
      have h2123 := below_step h2122 hb23
      have hB23 := below_step hB22 hb23
      clear hb23 gL
      have gW := heap_alloc_new w23 (.cells #[.int .u8 2, .int .i64 2, .int .i64 1, .slice none 0 0, .int .u8 2, .int .i64 0, .int .i64 1, .slice none 0 0] 24)
      have hB24 := below_alloc hB23 (.cells #[.int .u8 2, .int .i64 2, .int .i64 1, .slice none 0 0, .int .u8 2, .int .i64 0, .int .i64 1, .slice none 0 0] 24)
      have h2124 := below_alloc h2123 (.cells #[.int .u8 2, .int .i64 2, .int .i64 1, .slice none 0 0, .int .u8 2, .int .i64 0, .int .i64 1, .slice none 0 0] 24)
      go_wp2_with (fail)
      have gI := heap_new_at (b := w23.heap.size + 1) (World.size_alloc w23 (.cells #[.int .u8 2, .int .i64 2, .int .i64 1, .slice none 0 0, .int .u8 2, .int .i64 0, .int .i64 1, .slice none 0 0] 24)) (.cells #[.int .i64 2, .int .i64 0, .int .i64 1, .int .i64 1] 3)
      have h2125 := below_alloc h2124 (.cells #[.int .i64 2, .int .i64 0, .int .i64 1, .int .i64 1] 3)
      have hB25 := below_alloc hB24 (.cells #[.int .i64 2, .int .i64 0, .int .i64 1, .int .i64 1] 3)
      have gW := blk_box gW (.cells #[.int .i64 2, .int .i64 0, .int .i64 1, .int .i64 1] 3)
      go_at_call 10
      refine (suffrageref08_Ints.calls 20 Ag cg [2, 0, 1, 1] _ 4 [2, 0, 1, 1] true _ (Kd.C_below hCg h2125) hcg (lit_C _ [2, 0, 1, 1] _ gI (by simp)) (Nat.le_refl _) exq1).mono ?_
      rintro e w26 ⟨rfl, hd26⟩
      have hb26 := hd26.below
      have h2126 := below_step h2125 hb26
      have hB26 := below_step hB25 hb26
      have gW := blk_later gW hb26
      clear hb26 hd26 gI
      go_wp2_with (fail)
      go_at_call 11
      refine (suffrageref41_All.calls 20 Al cl [⟨2, 2, 1, []⟩, ⟨2, 0, 1, []⟩] _ 2 [⟨2, 2, 1, []⟩, ⟨2, 0, 1, []⟩] true _ (Kd.C_below hCl h2126) hcl (lit_C24 _ _ gW) (Nat.le_refl _) exq2).mono ?_
      rintro e w27 ⟨rfl, hb27⟩
      have hB27 := below_step hB26 hb27
      clear hb27 gW
      have cA0_27 := kA0 _ hB27
      have cA1_27 := kA1 _ hB27
      have cA2_27 := kA2 _ hB27
      have cA3_27 := kA3 _ hB27
      go_wp2_with (fail)
      go_at_call 12
      refine (assert_Check.calls 20 3 0 2 none 0 [] 2 _ _ (hNil _) (Nat.le_refl _) exq3).mono ?_
      rintro e w28 ⟨rfl, hb28⟩
      have hB28 := below_step hB27 hb28
      clear hb28 cA0_27 cA1_27 cA2_27 cA3_27
      have cA0_28 := kA0 _ hB28
      have cA1_28 := kA1 _ hB28
      have cA2_28 := kA2 _ hB28
      have cA3_28 := kA3 _ hB28
      go_wp2_with (fail)
      go_at_call 12
      refine (assert_Check.calls 20 3 0 2 none 0 [] 11 _ _ (hNil _) (Nat.le_refl _) exq4).mono ?_
      rintro e w29 ⟨rfl, hb29⟩
      have hB29 := below_step hB28 hb29
      clear hb29 cA0_28 cA1_28 cA2_28 cA3_28
      have cM0_29 := kM0 _ hB29
      have cM1_29 := kM1 _ hB29
      have cM2_29 := kM2 _ hB29
      have cM3_29 := kM3 _ hB29
      go_wp2_with (fail)
      go_at_call 12
      refine (assert_Check.calls 20 5 1 0 _ 2 [0, 1] 2 _ _ (hS2 _ hB29) (Nat.le_refl _) exq5).mono ?_
      rintro e w30 ⟨rfl, hb30⟩
      have hB30 := below_step hB29 hb30
      clear hb30 cM0_29 cM1_29 cM2_29 cM3_29
      have cA0_30 := kA0 _ hB30
      have cA1_30 := kA1 _ hB30
      have cA2_30 := kA2 _ hB30
      have cA3_30 := kA3 _ hB30
      go_wp2_with (fail)
      go_at_call 13
      refine (assert_Same.calls 20 3 0 2 none 0 [] 3 0 2 none 0 [] _ _ (hNil _) (Nat.le_refl _) (hNil _) (Nat.le_refl _) exq6).mono ?_
      rintro e w31 ⟨rfl, hb31⟩
      have hB31 := below_step hB30 hb31
      clear hb31
      have cA0_31 := kA0 _ hB31
      have cA1_31 := kA1 _ hB31
      have cA2_31 := kA2 _ hB31
      have cA3_31 := kA3 _ hB31
      have cB0_31 := kB0 _ hB31
      have cB1_31 := kB1 _ hB31
      have cB2_31 := kB2 _ hB31
      have cB3_31 := kB3 _ hB31
      go_wp2_with (fail)
      go_at_call 13
      refine (assert_Same.calls 20 3 0 2 none 0 [] 4 1 2 _ 2 [1, 2] _ _ (hNil _) (Nat.le_refl _) (hS1 _ hB31) (Nat.le_refl _) exq7).mono ?_
      rintro e w32 ⟨rfl, hb32⟩
      have hB32 := below_step hB31 hb32
      clear hb32
      go_wp2_with (fail)
      go_ret
      exact ⟨rfl, HW.out.trans (hB32.mono HW.out.size)⟩
theorem suffragelaw41_AssertExamples.calls (r : Bool) (w : World) (h : suffragelaw41_AssertExamples.f = some r) : Calls Try.prog 3 #[] w fun e w' => e = .returned (.bool r) ∧ Below w.heap.size w w' := by
  obtain rfl : true = r := Option.some.inj h
  exact ex_walk w
/-! ### suffrageref07_Great: function 14 -/
mutual
def suffrageref07_Great.j0 : Nat → Bool → ByteArray → List ByteArray → Int → Int → Option (Bool)
  | 0, _, _, _, _, _ => none
  | k + 1, x13, x317000, x317001, x317002, x317003 => if x13 = true then (some true) else (suffrageref07_Great.l0 k 0 x317000 x317001 x317002 x317003)
def suffrageref07_Great.l0 : Nat → Int → ByteArray → List ByteArray → Int → Int → Option (Bool)
  | 0, _, _, _, _, _ => none
  | k + 1, x3, x317000, x317001, x317002, x317003 => if x3 < (x317001.length : Int) then (if 0 ≤ x3 then (if ((rdOf ByteArray.empty x317001 x3).size : Int) > 1000 then (some true) else (suffrageref07_Great.l0 k (wrap64 (x3 + 1)) x317000 x317001 x317002 x317003)) else (none)) else (some false)
end
def suffrageref07_Great.f (k : Nat) (a0_0 : ByteArray) (l0_1 : List ByteArray) (a0_2 : Int) (a0_3 : Int) : Option (Bool) := if (l0_1.length : Int) > 100 then (suffrageref07_Great.j0 k true a0_0 l0_1 a0_2 a0_3) else (suffrageref07_Great.j0 k (decide ((a0_0.size : Int) > 1000)) a0_0 l0_1 a0_2 a0_3)
theorem suffrageref07_Great.mono_l : ∀ k, (∀ y0 y1 y2 y3 y4, LeO (suffrageref07_Great.j0 k y0 y1 y2 y3 y4) (suffrageref07_Great.j0 (k + 1) y0 y1 y2 y3 y4)) ∧ (∀ y0 y1 y2 y3 y4, LeO (suffrageref07_Great.l0 k y0 y1 y2 y3 y4) (suffrageref07_Great.l0 (k + 1) y0 y1 y2 y3 y4))
  | 0 => ⟨fun _ _ _ _ _ r h => by simp [suffrageref07_Great.j0] at h, fun _ _ _ _ _ r h => by simp [suffrageref07_Great.l0] at h⟩
  | k + 1 => by
    obtain ⟨ih0, ih1⟩ := suffrageref07_Great.mono_l k; refine ⟨?_, ?_⟩
    · intro y0 y1 y2 y3 y4; unfold suffrageref07_Great.j0; repeat' first
      | (with_reducible exact ih0 _ _ _ _ _)
      | (with_reducible exact ih1 _ _ _ _ _)
      | (with_reducible exact LeO.refl _)
      | (with_reducible exact LeO.none _)
      | (with_reducible refine LeO.ite ?_ ?_)
      | (with_reducible refine LeO.bind ?_ (fun _ => ?_))
      | exact ih0 _ _ _ _ _
      | exact ih1 _ _ _ _ _
      | exact LeO.none _
      | refine LeO.ite ?_ ?_
      | refine LeO.bind ?_ (fun _ => ?_)
    · intro y0 y1 y2 y3 y4; unfold suffrageref07_Great.l0; repeat' first
      | (with_reducible exact ih0 _ _ _ _ _)
      | (with_reducible exact ih1 _ _ _ _ _)
      | (with_reducible exact LeO.refl _)
      | (with_reducible exact LeO.none _)
      | (with_reducible refine LeO.ite ?_ ?_)
      | (with_reducible refine LeO.bind ?_ (fun _ => ?_))
      | exact ih0 _ _ _ _ _
      | exact ih1 _ _ _ _ _
      | exact LeO.none _
      | refine LeO.ite ?_ ?_
      | refine LeO.bind ?_ (fun _ => ?_)
theorem suffrageref07_Great.mono : ∀ a0 a1 a2 a3 k, LeO (suffrageref07_Great.f k a0 a1 a2 a3) (suffrageref07_Great.f (k + 1) a0 a1 a2 a3) := by
  intro a0 a1 a2 a3 k; obtain ⟨ih0, ih1⟩ := suffrageref07_Great.mono_l k; unfold suffrageref07_Great.f
  repeat' first
      | (with_reducible exact ih0 _ _ _ _ _)
      | (with_reducible exact ih1 _ _ _ _ _)
      | (with_reducible exact LeO.refl _)
      | (with_reducible exact LeO.none _)
      | (with_reducible refine LeO.ite ?_ ?_)
      | (with_reducible refine LeO.bind ?_ (fun _ => ?_))
      | exact ih0 _ _ _ _ _
      | exact ih1 _ _ _ _ _
      | exact LeO.none _
      | refine LeO.ite ?_ ?_
      | refine LeO.bind ?_ (fun _ => ?_)
set_option maxHeartbeats 8000000 in
set_option maxRecDepth 100000 in
theorem suffrageref07_Great.calls (k : Nat) (a0_0 : ByteArray) (A0_1 : Option Addr) (c0_1 : Nat) (l0_1 : List ByteArray) (a0_2 : Int) (a0_3 : Int) (r : Bool) (w : World) (hr0_1 : Kd.C Kd.string w A0_1 l0_1.length l0_1) (hc0_1 : l0_1.length ≤ c0_1) (h : suffrageref07_Great.f k a0_0 l0_1 a0_2 a0_3 = some r) :
    Calls Try.prog 14 #[.agg #[.string a0_0, .slice A0_1 l0_1.length c0_1, .int .i64 a0_2, .int .u8 a0_3]] w fun e w' => e = .returned (.bool r) ∧ Below w.heap.size w w' := by
  have hu34 := Try.underlying34; have HR0_1 := Aside0.mk hr0_1; have HC0_1 := Aside0.mk hc0_1; clear hr0_1 hc0_1; have HB := Aside0.mk (Below.refl w.heap.size w); have H : (if (l0_1.length : Int) > 100 then (suffrageref07_Great.j0 k true a0_0 l0_1 a0_2 a0_3) else (suffrageref07_Great.j0 k (decide ((a0_0.size : Int) > 1000)) a0_0 l0_1 a0_2 a0_3)) = some r := h; clear h; have HC2 := Aside0.mk H; clear H
  go_enter Try.func14, Try.ntmps14
  go_upto_region 1 with (first | ((with_reducible refine gate_dst (N := 1) rfl ?_); (try (refine gate_guard (by rfl) ?_; dsimp only)); refine box_event ?hg (N := 1) ?hd (cs := #[.string a0_0, .slice A0_1 l0_1.length c0_1, .int .i64 a0_2, .int .u8 a0_3]) (t := 34) ?hr ?_; (case hd => rfl); (case hg => rfl); (case hr => first | (go_simp; done) | (go_simp; rfl)); intro gb316 hg w3 hbox hb; have n0_ := Aside0.mk (below_step bl_ hb); have n1_ := Aside0.mk (hbox); have n2_ := Aside0.mk ((by rw [hg]; exact (below_size bl_) : w.heap.size ≤ gb316)); have n3_ := Aside0.mk ((by rw [hg]; exact (below_size bl_) : w.heap.size ≤ gb316)); clear HB; have HB := n0_; have BK316 := n1_; have GW316 := n2_; have GE316 := n3_; clear n0_ n1_ n2_ n3_; clear hb hbox hg))
  (try simp only [Act.put, sA_, sB_, sC_])
  go_cut [13] (fun v13 wc => ∃ (kq : Nat) (x13_1 : Bool), v13 = .bool x13_1 ∧ Aside0 (suffrageref07_Great.j0 kq x13_1 a0_0 l0_1 a0_2 a0_3 = some r) ∧ Aside0 (kq ≤ k) ∧ Aside0 (wc.heap[gb316]? = some (.cells #[.string a0_0, (.slice A0_1 l0_1.length c0_1), .int .i64 a0_2, .int .u8 a0_3] 34 (0, 0))) ∧ Aside0 (Below w.heap.size w wc))
  case first =>
    have H := HC2.out; clear HC2
    by_cases c4 : (l0_1.length : Int) > 100
    · rw [if_pos c4] at H; have c4b0 : decide (100 < (l0_1.length : Int)) = true := decide_eq_true c4; have c4b1 : decide (100 < l0_1.length) = true := decide_eq_true (by omega); clear c4; (first | rw [c4b0] | (simp only [i64_w, i32_w]; rw [c4b0]) | skip); have H' := Aside0.mk H; clear H; have hcz5_0 : w3.cell? ⟨gb316, 0, none⟩ = some (.string a0_0) := (blk_cell BK316.out 0).trans rfl; have hcz5_1 : w3.cell? ⟨gb316, 1, none⟩ = some (.slice A0_1 l0_1.length c0_1) := (blk_cell BK316.out 1).trans rfl; have hcz5_2 : w3.cell? ⟨gb316, 2, none⟩ = some (.int .i64 a0_2) := (blk_cell BK316.out 2).trans rfl; have hcz5_3 : w3.cell? ⟨gb316, 3, none⟩ = some (.int .u8 a0_3) := (blk_cell BK316.out 3).trans rfl; have hfz5_0 := blk_frozen BK316.out 0; have hfz5_1 := blk_frozen BK316.out 1; have hfz5_2 := blk_frozen BK316.out 2; have hfz5_3 := blk_frozen BK316.out 3; go_wp2
      go_meet
      case rel => exact ⟨_, (true), rl_, H', ⟨by first | omega | exact Nat.le_refl _⟩, ⟨by (with_reducible repeat (first | refine blk_drewN ?_ _ | refine blk_drew ?_ | refine blk_alloc ?_ _)); exact BK316.out⟩, ⟨by repeat (first | (with_reducible first | exact HB.out | apply below_alloc | apply pw_below_drewN | apply below_drew1 | refine below_set ?_ GE316.out) | exact HB.out)⟩⟩
    · rw [if_neg c4] at H; have c4b0 : decide (100 < (l0_1.length : Int)) = false := decide_eq_false c4; have c4b1 : decide (100 < l0_1.length) = false := decide_eq_false (by omega); clear c4; (first | rw [c4b0] | (simp only [i64_w, i32_w]; rw [c4b0]) | skip); have H' := Aside0.mk H; clear H; have hcz6_0 : w3.cell? ⟨gb316, 0, none⟩ = some (.string a0_0) := (blk_cell BK316.out 0).trans rfl; have hcz6_1 : w3.cell? ⟨gb316, 1, none⟩ = some (.slice A0_1 l0_1.length c0_1) := (blk_cell BK316.out 1).trans rfl; have hcz6_2 : w3.cell? ⟨gb316, 2, none⟩ = some (.int .i64 a0_2) := (blk_cell BK316.out 2).trans rfl; have hcz6_3 : w3.cell? ⟨gb316, 3, none⟩ = some (.int .u8 a0_3) := (blk_cell BK316.out 3).trans rfl; have hfz6_0 := blk_frozen BK316.out 0; have hfz6_1 := blk_frozen BK316.out 1; have hfz6_2 := blk_frozen BK316.out 2; have hfz6_3 := blk_frozen BK316.out 3; go_wp2
      go_meet
      case rel => exact ⟨_, (decide ((a0_0.size : Int) > 1000)), rl_, H', ⟨by first | omega | exact Nat.le_refl _⟩, ⟨by (with_reducible repeat (first | refine blk_drewN ?_ _ | refine blk_drew ?_ | refine blk_alloc ?_ _)); exact BK316.out⟩, ⟨by repeat (first | (with_reducible first | exact HB.out | apply below_alloc | apply pw_below_drewN | apply below_drew1 | refine below_set ?_ GE316.out) | exact HB.out)⟩⟩
  case rest =>
    clear HC2; (try clear c1); (try clear p2); (try clear c4); (try clear c4b0); (try clear c4b1); (try clear hcz5_0); (try clear hcz5_1); (try clear hcz5_2); (try clear hcz5_3); (try clear hcz6_0); (try clear hcz6_1); (try clear hcz6_2); (try clear hcz6_3); (try clear hfz5_0); (try clear hfz5_1); (try clear hfz5_2); (try clear hfz5_3); (try clear hfz6_0); (try clear hfz6_1); (try clear hfz6_2); (try clear hfz6_3); obtain ⟨kq, x13_1, rfl, HA, HJ1, BK316, HB⟩ := hcut
    cases kq with
    | zero => exact absurd HA.out (by simp [suffrageref07_Great.j0])
    | succ kj1 =>
      have H := HA.out; clear HA; simp only [suffrageref07_Great.j0] at H
      by_cases c7 : x13_1 = true
      · subst c7
        have H1 : (some true) = some r := by rw [if_pos rfl] at H; exact H
        clear H; have H := H1; clear H1; obtain rfl := Option.some.inj H; go_wp2; go_ret; exact ⟨by first | rfl | (simp [errW_none, errW_some] <;> rfl) | (simp [*, errW_none, errW_some] <;> rfl), by repeat (first | (with_reducible first | exact HB.out | apply below_alloc | apply pw_below_drewN | apply below_drew1 | refine below_set ?_ GE316.out) | exact HB.out)⟩
      · replace c7 := Bool.eq_false_iff.mpr c7; subst c7
        have H1 : (suffrageref07_Great.l0 kj1 0 a0_0 l0_1 a0_2 a0_3) = some r := by rw [if_neg (show ¬ (false = true) by decide)] at H; exact H
        clear H; have H := H1; clear H1; have H' := Aside0.mk H; clear H; go_wp2
        go_loopg [3] kj1 (fun kq v3 w' => ∃ (x3_2 : Int), v3 = .int .i64 x3_2 ∧ Aside0 (suffrageref07_Great.l0 kq x3_2 a0_0 l0_1 a0_2 a0_3 = some r) ∧ Aside0 (kq ≤ kj1) ∧ Aside0 (w'.heap[gb316]? = some (.cells #[.string a0_0, (.slice A0_1 l0_1.length c0_1), .int .i64 a0_2, .int .u8 a0_3] 34 (0, 0))) ∧ Aside0 (Below w.heap.size w w'))
        case atStart => exact ⟨(0), rl_, H', ⟨Nat.le_refl _⟩, ⟨by (with_reducible repeat (first | refine blk_drewN ?_ _ | refine blk_drew ?_ | refine blk_alloc ?_ _)); exact BK316.out⟩, ⟨by repeat (first | (with_reducible first | exact HB.out | apply below_alloc | apply pw_below_drewN | apply below_drew1 | refine below_set ?_ GE316.out) | exact HB.out)⟩⟩
        case round =>
          clear H'; (try clear c1); (try clear p2); (try clear c4); (try clear c4b0); (try clear c4b1); (try clear c7); (try clear hcz5_0); (try clear hcz5_1); (try clear hcz5_2); (try clear hcz5_3); (try clear hcz6_0); (try clear hcz6_1); (try clear hcz6_2); (try clear hcz6_3); (try clear hfz5_0); (try clear hfz5_1); (try clear hfz5_2); (try clear hfz5_3); (try clear hfz6_0); (try clear hfz6_1); (try clear hfz6_2); (try clear hfz6_3); (try clear p2); obtain ⟨x3_2, rfl, HA, HK2, BK316, HB⟩ := hrel
          cases gk with
          | zero => exact absurd HA.out (by simp [suffrageref07_Great.l0])
          | succ k2 =>
            have H := HA.out; clear HA; simp only [suffrageref07_Great.l0] at H
            by_cases c8 : x3_2 < (l0_1.length : Int)
            · rw [if_pos c8] at H; have c8b0 : decide (x3_2 < (l0_1.length : Int)) = true := decide_eq_true c8; clear c8
              by_cases c9 : 0 ≤ x3_2
              · rw [if_pos c9] at H; have c9b0 : decide (0 ≤ x3_2) = true := decide_eq_true c9; clear c9
                by_cases c10 : ((rdOf ByteArray.empty l0_1 x3_2).size : Int) > 1000
                (· rw [if_pos c10] at H; have c10b0 : decide (1000 < ((rdOf ByteArray.empty l0_1 x3_2).size : Int)) = true := decide_eq_true c10; have c10b1 : decide (1000 < (rdOf ByteArray.empty l0_1 x3_2).size) = true := decide_eq_true (by omega); clear c10; obtain rfl := Option.some.inj H; have hcz11_0 : wr.cell? ⟨gb316, 0, none⟩ = some (.string a0_0) := (blk_cell BK316.out 0).trans rfl; have hcz11_1 : wr.cell? ⟨gb316, 1, none⟩ = some (.slice A0_1 l0_1.length c0_1) := (blk_cell BK316.out 1).trans rfl; have hcz11_2 : wr.cell? ⟨gb316, 2, none⟩ = some (.int .i64 a0_2) := (blk_cell BK316.out 2).trans rfl; have hcz11_3 : wr.cell? ⟨gb316, 3, none⟩ = some (.int .u8 a0_3) := (blk_cell BK316.out 3).trans rfl; have hfz11_0 := blk_frozen BK316.out 0; have hfz11_1 := blk_frozen BK316.out 1; have hfz11_2 := blk_frozen BK316.out 2; have hfz11_3 := blk_frozen BK316.out 3; have p317 : 0 ≤ (x3_2 : Int) := of_decide_eq_true as_; have q317 : x3_2 < (l0_1.length : Int) := of_decide_eq_true as_; obtain ⟨ad317, e317, hx317_0⟩ := Kd.at_string HR0_1.out x3_2 p317 q317; cases e317; replace hx317_0 := (HB.out.cell (World.block_lt_of_cell? w _ hx317_0)).trans hx317_0; replace p317 := eq_true p317; replace q317 := eq_true q317; go_wp2; go_ret; exact ⟨by first | rfl | (simp [errW_none, errW_some] <;> rfl) | (simp [*, errW_none, errW_some] <;> rfl), by repeat (first | (with_reducible first | exact HB.out | apply below_alloc | apply pw_below_drewN | apply below_drew1 | refine below_set ?_ GE316.out) | exact HB.out)⟩)
                · rw [if_neg c10] at H; have c10b0 : decide (1000 < ((rdOf ByteArray.empty l0_1 x3_2).size : Int)) = false := decide_eq_false c10; have c10b1 : decide (1000 < (rdOf ByteArray.empty l0_1 x3_2).size) = false := decide_eq_false (by omega); clear c10; have H' := Aside0.mk H; clear H; have hcz12_0 : wr.cell? ⟨gb316, 0, none⟩ = some (.string a0_0) := (blk_cell BK316.out 0).trans rfl; have hcz12_1 : wr.cell? ⟨gb316, 1, none⟩ = some (.slice A0_1 l0_1.length c0_1) := (blk_cell BK316.out 1).trans rfl; have hcz12_2 : wr.cell? ⟨gb316, 2, none⟩ = some (.int .i64 a0_2) := (blk_cell BK316.out 2).trans rfl; have hcz12_3 : wr.cell? ⟨gb316, 3, none⟩ = some (.int .u8 a0_3) := (blk_cell BK316.out 3).trans rfl; have hfz12_0 := blk_frozen BK316.out 0; have hfz12_1 := blk_frozen BK316.out 1; have hfz12_2 := blk_frozen BK316.out 2; have hfz12_3 := blk_frozen BK316.out 3; have p317 : 0 ≤ (x3_2 : Int) := of_decide_eq_true as_; have q317 : x3_2 < (l0_1.length : Int) := of_decide_eq_true as_; obtain ⟨ad317, e317, hx317_0⟩ := Kd.at_string HR0_1.out x3_2 p317 q317; cases e317; replace hx317_0 := (HB.out.cell (World.block_lt_of_cell? w _ hx317_0)).trans hx317_0; replace p317 := eq_true p317; replace q317 := eq_true q317; go_wp2; go_roundg k2
                  case measure => have := HJ1.out; have := HK2.out; omega
                  case rel => exact ⟨(wrap64 (x3_2 + 1)), rl_, H', ⟨by have := HJ1.out; have := HK2.out; omega⟩, ⟨by (with_reducible repeat (first | refine blk_drewN ?_ _ | refine blk_drew ?_ | refine blk_alloc ?_ _)); exact BK316.out⟩, ⟨by repeat (first | (with_reducible first | exact HB.out | apply below_alloc | apply pw_below_drewN | apply below_drew1 | refine below_set ?_ GE316.out) | exact HB.out)⟩⟩
              (· rw [if_neg c9] at H; exact absurd H (by simp))
            (· rw [if_neg c8] at H; have c8b0 : decide (x3_2 < (l0_1.length : Int)) = false := decide_eq_false c8; clear c8; obtain rfl := Option.some.inj H; have hcz13_0 : wr.cell? ⟨gb316, 0, none⟩ = some (.string a0_0) := (blk_cell BK316.out 0).trans rfl; have hcz13_1 : wr.cell? ⟨gb316, 1, none⟩ = some (.slice A0_1 l0_1.length c0_1) := (blk_cell BK316.out 1).trans rfl; have hcz13_2 : wr.cell? ⟨gb316, 2, none⟩ = some (.int .i64 a0_2) := (blk_cell BK316.out 2).trans rfl; have hcz13_3 : wr.cell? ⟨gb316, 3, none⟩ = some (.int .u8 a0_3) := (blk_cell BK316.out 3).trans rfl; have hfz13_0 := blk_frozen BK316.out 0; have hfz13_1 := blk_frozen BK316.out 1; have hfz13_2 := blk_frozen BK316.out 2; have hfz13_3 := blk_frozen BK316.out 3; go_wp2; go_ret; exact ⟨by first | rfl | (simp [errW_none, errW_some] <;> rfl) | (simp [*, errW_none, errW_some] <;> rfl), by repeat (first | (with_reducible first | exact HB.out | apply below_alloc | apply pw_below_drewN | apply below_drew1 | refine below_set ?_ GE316.out) | exact HB.out)⟩)
/-! ### suffrageref41_Great: function 15 -/
mutual
def suffrageref41_Great.l0 : Nat → Int → Int → Int → Int → List Int → List Int → List (S74) → List (S148) → Option (Bool)
  | 0, _, _, _, _, _, _, _, _ => none
  | k + 1, x5, x319000, x319001, x319002, x319003, x320000, x320001, x320002 => if x5 < (x320001.length : Int) then (suffrageref41_Great.j1 k x5 (decide (x5 ≤ 40)) x319000 x319001 x319002 x319003 x320000 x320001 x320002) else (suffrageref41_Great.j1 k x5 false x319000 x319001 x319002 x319003 x320000 x320001 x320002)
def suffrageref41_Great.j1 : Nat → Int → Bool → Int → Int → Int → List Int → List Int → List (S74) → List (S148) → Option (Bool)
  | 0, _, _, _, _, _, _, _, _, _ => none
  | k + 1, x5, x14, x319000, x319001, x319002, x319003, x320000, x320001, x320002 => if x14 = true then (if 0 ≤ x5 then (if x5 < (x320001.length : Int) then (if (((rd_T74 x320001 x5).f3).length : Int) > 40 then (some true) else (suffrageref41_Great.l0 k (wrap64 (x5 + 1)) x319000 x319001 x319002 x319003 x320000 x320001 x320002)) else (none)) else (none)) else (if (x319003.length : Int) > 40 then (some true) else (if (x320001.length : Int) > 40 then (some true) else (some (decide ((x320000.length : Int) > 40)))))
end
def suffrageref41_Great.f (k : Nat) (a0_0 : Int) (a0_1 : Int) (a0_2 : Int) (l0_3 : List Int) (l1_0 : List Int) (l1_1 : List (S74)) (l1_2 : List (S148)) : Option (Bool) := suffrageref41_Great.l0 k 0 a0_0 a0_1 a0_2 l0_3 l1_0 l1_1 l1_2
theorem suffrageref41_Great.mono_l : ∀ k, (∀ y0 y1 y2 y3 y4 y5 y6 y7, LeO (suffrageref41_Great.l0 k y0 y1 y2 y3 y4 y5 y6 y7) (suffrageref41_Great.l0 (k + 1) y0 y1 y2 y3 y4 y5 y6 y7)) ∧ (∀ y0 y1 y2 y3 y4 y5 y6 y7 y8, LeO (suffrageref41_Great.j1 k y0 y1 y2 y3 y4 y5 y6 y7 y8) (suffrageref41_Great.j1 (k + 1) y0 y1 y2 y3 y4 y5 y6 y7 y8))
  | 0 => ⟨fun _ _ _ _ _ _ _ _ r h => by simp [suffrageref41_Great.l0] at h, fun _ _ _ _ _ _ _ _ _ r h => by simp [suffrageref41_Great.j1] at h⟩
  | k + 1 => by
    obtain ⟨ih0, ih1⟩ := suffrageref41_Great.mono_l k; refine ⟨?_, ?_⟩
    · intro y0 y1 y2 y3 y4 y5 y6 y7; unfold suffrageref41_Great.l0; repeat' first
      | (with_reducible exact ih0 _ _ _ _ _ _ _ _)
      | (with_reducible exact ih1 _ _ _ _ _ _ _ _ _)
      | (with_reducible exact LeO.refl _)
      | (with_reducible exact LeO.none _)
      | (with_reducible refine LeO.ite ?_ ?_)
      | (with_reducible refine LeO.bind ?_ (fun _ => ?_))
      | exact ih0 _ _ _ _ _ _ _ _
      | exact ih1 _ _ _ _ _ _ _ _ _
      | exact LeO.none _
      | refine LeO.ite ?_ ?_
      | refine LeO.bind ?_ (fun _ => ?_)
    · intro y0 y1 y2 y3 y4 y5 y6 y7 y8; unfold suffrageref41_Great.j1; repeat' first
      | (with_reducible exact ih0 _ _ _ _ _ _ _ _)
      | (with_reducible exact ih1 _ _ _ _ _ _ _ _ _)
      | (with_reducible exact LeO.refl _)
      | (with_reducible exact LeO.none _)
      | (with_reducible refine LeO.ite ?_ ?_)
      | (with_reducible refine LeO.bind ?_ (fun _ => ?_))
      | exact ih0 _ _ _ _ _ _ _ _
      | exact ih1 _ _ _ _ _ _ _ _ _
      | exact LeO.none _
      | refine LeO.ite ?_ ?_
      | refine LeO.bind ?_ (fun _ => ?_)
theorem suffrageref41_Great.mono : ∀ a0 a1 a2 a3 a4 a5 a6 k, LeO (suffrageref41_Great.f k a0 a1 a2 a3 a4 a5 a6) (suffrageref41_Great.f (k + 1) a0 a1 a2 a3 a4 a5 a6) := by
  intro a0 a1 a2 a3 a4 a5 a6 k; obtain ⟨ih0, ih1⟩ := suffrageref41_Great.mono_l k; unfold suffrageref41_Great.f
  repeat' first
      | (with_reducible exact ih0 _ _ _ _ _ _ _ _)
      | (with_reducible exact ih1 _ _ _ _ _ _ _ _ _)
      | (with_reducible exact LeO.refl _)
      | (with_reducible exact LeO.none _)
      | (with_reducible refine LeO.ite ?_ ?_)
      | (with_reducible refine LeO.bind ?_ (fun _ => ?_))
      | exact ih0 _ _ _ _ _ _ _ _
      | exact ih1 _ _ _ _ _ _ _ _ _
      | exact LeO.none _
      | refine LeO.ite ?_ ?_
      | refine LeO.bind ?_ (fun _ => ?_)
set_option maxHeartbeats 8000000 in
set_option maxRecDepth 100000 in
theorem suffrageref41_Great.calls (k : Nat) (a0_0 : Int) (a0_1 : Int) (a0_2 : Int) (A0_3 : Option Addr) (c0_3 : Nat) (l0_3 : List Int) (A1_0 : Option Addr) (c1_0 : Nat) (l1_0 : List Int) (A1_1 : Option Addr) (c1_1 : Nat) (l1_1 : List (S74)) (A1_2 : Option Addr) (c1_2 : Nat) (l1_2 : List (S148)) (r : Bool) (w : World) (hr0_3 : Kd.C (Kd.int .i64) w A0_3 l0_3.length l0_3) (hc0_3 : l0_3.length ≤ c0_3) (hr1_0 : Kd.C (Kd.int .i64) w A1_0 l1_0.length l1_0) (hc1_0 : l1_0.length ≤ c1_0) (hr1_1 : Kd.C k74 w A1_1 l1_1.length l1_1) (hc1_1 : l1_1.length ≤ c1_1) (hr1_2 : Kd.C k148 w A1_2 l1_2.length l1_2) (hc1_2 : l1_2.length ≤ c1_2) (h : suffrageref41_Great.f k a0_0 a0_1 a0_2 l0_3 l1_0 l1_1 l1_2 = some r) :
    Calls Try.prog 15 #[.agg #[.int .u8 a0_0, .int .i64 a0_1, .int .i64 a0_2, .slice A0_3 l0_3.length c0_3], .agg #[.slice A1_0 l1_0.length c1_0, .slice A1_1 l1_1.length c1_1, .slice A1_2 l1_2.length c1_2]] w fun e w' => e = .returned (.bool r) ∧ Below w.heap.size w w' := by
  have hu24 := Try.underlying24; have hu41 := Try.underlying41; have HR0_3 := Aside0.mk hr0_3; have HC0_3 := Aside0.mk hc0_3; clear hr0_3 hc0_3; have HR1_0 := Aside0.mk hr1_0; have HC1_0 := Aside0.mk hc1_0; clear hr1_0 hc1_0; have HR1_1 := Aside0.mk hr1_1; have HC1_1 := Aside0.mk hc1_1; clear hr1_1 hc1_1; have HR1_2 := Aside0.mk hr1_2; have HC1_2 := Aside0.mk hc1_2; clear hr1_2 hc1_2; have HB := Aside0.mk (Below.refl w.heap.size w); have H : (suffrageref41_Great.l0 k 0 a0_0 a0_1 a0_2 l0_3 l1_0 l1_1 l1_2) = some r := h; clear h; have H' := Aside0.mk H; clear H
  go_enter Try.func15, Try.ntmps15
  go_wp2_with (first | ((with_reducible refine gate_dst (N := 2) rfl ?_); (try (refine gate_guard (by rfl) ?_; dsimp only)); refine box_event ?hg (N := 2) ?hd (cs := #[.int .u8 a0_0, .int .i64 a0_1, .int .i64 a0_2, .slice A0_3 l0_3.length c0_3]) (t := 24) ?hr ?_; (case hd => rfl); (case hg => rfl); (case hr => first | (go_simp; done) | (go_simp; rfl)); intro gb318 hg w3 hbox hb; have n0_ := Aside0.mk (below_step bl_ hb); have n1_ := Aside0.mk (hbox); have n2_ := Aside0.mk ((by rw [hg]; exact (below_size bl_) : w.heap.size ≤ gb318)); have n3_ := Aside0.mk ((by rw [hg]; exact (below_size bl_) : w.heap.size ≤ gb318)); clear HB; have HB := n0_; have BK318 := n1_; have GW318 := n2_; have GE318 := n3_; clear n0_ n1_ n2_ n3_; clear hb hbox hg) | ((with_reducible refine gate_dst (N := 3) rfl ?_); (try (refine gate_guard (by rfl) ?_; dsimp only)); refine box_event ?hg (N := 3) ?hd (cs := #[.slice A1_0 l1_0.length c1_0, .slice A1_1 l1_1.length c1_1, .slice A1_2 l1_2.length c1_2]) (t := 41) ?hr ?_; (case hd => rfl); (case hg => rfl); (case hr => first | (go_simp; done) | (go_simp; rfl)); intro gb319 hg w4 hbox hb; have n0_ := Aside0.mk (blk_below (g := gb318) (o := .cells #[.int .u8 a0_0, .int .i64 a0_1, .int .i64 a0_2, .slice A0_3 l0_3.length c0_3] 24 (0, 0)) (by (with_reducible repeat (first | refine blk_drewN ?_ _ | refine blk_drew ?_ | refine blk_alloc ?_ _)); exact BK318.out) hb); have n1_ := Aside0.mk (below_step (by repeat (first | (with_reducible first | exact HB.out | apply below_alloc | apply pw_below_drewN | apply below_drew1 | refine below_set ?_ GE318.out) | exact HB.out)) hb); have n2_ := Aside0.mk (hbox); have n3_ := Aside0.mk ((by rw [hg]; exact (below_size (by repeat (first | (with_reducible first | exact HB.out | apply below_alloc | apply pw_below_drewN | apply below_drew1 | refine below_set ?_ GE318.out) | exact HB.out))) : w.heap.size ≤ gb319)); have n4_ := Aside0.mk ((by rw [hg]; exact (below_size (by repeat (first | (with_reducible first | exact HB.out | apply below_alloc | apply pw_below_drewN | apply below_drew1 | refine below_set ?_ GE318.out) | exact HB.out))) : w.heap.size ≤ gb319)); have n5_ := Aside0.mk ((by rw [hg]; exact Nat.ne_of_lt (blk_lt (g := gb318) (o := .cells #[.int .u8 a0_0, .int .i64 a0_1, .int .i64 a0_2, .slice A0_3 l0_3.length c0_3] 24 (0, 0)) (by (with_reducible repeat (first | refine blk_drewN ?_ _ | refine blk_drew ?_ | refine blk_alloc ?_ _)); exact BK318.out)) : gb318 ≠ gb319)); have n6_ := Aside0.mk ((by rw [hg]; exact Nat.ne_of_gt (blk_lt (g := gb318) (o := .cells #[.int .u8 a0_0, .int .i64 a0_1, .int .i64 a0_2, .slice A0_3 l0_3.length c0_3] 24 (0, 0)) (by (with_reducible repeat (first | refine blk_drewN ?_ _ | refine blk_drew ?_ | refine blk_alloc ?_ _)); exact BK318.out)) : gb319 ≠ gb318)); clear BK318; clear HB; have BK318 := n0_; have HB := n1_; have BK319 := n2_; have GW319 := n3_; have GE319 := n4_; have NB318_319 := n5_; have NB319_318 := n6_; clear n0_ n1_ n2_ n3_ n4_ n5_ n6_; clear hb hbox hg))
  go_loopg [5] k (fun kq v5 w' => ∃ (x5_1 : Int), v5 = .int .i64 x5_1 ∧ Aside0 (suffrageref41_Great.l0 kq x5_1 a0_0 a0_1 a0_2 l0_3 l1_0 l1_1 l1_2 = some r) ∧ Aside0 (kq ≤ k) ∧ Aside0 (w'.heap[gb318]? = some (.cells #[.int .u8 a0_0, .int .i64 a0_1, .int .i64 a0_2, (.slice A0_3 l0_3.length c0_3)] 24 (0, 0))) ∧ Aside0 (w'.heap[gb319]? = some (.cells #[(.slice A1_0 l1_0.length c1_0), (.slice A1_1 l1_1.length c1_1), (.slice A1_2 l1_2.length c1_2)] 41 (0, 0))) ∧ Aside0 (Below w.heap.size w w'))
  case atStart => exact ⟨(0), rl_, H', ⟨Nat.le_refl _⟩, ⟨by (with_reducible repeat (first | refine blk_drewN ?_ _ | refine blk_drew ?_ | refine blk_alloc ?_ _)); exact BK318.out⟩, ⟨by (with_reducible repeat (first | refine blk_drewN ?_ _ | refine blk_drew ?_ | refine blk_alloc ?_ _)); exact BK319.out⟩, ⟨by repeat (first | (with_reducible first | exact HB.out | apply below_alloc | apply pw_below_drewN | apply below_drew1 | refine below_set ?_ GE318.out | refine below_set ?_ GE319.out) | exact HB.out)⟩⟩
  case round =>
    clear H'; (try clear c1); (try clear p2); obtain ⟨x5_1, rfl, HA, HK1, BK318, BK319, HB⟩ := hrel
    cases gk with
    | zero => exact absurd HA.out (by simp [suffrageref41_Great.l0])
    | succ k1 =>
      have H := HA.out; clear HA; simp only [suffrageref41_Great.l0] at H; have HC5 := Aside0.mk H; clear H
      go_upto_region 2 with (fail)
      go_cut [14] (fun v14 wc => ∃ (kq : Nat) (x14_4 : Bool), v14 = .bool x14_4 ∧ Aside0 (suffrageref41_Great.j1 kq x5_1 x14_4 a0_0 a0_1 a0_2 l0_3 l1_0 l1_1 l1_2 = some r) ∧ Aside0 (kq ≤ k1) ∧ Aside0 (wc.heap[gb318]? = some (.cells #[.int .u8 a0_0, .int .i64 a0_1, .int .i64 a0_2, (.slice A0_3 l0_3.length c0_3)] 24 (0, 0))) ∧ Aside0 (wc.heap[gb319]? = some (.cells #[(.slice A1_0 l1_0.length c1_0), (.slice A1_1 l1_1.length c1_1), (.slice A1_2 l1_2.length c1_2)] 41 (0, 0))) ∧ Aside0 (Below w.heap.size w wc))
      case first =>
        have H := HC5.out; clear HC5
        by_cases c6 : x5_1 < (l1_1.length : Int)
        · rw [if_pos c6] at H; have c6b0 : decide (x5_1 < (l1_1.length : Int)) = true := decide_eq_true c6; clear c6; (first | rw [c6b0] | (simp only [i64_w, i32_w]; rw [c6b0]) | skip); have H' := Aside0.mk H; clear H; have hnb7 := NB319_318.out; have hnc7 := NB318_319.out; have hcz8_0 : wr.cell? ⟨gb319, 0, none⟩ = some (.slice A1_0 l1_0.length c1_0) := (blk_cell BK319.out 0).trans rfl; have hcz8_1 : wr.cell? ⟨gb319, 1, none⟩ = some (.slice A1_1 l1_1.length c1_1) := (blk_cell BK319.out 1).trans rfl; have hcz8_2 : wr.cell? ⟨gb319, 2, none⟩ = some (.slice A1_2 l1_2.length c1_2) := (blk_cell BK319.out 2).trans rfl; have hfz8_0 := blk_frozen BK319.out 0; have hfz8_1 := blk_frozen BK319.out 1; have hfz8_2 := blk_frozen BK319.out 2; go_wp2
          go_meet
          case rel => exact ⟨_, (decide (x5_1 ≤ 40)), rl_, H', ⟨by have := HK1.out; first | omega | exact Nat.le_refl _⟩, ⟨by (with_reducible repeat (first | refine blk_drewN ?_ _ | refine blk_drew ?_ | refine blk_alloc ?_ _)); exact BK318.out⟩, ⟨by (with_reducible repeat (first | refine blk_drewN ?_ _ | refine blk_drew ?_ | refine blk_alloc ?_ _)); exact BK319.out⟩, ⟨by repeat (first | (with_reducible first | exact HB.out | apply below_alloc | apply pw_below_drewN | apply below_drew1 | refine below_set ?_ GE318.out | refine below_set ?_ GE319.out) | exact HB.out)⟩⟩
        · rw [if_neg c6] at H; have c6b0 : decide (x5_1 < (l1_1.length : Int)) = false := decide_eq_false c6; clear c6; (first | rw [c6b0] | (simp only [i64_w, i32_w]; rw [c6b0]) | skip); have H' := Aside0.mk H; clear H; have hnb9 := NB319_318.out; have hnc9 := NB318_319.out; have hcz10_0 : wr.cell? ⟨gb319, 0, none⟩ = some (.slice A1_0 l1_0.length c1_0) := (blk_cell BK319.out 0).trans rfl; have hcz10_1 : wr.cell? ⟨gb319, 1, none⟩ = some (.slice A1_1 l1_1.length c1_1) := (blk_cell BK319.out 1).trans rfl; have hcz10_2 : wr.cell? ⟨gb319, 2, none⟩ = some (.slice A1_2 l1_2.length c1_2) := (blk_cell BK319.out 2).trans rfl; have hfz10_0 := blk_frozen BK319.out 0; have hfz10_1 := blk_frozen BK319.out 1; have hfz10_2 := blk_frozen BK319.out 2; go_wp2
          go_meet
          case rel => exact ⟨_, (false), rl_, H', ⟨by have := HK1.out; first | omega | exact Nat.le_refl _⟩, ⟨by (with_reducible repeat (first | refine blk_drewN ?_ _ | refine blk_drew ?_ | refine blk_alloc ?_ _)); exact BK318.out⟩, ⟨by (with_reducible repeat (first | refine blk_drewN ?_ _ | refine blk_drew ?_ | refine blk_alloc ?_ _)); exact BK319.out⟩, ⟨by repeat (first | (with_reducible first | exact HB.out | apply below_alloc | apply pw_below_drewN | apply below_drew1 | refine below_set ?_ GE318.out | refine below_set ?_ GE319.out) | exact HB.out)⟩⟩
      case rest =>
        clear HC5; (try clear c1); (try clear p2); (try clear c6); (try clear c6b0); (try clear c7); (try clear c9); (try clear hcz10_0); (try clear hcz10_1); (try clear hcz10_2); (try clear hcz8_0); (try clear hcz8_1); (try clear hcz8_2); (try clear hfz10_0); (try clear hfz10_1); (try clear hfz10_2); (try clear hfz8_0); (try clear hfz8_1); (try clear hfz8_2); (try clear p2); obtain ⟨kq, x14_4, rfl, HA, HJ4, BK318, BK319, HB⟩ := hcut
        cases kq with
        | zero => exact absurd HA.out (by simp [suffrageref41_Great.j1])
        | succ kj4 =>
          have H := HA.out; clear HA; simp only [suffrageref41_Great.j1] at H
          by_cases c11 : x14_4 = true
          · subst c11
            have H1 : (if 0 ≤ x5_1 then (if x5_1 < (l1_1.length : Int) then (if (((rd_T74 l1_1 x5_1).f3).length : Int) > 40 then (some true) else (suffrageref41_Great.l0 kj4 (wrap64 (x5_1 + 1)) a0_0 a0_1 a0_2 l0_3 l1_0 l1_1 l1_2)) else (none)) else (none)) = some r := by rw [if_pos rfl] at H; exact H
            clear H; have H := H1; clear H1
            by_cases c12 : 0 ≤ x5_1
            · rw [if_pos c12] at H; have c12b0 : decide (0 ≤ x5_1) = true := decide_eq_true c12; clear c12
              by_cases c13 : x5_1 < (l1_1.length : Int)
              · rw [if_pos c13] at H; have c13b0 : decide (x5_1 < (l1_1.length : Int)) = true := decide_eq_true c13; clear c13
                by_cases c14 : (((rd_T74 l1_1 x5_1).f3).length : Int) > 40
                (· rw [if_pos c14] at H; have c14b0 : decide (40 < (((rd_T74 l1_1 x5_1).f3).length : Int)) = true := decide_eq_true c14; have c14b1 : decide (40 < ((rd_T74 l1_1 x5_1).f3).length) = true := decide_eq_true (by omega); clear c14; obtain rfl := Option.some.inj H; have hnb15 := NB319_318.out; have hnc15 := NB318_319.out; have hcz16_0 : wc.cell? ⟨gb319, 0, none⟩ = some (.slice A1_0 l1_0.length c1_0) := (blk_cell BK319.out 0).trans rfl; have hcz16_1 : wc.cell? ⟨gb319, 1, none⟩ = some (.slice A1_1 l1_1.length c1_1) := (blk_cell BK319.out 1).trans rfl; have hcz16_2 : wc.cell? ⟨gb319, 2, none⟩ = some (.slice A1_2 l1_2.length c1_2) := (blk_cell BK319.out 2).trans rfl; have hfz16_0 := blk_frozen BK319.out 0; have hfz16_1 := blk_frozen BK319.out 1; have hfz16_2 := blk_frozen BK319.out 2; have p320 : 0 ≤ (x5_1 : Int) := of_decide_eq_true as_; have q320 : x5_1 < (l1_1.length : Int) := of_decide_eq_true as_; obtain ⟨ad320, A320_0, c320_0, A320_2, c320_2, A320_3, c320_3, A320_4, c320_4, A320_5, c320_5, e320, hx320_0, hx320_1, hx320_2, hx320_3, hx320_4, hx320_5, hl320_0, hi320_0, hl320_2, hi320_2, hl320_3, hi320_3, hl320_4, hi320_4, hl320_5, hi320_5⟩ := at_T74 HR1_1.out x5_1 p320 q320; cases e320; replace hx320_0 := (HB.out.cell (World.block_lt_of_cell? w _ hx320_0)).trans hx320_0; replace hx320_1 := (HB.out.cell (World.block_lt_of_cell? w _ hx320_1)).trans hx320_1; replace hx320_2 := (HB.out.cell (World.block_lt_of_cell? w _ hx320_2)).trans hx320_2; replace hx320_3 := (HB.out.cell (World.block_lt_of_cell? w _ hx320_3)).trans hx320_3; replace hx320_4 := (HB.out.cell (World.block_lt_of_cell? w _ hx320_4)).trans hx320_4; replace hx320_5 := (HB.out.cell (World.block_lt_of_cell? w _ hx320_5)).trans hx320_5; have HR320_0 := Aside0.mk hi320_0; have HC320_0 := Aside0.mk hl320_0; clear hi320_0 hl320_0; have HR320_2 := Aside0.mk hi320_2; have HC320_2 := Aside0.mk hl320_2; clear hi320_2 hl320_2; have HR320_3 := Aside0.mk hi320_3; have HC320_3 := Aside0.mk hl320_3; clear hi320_3 hl320_3; have HR320_4 := Aside0.mk hi320_4; have HC320_4 := Aside0.mk hl320_4; clear hi320_4 hl320_4; have HR320_5 := Aside0.mk hi320_5; have HC320_5 := Aside0.mk hl320_5; clear hi320_5 hl320_5; replace p320 := eq_true p320; replace q320 := eq_true q320; go_wp2; go_ret; exact ⟨by first | rfl | (simp [errW_none, errW_some] <;> rfl) | (simp [*, errW_none, errW_some] <;> rfl), by repeat (first | (with_reducible first | exact HB.out | apply below_alloc | apply pw_below_drewN | apply below_drew1 | refine below_set ?_ GE318.out | refine below_set ?_ GE319.out) | exact HB.out)⟩)
                · rw [if_neg c14] at H; have c14b0 : decide (40 < (((rd_T74 l1_1 x5_1).f3).length : Int)) = false := decide_eq_false c14; have c14b1 : decide (40 < ((rd_T74 l1_1 x5_1).f3).length) = false := decide_eq_false (by omega); clear c14; have H' := Aside0.mk H; clear H; have hnb17 := NB319_318.out; have hnc17 := NB318_319.out; have hcz18_0 : wc.cell? ⟨gb319, 0, none⟩ = some (.slice A1_0 l1_0.length c1_0) := (blk_cell BK319.out 0).trans rfl; have hcz18_1 : wc.cell? ⟨gb319, 1, none⟩ = some (.slice A1_1 l1_1.length c1_1) := (blk_cell BK319.out 1).trans rfl; have hcz18_2 : wc.cell? ⟨gb319, 2, none⟩ = some (.slice A1_2 l1_2.length c1_2) := (blk_cell BK319.out 2).trans rfl; have hfz18_0 := blk_frozen BK319.out 0; have hfz18_1 := blk_frozen BK319.out 1; have hfz18_2 := blk_frozen BK319.out 2; have p320 : 0 ≤ (x5_1 : Int) := of_decide_eq_true as_; have q320 : x5_1 < (l1_1.length : Int) := of_decide_eq_true as_; obtain ⟨ad320, A320_0, c320_0, A320_2, c320_2, A320_3, c320_3, A320_4, c320_4, A320_5, c320_5, e320, hx320_0, hx320_1, hx320_2, hx320_3, hx320_4, hx320_5, hl320_0, hi320_0, hl320_2, hi320_2, hl320_3, hi320_3, hl320_4, hi320_4, hl320_5, hi320_5⟩ := at_T74 HR1_1.out x5_1 p320 q320; cases e320; replace hx320_0 := (HB.out.cell (World.block_lt_of_cell? w _ hx320_0)).trans hx320_0; replace hx320_1 := (HB.out.cell (World.block_lt_of_cell? w _ hx320_1)).trans hx320_1; replace hx320_2 := (HB.out.cell (World.block_lt_of_cell? w _ hx320_2)).trans hx320_2; replace hx320_3 := (HB.out.cell (World.block_lt_of_cell? w _ hx320_3)).trans hx320_3; replace hx320_4 := (HB.out.cell (World.block_lt_of_cell? w _ hx320_4)).trans hx320_4; replace hx320_5 := (HB.out.cell (World.block_lt_of_cell? w _ hx320_5)).trans hx320_5; have HR320_0 := Aside0.mk hi320_0; have HC320_0 := Aside0.mk hl320_0; clear hi320_0 hl320_0; have HR320_2 := Aside0.mk hi320_2; have HC320_2 := Aside0.mk hl320_2; clear hi320_2 hl320_2; have HR320_3 := Aside0.mk hi320_3; have HC320_3 := Aside0.mk hl320_3; clear hi320_3 hl320_3; have HR320_4 := Aside0.mk hi320_4; have HC320_4 := Aside0.mk hl320_4; clear hi320_4 hl320_4; have HR320_5 := Aside0.mk hi320_5; have HC320_5 := Aside0.mk hl320_5; clear hi320_5 hl320_5; replace p320 := eq_true p320; replace q320 := eq_true q320; go_wp2; go_roundg kj4
                  case measure => have := HK1.out; have := HJ4.out; omega
                  case rel => exact ⟨(wrap64 (x5_1 + 1)), rl_, H', ⟨by have := HK1.out; have := HJ4.out; omega⟩, ⟨by (with_reducible repeat (first | refine blk_drewN ?_ _ | refine blk_drew ?_ | refine blk_alloc ?_ _)); exact BK318.out⟩, ⟨by (with_reducible repeat (first | refine blk_drewN ?_ _ | refine blk_drew ?_ | refine blk_alloc ?_ _)); exact BK319.out⟩, ⟨by repeat (first | (with_reducible first | exact HB.out | apply below_alloc | apply pw_below_drewN | apply below_drew1 | refine below_set ?_ GE318.out | refine below_set ?_ GE319.out) | exact HB.out)⟩⟩
              (· rw [if_neg c13] at H; exact absurd H (by simp))
            (· rw [if_neg c12] at H; exact absurd H (by simp))
          · replace c11 := Bool.eq_false_iff.mpr c11; subst c11
            have H1 : (if (l0_3.length : Int) > 40 then (some true) else (if (l1_1.length : Int) > 40 then (some true) else (some (decide ((l1_0.length : Int) > 40))))) = some r := by rw [if_neg (show ¬ (false = true) by decide)] at H; exact H
            clear H; have H := H1; clear H1
            by_cases c19 : (l0_3.length : Int) > 40
            (· rw [if_pos c19] at H; have c19b0 : decide (40 < (l0_3.length : Int)) = true := decide_eq_true c19; have c19b1 : decide (40 < l0_3.length) = true := decide_eq_true (by omega); clear c19; obtain rfl := Option.some.inj H; have hnb20 := NB318_319.out; have hnc20 := NB319_318.out; have hcz21_0 : wc.cell? ⟨gb318, 0, none⟩ = some (.int .u8 a0_0) := (blk_cell BK318.out 0).trans rfl; have hcz21_1 : wc.cell? ⟨gb318, 1, none⟩ = some (.int .i64 a0_1) := (blk_cell BK318.out 1).trans rfl; have hcz21_2 : wc.cell? ⟨gb318, 2, none⟩ = some (.int .i64 a0_2) := (blk_cell BK318.out 2).trans rfl; have hcz21_3 : wc.cell? ⟨gb318, 3, none⟩ = some (.slice A0_3 l0_3.length c0_3) := (blk_cell BK318.out 3).trans rfl; have hfz21_0 := blk_frozen BK318.out 0; have hfz21_1 := blk_frozen BK318.out 1; have hfz21_2 := blk_frozen BK318.out 2; have hfz21_3 := blk_frozen BK318.out 3; go_wp2; go_ret; exact ⟨by first | rfl | (simp [errW_none, errW_some] <;> rfl) | (simp [*, errW_none, errW_some] <;> rfl), by repeat (first | (with_reducible first | exact HB.out | apply below_alloc | apply pw_below_drewN | apply below_drew1 | refine below_set ?_ GE318.out | refine below_set ?_ GE319.out) | exact HB.out)⟩)
            · rw [if_neg c19] at H; have c19b0 : decide (40 < (l0_3.length : Int)) = false := decide_eq_false c19; have c19b1 : decide (40 < l0_3.length) = false := decide_eq_false (by omega); clear c19
              by_cases c22 : (l1_1.length : Int) > 40
              (· rw [if_pos c22] at H; have c22b0 : decide (40 < (l1_1.length : Int)) = true := decide_eq_true c22; have c22b1 : decide (40 < l1_1.length) = true := decide_eq_true (by omega); clear c22; obtain rfl := Option.some.inj H; have hnb23 := NB318_319.out; have hnc23 := NB319_318.out; have hcz24_0 : wc.cell? ⟨gb318, 0, none⟩ = some (.int .u8 a0_0) := (blk_cell BK318.out 0).trans rfl; have hcz24_1 : wc.cell? ⟨gb318, 1, none⟩ = some (.int .i64 a0_1) := (blk_cell BK318.out 1).trans rfl; have hcz24_2 : wc.cell? ⟨gb318, 2, none⟩ = some (.int .i64 a0_2) := (blk_cell BK318.out 2).trans rfl; have hcz24_3 : wc.cell? ⟨gb318, 3, none⟩ = some (.slice A0_3 l0_3.length c0_3) := (blk_cell BK318.out 3).trans rfl; have hfz24_0 := blk_frozen BK318.out 0; have hfz24_1 := blk_frozen BK318.out 1; have hfz24_2 := blk_frozen BK318.out 2; have hfz24_3 := blk_frozen BK318.out 3; have hcz25_0 : wc.cell? ⟨gb319, 0, none⟩ = some (.slice A1_0 l1_0.length c1_0) := (blk_cell BK319.out 0).trans rfl; have hcz25_1 : wc.cell? ⟨gb319, 1, none⟩ = some (.slice A1_1 l1_1.length c1_1) := (blk_cell BK319.out 1).trans rfl; have hcz25_2 : wc.cell? ⟨gb319, 2, none⟩ = some (.slice A1_2 l1_2.length c1_2) := (blk_cell BK319.out 2).trans rfl; have hfz25_0 := blk_frozen BK319.out 0; have hfz25_1 := blk_frozen BK319.out 1; have hfz25_2 := blk_frozen BK319.out 2; go_wp2; go_ret; exact ⟨by first | rfl | (simp [errW_none, errW_some] <;> rfl) | (simp [*, errW_none, errW_some] <;> rfl), by repeat (first | (with_reducible first | exact HB.out | apply below_alloc | apply pw_below_drewN | apply below_drew1 | refine below_set ?_ GE318.out | refine below_set ?_ GE319.out) | exact HB.out)⟩); (· rw [if_neg c22] at H; have c22b0 : decide (40 < (l1_1.length : Int)) = false := decide_eq_false c22; have c22b1 : decide (40 < l1_1.length) = false := decide_eq_false (by omega); clear c22; obtain rfl := Option.some.inj H; have hnb26 := NB318_319.out; have hnc26 := NB319_318.out; have hcz27_0 : wc.cell? ⟨gb318, 0, none⟩ = some (.int .u8 a0_0) := (blk_cell BK318.out 0).trans rfl; have hcz27_1 : wc.cell? ⟨gb318, 1, none⟩ = some (.int .i64 a0_1) := (blk_cell BK318.out 1).trans rfl; have hcz27_2 : wc.cell? ⟨gb318, 2, none⟩ = some (.int .i64 a0_2) := (blk_cell BK318.out 2).trans rfl; have hcz27_3 : wc.cell? ⟨gb318, 3, none⟩ = some (.slice A0_3 l0_3.length c0_3) := (blk_cell BK318.out 3).trans rfl; have hfz27_0 := blk_frozen BK318.out 0; have hfz27_1 := blk_frozen BK318.out 1; have hfz27_2 := blk_frozen BK318.out 2; have hfz27_3 := blk_frozen BK318.out 3; have hcz28_0 : wc.cell? ⟨gb319, 0, none⟩ = some (.slice A1_0 l1_0.length c1_0) := (blk_cell BK319.out 0).trans rfl; have hcz28_1 : wc.cell? ⟨gb319, 1, none⟩ = some (.slice A1_1 l1_1.length c1_1) := (blk_cell BK319.out 1).trans rfl; have hcz28_2 : wc.cell? ⟨gb319, 2, none⟩ = some (.slice A1_2 l1_2.length c1_2) := (blk_cell BK319.out 2).trans rfl; have hfz28_0 := blk_frozen BK319.out 0; have hfz28_1 := blk_frozen BK319.out 1; have hfz28_2 := blk_frozen BK319.out 2; go_wp2; go_ret; exact ⟨by first | rfl | (simp [errW_none, errW_some] <;> rfl) | (simp [*, errW_none, errW_some] <;> rfl), by repeat (first | (with_reducible first | exact HB.out | apply below_alloc | apply pw_below_drewN | apply below_drew1 | refine below_set ?_ GE318.out | refine below_set ?_ GE319.out) | exact HB.out)⟩)

end Go.Proofs.Ytegdcoamafcfeaa.Pr
