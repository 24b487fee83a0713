/- The plain part of AssertSwap: values are 0, 1 or 2; exchanging Winner and Loser turns v into 2 - v; a blank ballot has the value 1. -/
import Derived.Test.YtegdcoamafcfeaaE0
import Derived.Test.YtegdcoamafcfeaaE1
import Derived.Test.YtegdcoamafcfeaaE10
import Derived.Test.YtegdcoamafcfeaaE11
import Derived.Test.YtegdcoamafcfeaaE12
import Derived.Test.YtegdcoamafcfeaaE13
import Derived.Test.YtegdcoamafcfeaaE2
import Derived.Test.YtegdcoamafcfeaaE3
import Derived.Test.YtegdcoamafcfeaaE4
import Derived.Test.YtegdcoamafcfeaaE5
import Derived.Test.YtegdcoamafcfeaaE6
import Derived.Test.YtegdcoamafcfeaaE7
import Derived.Test.YtegdcoamafcfeaaE8
import Derived.Test.YtegdcoamafcfeaaE9
import Derived.Test.YtegdcoamafcfeaaS1
import Derived.Test.YtegdcoamafcfeaaS2
namespace Go.Proofs.Ytegdcoamafcfeaa.Plain
open Go.RowKit Go.Proofs.YtegdcoamafcfeaaW.PrintWords Go.Proofs.Ytegdcoamafcfeaa.Pr
theorem wrap_n {i : Nat} (h : i < 9223372036854775807) : wrap64 ((i : Int) + 1) = ((i + 1 : Nat) : Int) := by
  unfold wrap64
  omega
theorem rd_at (l : List Int) (i : Nat) (h : i < l.length) : rd l (i : Int) = l[i] := by
  simp [rd, List.getD_eq_getElem?_getD, List.getElem?_eq_getElem h]
def idxFrom (x : Int) : List Int → Nat → Int
  | [], _ => -1
  | y :: r, i => if x = y then i else idxFrom x r (i + 1)
theorem index_l0 (l : List Int) (x : Int) (hl : l.length ≤ 9223372036854775807) : ∀ (d i : Nat), i + d = l.length → ∀ k, d < k → slices_Index_int_int.l0 k l x (l.length : Int) (i : Int) = some (idxFrom x (l.drop i) i)
  | 0, i, h, k, hk => by
    obtain ⟨k, rfl⟩ : ∃ m, k = m + 1 := ⟨k - 1, by omega⟩
    simp only [slices_Index_int_int.l0]
    rw [if_neg (by omega), List.drop_of_length_le (by omega)]
    rfl
  | d + 1, i, h, k, hk => by
    obtain ⟨k, rfl⟩ : ∃ m, k = m + 1 := ⟨k - 1, by omega⟩
    have hi : i < l.length := by omega
    simp only [slices_Index_int_int.l0]
    rw [if_pos (by omega), if_pos (by omega), if_pos (by omega), rd_at l i hi, List.drop_eq_getElem_cons hi]
    by_cases hx : x = l[i]
    · rw [if_pos hx, idxFrom, if_pos hx]
    · rw [if_neg hx, idxFrom, if_neg hx, wrap_n (by omega)]
      exact index_l0 l x hl d (i + 1) (by omega) k (by omega)
theorem index_at (l : List Int) (x : Int) (hl : l.length ≤ 9223372036854775807) (k : Nat) (hk : l.length < k) : slices_Index_int_int.f k l x = some (idxFrom x l 0) := index_l0 l x hl l.length 0 (by omega) k hk
def has (l : List Int) (x : Int) : Bool := decide (idxFrom x l 0 ≥ 0)
theorem contains_at (l : List Int) (x : Int) (hl : l.length ≤ 9223372036854775807) (k : Nat) (hk : l.length < k) : slices_Contains_int_int.f k l x = some (has l x) := by
  unfold slices_Contains_int_int.f
  rw [index_at l x hl k hk]
  rfl
def firstIn (left : List Int) : List Int → Int × Bool
  | [] => (0, false)
  | y :: r => if has left y = true then (y, true) else firstIn left r
theorem first_l0 (left l : List Int) (hl : l.length ≤ 9223372036854775807) (hL : left.length ≤ 9223372036854775807) : ∀ (d i : Nat), i + d = l.length → ∀ k, d + left.length + 1 < k → assert_first.l0 k left l (l.length : Int) (i : Int) = some (firstIn left (l.drop i))
  | 0, i, h, k, hk => by
    obtain ⟨k, rfl⟩ : ∃ m, k = m + 1 := ⟨k - 1, by omega⟩
    simp only [assert_first.l0]
    rw [if_neg (by omega), List.drop_of_length_le (by omega)]
    rfl
  | d + 1, i, h, k, hk => by
    obtain ⟨k, rfl⟩ : ∃ m, k = m + 1 := ⟨k - 1, by omega⟩
    have hi : i < l.length := by omega
    simp only [assert_first.l0]
    rw [if_pos (by omega), if_pos (by omega), if_pos (by omega), rd_at l i hi, List.drop_eq_getElem_cons hi, contains_at left _ hL k (by omega), Option.bind_some, firstIn]
    by_cases hx : has left l[i] = true
    · rw [if_pos hx, if_pos hx]
    · rw [if_neg hx, if_neg hx, wrap_n (by omega)]
      exact first_l0 left l hl hL d (i + 1) (by omega) k (by omega)
theorem first_at (l left : List Int) (hl : l.length ≤ 9223372036854775807) (hL : left.length ≤ 9223372036854775807) (k : Nat) (hk : l.length + left.length + 1 < k) : assert_first.f k l left = some (firstIn left l) := first_l0 left l hl hL l.length 0 (by omega) k hk
def side (w l : Bool) : Int := if w = true ∧ l = false then 2 else if l = true ∧ w = false then 0 else 1
theorem side_at (w l : Bool) (k : Nat) (hk : 0 < k) : assert_side.f k w l = some (side w l) := by
  obtain ⟨k, rfl⟩ : ∃ m, k = m + 1 := ⟨k - 1, by omega⟩
  cases w <;> cases l <;> rfl
theorem side_swap (w l : Bool) : side l w = 2 - side w l := by cases w <;> cases l <;> rfl
theorem side_le (w l : Bool) : 0 ≤ side w l ∧ side w l ≤ 2 := by cases w <;> cases l <;> decide
def prefers (l : List Int) (x y : Int) : Bool := if x < 0 ∨ y < 0 then false else if idxFrom x l 0 ≥ 0 then (if idxFrom y l 0 < 0 then true else decide (idxFrom x l 0 < idxFrom y l 0)) else false
theorem prefers_at (l : List Int) (x y : Int) (hl : l.length ≤ 9223372036854775807) (k : Nat) (hk : l.length + 1 < k) : ballot_Prefers.f k 1 l x y = some (prefers l x y) := by
  obtain ⟨k, rfl⟩ : ∃ m, k = m + 1 := ⟨k - 1, by omega⟩
  unfold ballot_Prefers.f prefers
  by_cases hx : x < 0
  · simp [hx, ballot_Prefers.j0]
  · by_cases hy : y < 0
    · simp [hx, hy, ballot_Prefers.j0]
    · have hd : decide (y < 0) = false := by simp [hy]
      rw [if_neg hx, if_neg (by omega), hd]
      simp only [ballot_Prefers.j0, Bool.false_eq_true, if_false, index_at l x hl k (by omega), index_at l y hl k (by omega), Option.bind_some, if_true]
      by_cases h1 : idxFrom x l 0 ≥ 0
      · rw [if_pos h1, if_pos h1]
        by_cases h2 : idxFrom y l 0 < 0
        · rw [if_pos h2, if_pos h2]
        · rw [if_neg h2, if_neg h2]
      · rw [if_neg h1, if_neg h1]
theorem rising_l0 (l : List Int) (c : Int) (hl : l.length ≤ 9223372036854775807) : ∀ (d i : Nat), i + d = l.length → ∃ b, ∀ k, d < k → assert_rising.l0 k l c l (l.length : Int) (i : Int) = some b
  | 0, i, h => ⟨true, fun k hk => by
    obtain ⟨k, rfl⟩ : ∃ m, k = m + 1 := ⟨k - 1, by omega⟩
    simp only [assert_rising.l0]
    rw [if_neg (by omega)]⟩
  | d + 1, i, h => by
    have hi : i < l.length := by omega
    obtain ⟨b, hb⟩ := rising_l0 l c hl d (i + 1) (by omega)
    have his : ∀ a, ∃ q, assert_is.f a c = some q := by
      intro a
      unfold assert_is.f
      split <;> exact ⟨_, rfl⟩
    obtain ⟨q, hq⟩ := his (rd l (i : Int))
    have hw : wrap64 ((i : Int) + 1) = ((i + 1 : Nat) : Int) := wrap_n (by omega)
    by_cases hq1 : q = true
    · by_cases h0 : (i : Int) > 0
      · have hm : wrap64 ((i : Int) - 1) = ((i - 1 : Nat) : Int) := by
          unfold wrap64
          omega
        by_cases hle : rd l (i : Int) ≤ rd l ((i - 1 : Nat) : Int)
        · refine ⟨false, fun k hk => ?_⟩
          obtain ⟨k, rfl⟩ : ∃ m, k = m + 1 := ⟨k - 1, by omega⟩
          simp only [assert_rising.l0]
          rw [if_pos (by omega), if_pos (by omega), if_pos (by omega), hq, Option.bind_some, if_pos hq1, if_pos h0, hm, if_pos (by omega), if_pos (by omega), if_pos hle]
        · refine ⟨b, fun k hk => ?_⟩
          obtain ⟨k, rfl⟩ : ∃ m, k = m + 1 := ⟨k - 1, by omega⟩
          simp only [assert_rising.l0]
          rw [if_pos (by omega), if_pos (by omega), if_pos (by omega), hq, Option.bind_some, if_pos hq1, if_pos h0, hm, if_pos (by omega), if_pos (by omega), if_neg hle, hw]
          exact hb k (by omega)
      · refine ⟨b, fun k hk => ?_⟩
        obtain ⟨k, rfl⟩ : ∃ m, k = m + 1 := ⟨k - 1, by omega⟩
        simp only [assert_rising.l0]
        rw [if_pos (by omega), if_pos (by omega), if_pos (by omega), hq, Option.bind_some, if_pos hq1, if_neg h0, hw]
        exact hb k (by omega)
    · refine ⟨false, fun k hk => ?_⟩
      obtain ⟨k, rfl⟩ : ∃ m, k = m + 1 := ⟨k - 1, by omega⟩
      simp only [assert_rising.l0]
      rw [if_pos (by omega), if_pos (by omega), if_pos (by omega), hq, Option.bind_some, if_neg hq1]
theorem rising_at (l : List Int) (c : Int) (hl : l.length ≤ 9223372036854775807) : ∃ b, ∀ k, l.length < k → assert_rising.f k l c = some b := rising_l0 l c hl l.length 0 (by omega)
def isC (a c : Int) : Bool := decide (0 ≤ a ∧ a < c)
theorem is_at (a c : Int) : assert_is.f a c = some (isC a c) := by
  unfold assert_is.f isC
  by_cases h : a ≥ 0
  · rw [if_pos h]
    congr 1
    simp [h]
  · rw [if_neg h]
    congr 1
    simp
    omega
def fineB (b : Bool) (a0 a1 a2 : Int) (l : List Int) (c : Int) : Bool :=
  isC a1 c && isC a2 c && b && (if a0 = 1 ∨ a0 = 2 ∨ a0 = 3 then decide (a1 ≠ a2) && decide ((l.length : Int) = 0) else if a0 = 4 then decide (a1 ≠ a2) && has l a1 && has l a2 else if a0 = 5 then decide (a2 = 0) && has l a1 && decide ((l.length : Int) > 1) else false)
theorem fine_at (a0 a1 a2 : Int) (l : List Int) (c : Int) (hl : l.length ≤ 9223372036854775807) (b : Bool) (hb : ∀ k, l.length < k → assert_rising.f k l c = some b) (k : Nat) (hk : l.length + 2 < k) : assert_fine.f k a0 a1 a2 l c = some (fineB b a0 a1 a2 l c) := by
  obtain ⟨k, rfl⟩ : ∃ m, k = m + 2 := ⟨k - 2, by omega⟩
  unfold assert_fine.f fineB
  rw [is_at, is_at, hb _ (by omega)]
  cases h1 : isC a1 c <;> cases h2 : isC a2 c <;> cases b <;> simp only [Option.bind_some, Bool.false_eq_true, if_false, if_true, assert_fine.j0, Bool.false_and, Bool.and_false, Bool.true_and, Bool.not_true, Bool.not_false]
  have e : ∀ m : Int, m ≠ a0 → (a0 == m) = false := fun m h => by simp; exact fun e => h e.symm
  have hj : ∀ (q : Int) (x : Bool), assert_fine.j1 (k + 1) a0 x a0 a1 a2 l = if x = true then (if a1 = a2 then some false else some ((l.length : Int) == 0)) else some (if a0 = 4 then decide (a1 ≠ a2) && has l a1 && has l a2 else if a0 = 5 then decide (a2 = 0) && has l a1 && decide ((l.length : Int) > 1) else false) := by
    intro q x
    simp only [assert_fine.j1, contains_at l a1 hl k (by omega), contains_at l a2 hl k (by omega), Option.bind_some]
    cases x
    · simp only [Bool.false_eq_true, if_false]
      by_cases h4 : a0 = 4
      · rw [if_pos h4, if_pos h4]
        by_cases h : a1 = a2
        · simp [h]
        · rw [if_neg h]
          cases has l a1 <;> simp [h]
      · rw [if_neg h4, if_neg h4]
        by_cases h5 : a0 = 5
        · rw [if_pos h5, if_pos h5]
          by_cases h : a2 = 0
          · rw [if_pos h]
            cases has l a1 <;> simp [h]
          · rw [if_neg h]
            simp [h]
        · rw [if_neg h5, if_neg h5]
    · simp only [if_true]
  have ht : ∀ x : Bool, x = decide (a0 = 1 ∨ a0 = 2 ∨ a0 = 3) → assert_fine.j1 (k + 1) a0 x a0 a1 a2 l = some (if a0 = 1 ∨ a0 = 2 ∨ a0 = 3 then decide (a1 ≠ a2) && decide ((l.length : Int) = 0) else if a0 = 4 then decide (a1 ≠ a2) && has l a1 && has l a2 else if a0 = 5 then decide (a2 = 0) && has l a1 && decide ((l.length : Int) > 1) else false) := by
    rintro x rfl
    rw [hj 0]
    by_cases hc : a0 = 1 ∨ a0 = 2 ∨ a0 = 3
    · rw [if_pos hc]
      simp only [hc, decide_true, if_true]
      by_cases h : a1 = a2
      · simp [h]
      · rw [if_neg h]
        simp only [ne_eq, h, not_false_eq_true, decide_true, Bool.true_and]
        rfl
    · rw [if_neg hc]
      simp only [hc, decide_false, Bool.false_eq_true, if_false]
  by_cases c1 : a0 = 1
  · rw [if_pos c1]
    exact ht _ (by simp [c1])
  · rw [if_neg c1]
    by_cases c2 : a0 = 2
    · rw [if_pos c2]
      exact ht _ (by simp [c2])
    · rw [if_neg c2]
      exact ht _ (by simp [c1, c2]; rfl)
theorem fineB_swap (b : Bool) (a0 a1 a2 : Int) (l : List Int) (c : Int) (h5 : a0 ≠ 5) : fineB b a0 a2 a1 l c = fineB b a0 a1 a2 l c := by
  unfold fineB
  rw [show decide (a2 ≠ a1) = decide (a1 ≠ a2) by simp [eq_comm], Bool.and_comm (isC a2 c), if_neg h5, if_neg h5, Bool.and_assoc (decide (a1 ≠ a2)), Bool.and_comm (has l a2), ← Bool.and_assoc (decide (a1 ≠ a2))]
def checkV (b : Bool) (a0 a1 a2 : Int) (l : List Int) (c : Int) : Int := if c < 1 ∨ c > 10 then 2 else if fineB b a0 a1 a2 l c = true then 0 else 8
theorem check_at (a0 a1 a2 : Int) (l : List Int) (c : Int) (hl : l.length ≤ 9223372036854775807) (b : Bool) (hb : ∀ k, l.length < k → assert_rising.f k l c = some b) (k : Nat) (hk : l.length + 3 < k) : assert_Check.f k a0 a1 a2 l c = some (checkV b a0 a1 a2 l c) := by
  obtain ⟨k, rfl⟩ : ∃ m, k = m + 1 := ⟨k - 1, by omega⟩
  unfold assert_Check.f checkV
  by_cases h1 : c < 1
  · rw [if_pos h1, if_pos (.inl h1)]
    rfl
  · rw [if_neg h1]
    by_cases h2 : c > 10
    · rw [if_pos (.inr h2)]
      simp [h2, assert_Check.j0]
    · rw [if_neg (by omega)]
      simp only [h2, decide_false, assert_Check.j0, Bool.false_eq_true, if_false, fine_at a0 a1 a2 l c hl b hb k (by omega), Option.bind_some]
      split <;> rfl
theorem less_at (a b : Int) : cmp_Less_int.f a b = some (decide (a < b)) := by
  unfold cmp_Less_int.f cmp_isNaN_int.f
  simp
theorem sorted_l0 (l : List Int) (hl : l.length ≤ 9223372036854775807) : ∀ (i : Nat), i < l.length → ∃ b, ∀ k, i < k → slices_IsSorted_int_int.l0 k l (i : Int) = some b
  | 0, h => ⟨true, fun k hk => by
    obtain ⟨k, rfl⟩ : ∃ m, k = m + 1 := ⟨k - 1, by omega⟩
    simp [slices_IsSorted_int_int.l0]⟩
  | i + 1, h => by
    obtain ⟨b, hb⟩ := sorted_l0 l hl i (by omega)
    have hm : wrap64 (((i + 1 : Nat) : Int) - 1) = (i : Int) := by
      unfold wrap64
      omega
    by_cases hd : rd l ((i + 1 : Nat) : Int) < rd l (i : Int)
    · refine ⟨false, fun k hk => ?_⟩
      obtain ⟨k, rfl⟩ : ∃ m, k = m + 1 := ⟨k - 1, by omega⟩
      simp only [slices_IsSorted_int_int.l0]
      rw [if_pos (by omega), if_pos (by omega), if_pos (by omega), hm, if_pos (by omega), if_pos (by omega), less_at, Option.bind_some, if_pos (by simpa using hd)]
    · refine ⟨b, fun k hk => ?_⟩
      obtain ⟨k, rfl⟩ : ∃ m, k = m + 1 := ⟨k - 1, by omega⟩
      simp only [slices_IsSorted_int_int.l0]
      rw [if_pos (by omega), if_pos (by omega), if_pos (by omega), hm, if_pos (by omega), if_pos (by omega), less_at, Option.bind_some, if_neg (by simpa using hd)]
      exact hb k (by omega)
theorem sorted_at (l : List Int) (hl : l.length ≤ 9223372036854775807) : ∃ b, ∀ k, l.length < k → slices_IsSorted_int_int.f k l = some b := by
  unfold slices_IsSorted_int_int.f
  cases l with
  | nil => exact ⟨true, fun k hk => by
      obtain ⟨k, rfl⟩ : ∃ m, k = m + 1 := ⟨k - 1, by omega⟩
      have hm : wrap64 ((([] : List Int).length : Int) - 1) = -1 := by
        unfold wrap64
        simp
      rw [hm]
      simp only [slices_IsSorted_int_int.l0]
      rw [if_neg (by omega)]⟩
  | cons x r =>
    obtain ⟨b, hb⟩ := sorted_l0 (x :: r) hl r.length (by simp)
    refine ⟨b, fun k hk => ?_⟩
    have hm : wrap64 (((x :: r).length : Int) - 1) = (r.length : Int) := by
      simp only [List.length_cons] at hl ⊢
      unfold wrap64
      omega
    rw [hm]
    exact hb k (by simp at hk; omega)
theorem within_at (a b c : Int) : ∃ q, ballot_within.f a b c = some q ∧ (q = true → b ≤ a ∧ a < c) := by
  unfold ballot_within.f
  split
  · exact ⟨_, rfl, fun h => ⟨by assumption, by simpa using h⟩⟩
  · exact ⟨_, rfl, fun h => by cases h⟩
theorem bcheck_at (b0 : Int) (l : List Int) (c : Int) (hl : l.length ≤ 9223372036854775807) : ∃ e, ∀ k, l.length < k → ballot_Check.f k b0 l c = some e := by
  obtain ⟨q, hq, hq1⟩ := within_at c 1 11
  obtain ⟨s, hs⟩ := sorted_at l hl
  unfold ballot_Check.f
  rw [hq]
  cases q with
  | false => exact ⟨2, fun k _ => rfl⟩
  | true =>
    have hc := hq1 rfl
    have hf : ∃ f, ∀ k, l.length < k → ballot_fine.f k b0 l c = some f := by
      unfold ballot_fine.f
      by_cases h3 : b0 = 3
      · exact ⟨_, fun k _ => by rw [if_pos h3]⟩
      · by_cases hi : inRange l c = false
        · exact ⟨false, fun k _ => by rw [if_neg h3, if_pos hi]⟩
        · by_cases h2 : b0 = 2
          · refine ⟨if s = true then noDup l else false, fun k hk => ?_⟩
            rw [if_neg h3, if_neg hi, if_neg (by omega), if_pos h2, hs k hk, Option.bind_some]
            split <;> rfl
          · by_cases h1 : b0 = 1
            · exact ⟨noDup l, fun k _ => by rw [if_neg h3, if_neg hi, if_neg (by omega), if_neg h2, if_pos h1]⟩
            · exact ⟨false, fun k _ => by rw [if_neg h3, if_neg hi, if_neg (by omega), if_neg h2, if_neg h1]⟩
    obtain ⟨f, hf⟩ := hf
    refine ⟨if f = true then 0 else 8, fun k hk => ?_⟩
    simp only [Option.bind_some, if_true, hf k hk]
    split <;> rfl
/-- A ballot's worth, of kind q, where the assertion is fine. -/
def worth (a0 a1 a2 : Int) (left l : List Int) : Int :=
  if a0 = 1 then (if (l.length : Int) = 1 then side (rd l 0 == a1) (rd l 0 == a2) else side false false)
  else if a0 = 2 then side (has l a1) (has l a2)
  else if a0 = 3 then side (prefers l a1 a2) (prefers l a2 a1)
  else if a0 = 4 then (if (firstIn left l).2 = true then side ((firstIn left l).1 == a1) ((firstIn left l).1 == a2) else side false false)
  else if (firstIn left l).2 = true then side ((firstIn left l).1 == a1) ((firstIn left l).1 != a1) else side false false
theorem worth_swap (a0 a1 a2 : Int) (left l : List Int) (h5 : a0 = 1 ∨ a0 = 2 ∨ a0 = 3 ∨ a0 = 4) : worth a0 a2 a1 left l = 2 - worth a0 a1 a2 left l := by
  unfold worth
  rcases h5 with rfl | rfl | rfl | rfl
  · simp only [if_true]
    split
    · exact side_swap _ _
    · rfl
  · exact side_swap _ _
  · exact side_swap _ _
  · simp only [Int.reduceEq, if_false, if_true]
    split
    · exact side_swap _ _
    · rfl
theorem worth_le (a0 a1 a2 : Int) (left l : List Int) : 0 ≤ worth a0 a1 a2 left l ∧ worth a0 a1 a2 left l ≤ 2 := by
  unfold worth
  repeat' split
  all_goals exact side_le _ _
theorem worth_nil (a0 a1 a2 : Int) (left : List Int) : worth a0 a1 a2 left [] = 1 := by
  have h : ∀ x, has [] x = false := fun x => rfl
  have p : ∀ x y, prefers [] x y = false := by
    intro x y
    unfold prefers
    split <;> rfl
  unfold worth
  rw [h, h, p, p]
  simp [side, firstIn]
theorem worth_at (a0 a1 a2 : Int) (left l : List Int) (hl : l.length ≤ 9223372036854775807) (hL : left.length ≤ 9223372036854775807) (b0 : Int) (hb0 : a0 = 3 → b0 = 1) (hk0 : 1 ≤ a0 ∧ a0 ≤ 5) (k : Nat) (hk : l.length + left.length + 1 < k) :
    assert_worth.f k a0 a1 a2 left b0 l = some (worth a0 a1 a2 left l) := by
  unfold assert_worth.f worth
  by_cases h1 : a0 = 1
  · rw [if_pos h1, if_pos h1, side_at _ _ k (by omega), side_at _ _ k (by omega)]
    split <;> rfl
  · rw [if_neg h1, if_neg h1]
    by_cases h2 : a0 = 2
    · rw [if_pos h2, if_pos h2, contains_at l a1 hl k (by omega), Option.bind_some, contains_at l a2 hl k (by omega), Option.bind_some, side_at _ _ k (by omega)]
    · rw [if_neg h2, if_neg h2]
      by_cases h3 : a0 = 3
      · rw [if_pos h3, if_pos h3, hb0 h3, prefers_at l a1 a2 hl k (by omega), Option.bind_some, prefers_at l a2 a1 hl k (by omega), Option.bind_some, side_at _ _ k (by omega)]
      · rw [if_neg h3, if_neg h3]
        by_cases h4 : a0 = 4
        · rw [if_pos h4, if_pos h4, first_at l left hl hL k (by omega), Option.bind_some, side_at _ _ k (by omega), side_at _ _ k (by omega)]
          split <;> rfl
        · rw [if_neg h4, if_neg h4, if_pos (by omega), first_at l left hl hL k (by omega), Option.bind_some, side_at _ _ k (by omega), side_at _ _ k (by omega)]
          split <;> rfl
/-- Value, for both orders of winner and loser. -/
theorem value_at (a0 a1 a2 : Int) (left : List Int) (b0 : Int) (l : List Int) (c : Int) (hl : l.length ≤ 9223372036854775807) (hL : left.length ≤ 9223372036854775807) :
    ∃ v e, (∀ k, l.length + left.length + 10 < k → assert_Value.f k a0 a1 a2 left b0 l c = some (v, e)) ∧ (e ≠ 0 → v = 0) ∧
      (e = 0 → 0 ≤ v ∧ v ≤ 2 ∧ (l = [] → v = 1) ∧ (a0 ≠ 5 → ∀ k, l.length + left.length + 10 < k → assert_Value.f k a0 a2 a1 left b0 l c = some (2 - v, 0))) := by
  obtain ⟨b, hb⟩ := rising_at left c hL
  obtain ⟨q, hq⟩ := bcheck_at b0 l c hl
  have hkind : assert_kind.f a0 a1 a2 left = some (if a0 = 1 then 2 else if a0 = 2 then 2 else 1) := by
    unfold assert_kind.f
    repeat' split
    all_goals rfl
  have hkind2 : assert_kind.f a0 a2 a1 left = some (if a0 = 1 then 2 else if a0 = 2 then 2 else 1) := by
    unfold assert_kind.f
    repeat' split
    all_goals rfl
  by_cases h1 : checkV b a0 a1 a2 left c = 0
  · have hfine : fineB b a0 a1 a2 left c = true := by
      unfold checkV at h1
      by_cases hc : c < 1 ∨ c > 10
      · rw [if_pos hc] at h1; cases h1
      · rw [if_neg hc] at h1
        by_cases hf : fineB b a0 a1 a2 left c = true
        · exact hf
        · rw [if_neg hf] at h1; cases h1
    have ha0 : 1 ≤ a0 ∧ a0 ≤ 5 := by
      unfold fineB at hfine
      by_cases z1 : a0 = 1 ∨ a0 = 2 ∨ a0 = 3
      · omega
      · by_cases z4 : a0 = 4
        · omega
        · by_cases z5 : a0 = 5
          · omega
          · rw [if_neg z1, if_neg z4, if_neg z5, Bool.and_false] at hfine
            cases hfine
    by_cases h2 : q = 0
    · by_cases h3 : b0 = (if a0 = 1 then 2 else if a0 = 2 then 2 else 1)
      · refine ⟨worth a0 a1 a2 left l, 0, fun k hk => ?_, fun h => absurd rfl h, fun _ => ⟨(worth_le a0 a1 a2 left l).1, (worth_le a0 a1 a2 left l).2, fun h => by rw [h]; exact worth_nil a0 a1 a2 left, fun h5 k hk => ?_⟩⟩
        · unfold assert_Value.f
          rw [check_at a0 a1 a2 left c hL b hb k (by omega), Option.bind_some, if_pos h1, hq k (by omega), Option.bind_some, if_pos h2, hkind, Option.bind_some, if_pos h3, worth_at a0 a1 a2 left l hl hL b0 (fun e => by rw [h3, e]; rfl) ha0 k (by omega)]
          rfl
        · have h1' : checkV b a0 a2 a1 left c = 0 := by
            unfold checkV at h1 ⊢
            rw [fineB_swap b a0 a1 a2 left c h5]
            exact h1
          unfold assert_Value.f
          rw [check_at a0 a2 a1 left c hL b hb k (by omega), Option.bind_some, if_pos h1', hq k (by omega), Option.bind_some, if_pos h2, hkind2, Option.bind_some, if_pos h3, worth_at a0 a2 a1 left l hl hL b0 (fun e => by rw [h3, e]; rfl) ha0 k (by omega), worth_swap a0 a1 a2 left l (by omega)]
          rfl
      · refine ⟨0, 8, fun k hk => ?_, fun _ => rfl, fun h => by cases h⟩
        unfold assert_Value.f
        rw [check_at a0 a1 a2 left c hL b hb k (by omega), Option.bind_some, if_pos h1, hq k (by omega), Option.bind_some, if_pos h2, hkind, Option.bind_some, if_neg h3]
    · refine ⟨0, 8, fun k hk => ?_, fun _ => rfl, fun h => by cases h⟩
      unfold assert_Value.f
      rw [check_at a0 a1 a2 left c hL b hb k (by omega), Option.bind_some, if_pos h1, hq k (by omega), Option.bind_some, if_neg h2]
  · refine ⟨0, checkV b a0 a1 a2 left c, fun k hk => ?_, fun _ => rfl, fun h => absurd h h1⟩
    unfold assert_Value.f
    rw [check_at a0 a1 a2 left c hL b hb k (by omega), Option.bind_some, if_neg h1]
theorem AssertSwap (a0 a1 a2 : Int) (left : List Int) (b0 : Int) (l : List Int) (c : Int) (hl : l.length ≤ 9223372036854775807) (hL : left.length ≤ 9223372036854775807) :
    ∃ k, suffragelaw41_AssertSwap.f k a0 a1 a2 left b0 l c = some true := by
  obtain ⟨v, e, hv, he, h0⟩ := value_at a0 a1 a2 left b0 l c hl hL
  refine ⟨l.length + left.length + 20, ?_⟩
  generalize hK : l.length + left.length + 17 = K at *
  rw [show l.length + left.length + 20 = K + 3 by omega]
  unfold suffragelaw41_AssertSwap.f
  have hG : ∃ g, suffrageref41_Great.f (K + 3) a0 a1 a2 left [] [] [] = some g := by
    unfold suffrageref41_Great.f
    simp only [suffrageref41_Great.l0]
    rw [if_neg (by simp)]
    simp only [suffrageref41_Great.j1, Bool.false_eq_true, if_false]
    repeat' split
    all_goals exact ⟨_, rfl⟩
  obtain ⟨g, hG⟩ := hG
  rw [hG, Option.bind_some]
  have hE : suffragelaw41_AssertExamples.f = some true := rfl
  have hj : ∀ g, suffragelaw41_AssertSwap.j0 (K + 3) c g a0 a1 a2 left b0 l = some true := by
    intro g
    simp only [suffragelaw41_AssertSwap.j0, hE, Option.bind_some]
    cases g with
    | true => rfl
    | false =>
      simp only [Bool.false_eq_true, if_false]
      rw [hv (K + 2) (by omega), Option.bind_some]
      by_cases h1 : e = 0
      · obtain ⟨p1, p2, p3, p4⟩ := h0 h1
        rw [if_pos h1, if_neg (by simp only; omega), if_neg (by simp only; omega)]
        have hj1 : suffragelaw41_AssertSwap.j1 (K + 2) c v false a0 a1 a2 left b0 l = some true := by
          simp only [suffragelaw41_AssertSwap.j1, hE, Option.bind_some, Bool.false_eq_true, if_false]
          by_cases h5 : a0 = 5
          · rw [if_pos h5]
          · have hw : wrap64 (2 - v) = 2 - v := by
              unfold wrap64
              omega
            rw [if_neg h5, p4 h5 (K + 1) (by omega), Option.bind_some, if_pos rfl, hw, if_pos rfl]
        by_cases h2 : (l.length : Int) = 0
        · have hl0 : l = [] := List.eq_nil_of_length_eq_zero (by omega)
          have hv1 := p3 hl0
          rw [if_pos h2]
          have : ((v != 1) = false) := by simp [hv1]
          simp only [this]
          exact hj1
        · rw [if_neg h2]
          exact hj1
      · rw [if_neg h1, if_pos (he h1)]
  cases g with
  | true => rw [if_pos rfl]; exact hj true
  | false =>
    rw [if_neg (by simp)]
    unfold suffrageref08_Great.f
    rw [Option.bind_some]
    exact hj _
end Go.Proofs.Ytegdcoamafcfeaa.Plain
