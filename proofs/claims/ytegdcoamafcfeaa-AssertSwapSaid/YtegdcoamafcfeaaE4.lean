-- Written by a program of this session (the kit's print, many functions in one namespace). Not trusted: Lean checks it.
import Derived.Test.YtegdcoamafcfeaaE0
import Derived.Test.YtegdcoamafcfeaaE1
import Derived.Test.YtegdcoamafcfeaaE3
namespace Go.Proofs.Ytegdcoamafcfeaa.Pr
open Go.RowKit Go.Proofs.YtegdcoamafcfeaaW.PrintWords Go.Proofs.YtegdcoamafcfeaaW.PrintLast
set_option linter.unusedVariables false
set_option linter.unusedSimpArgs false
/-! ### ballot_fine: function 36 (by hand) -/
def seenArr (l : List Int) : Array Value := ((List.range 10).map fun (j : Nat) => Value.bool (l.contains (j : Int))).toArray
theorem seenArr_nil : seenArr [] = #[.bool false, .bool false, .bool false, .bool false, .bool false, .bool false, .bool false, .bool false, .bool false, .bool false] := rfl
theorem seenArr_size (l : List Int) : (seenArr l).size = 10 := by simp [seenArr]
theorem seenArr_get (l : List Int) (m : Nat) (h : m < 10) : (seenArr l)[m]? = some (.bool (l.contains (m : Int))) := by
  simp [seenArr, List.getElem?_range h]
theorem seenArr_set (l : List Int) (m : Nat) : (seenArr l).setIfInBounds m (.bool true) = seenArr (l ++ [(m : Int)]) := by
  apply Array.ext
  · simp [seenArr]
  · intro j h1 h2
    have hj : j < 10 := by simpa [seenArr] using h2
    rw [Array.getElem_setIfInBounds (by simpa [seenArr] using hj)]
    by_cases e : m = j
    · subst e; simp [seenArr]
    · rw [if_neg e]
      have : ¬ ((j : Int) = (m : Int)) := by omega
      simp [seenArr, this]
/-- What the marks of a ballot must be: whole numbers from 0 to below n. -/
def inRange (l : List Int) (n : Int) : Bool := l.all fun m => decide (0 ≤ m ∧ m < n)
theorem inRange_take (l : List Int) (n : Int) (k : Nat) (h : k < l.length) : inRange (l.take (k + 1)) n = (inRange (l.take k) n && decide (0 ≤ rd l k ∧ rd l k < n)) := by
  have e : rd l k = l[k] := by simp [rd, List.getD_eq_getElem?_getD, List.getElem?_eq_getElem h]
  rw [e, inRange, inRange, List.take_succ_eq_append_getElem h, List.all_append]
  simp
theorem inRange_false (l : List Int) (n : Int) (k : Nat) (h : k < l.length) (hb : ¬ (0 ≤ rd l k ∧ rd l k < n)) : inRange l n = false := by
  have e : rd l k = l[k] := by simp [rd, List.getD_eq_getElem?_getD, List.getElem?_eq_getElem h]
  rw [inRange, List.all_eq_false]
  exact ⟨l[k], List.getElem_mem h, by rw [e] at hb; simpa using hb⟩
theorem inRange_at (l : List Int) (n : Int) (k : Nat) (h : k < l.length) (hi : inRange l n = true) : 0 ≤ rd l k ∧ rd l k < n := by
  by_cases hb : 0 ≤ rd l k ∧ rd l k < n
  · exact hb
  · rw [inRange_false l n k h hb] at hi; cases hi
def noDup : List Int → Bool
  | [] => true
  | x :: r => !(r.contains x) && noDup r
theorem noDup_snoc (l : List Int) (x : Int) : noDup (l ++ [x]) = (noDup l && !(l.contains x)) := by
  induction l with
  | nil => simp [noDup]
  | cons y r ih =>
    simp only [List.cons_append, noDup, ih, List.contains_cons, List.contains_append]
    by_cases h : y = x
    · subst h; simp [Bool.and_comm]
    · have h' : (x == y) = false := by simpa using fun e => h e.symm
      have h2 : (y == x) = false := by simpa using h
      rw [h', h2]
      cases r.contains y <;> cases r.contains x <;> cases noDup r <;> rfl
theorem noDup_pre (l r : List Int) (h : noDup l = false) : noDup (l ++ r) = false := by
  induction l with
  | nil => simp [noDup] at h
  | cons y t ih =>
    simp only [List.cons_append, noDup, Bool.and_eq_false_iff, Bool.not_eq_false'] at h ⊢
    rcases h with h | h
    · left; rw [List.contains_append, h]; rfl
    · right; exact ih h
def ballot_fine.f (k : Nat) (a0_0 : Int) (l0_1 : List Int) (a1 : Int) : Option (Bool) :=
  if a0_0 = 3 then some (inRange l0_1 11 && decide ((l0_1.length : Int) = a1))
  else if inRange l0_1 a1 = false then some false
  else if 10 < a1 then none
  else if a0_0 = 2 then (slices_IsSorted_int_int.f k l0_1).bind fun s => if s = true then some (noDup l0_1) else some false
  else if a0_0 = 1 then some (noDup l0_1)
  else some false
theorem ballot_fine.mono : ∀ a0 a1 a2 k, LeO (ballot_fine.f k a0 a1 a2) (ballot_fine.f (k + 1) a0 a1 a2) := by
  intro a0 a1 a2 k
  unfold ballot_fine.f
  repeat' first
      | (with_reducible exact slices_IsSorted_int_int.mono _ _)
      | (with_reducible exact LeO.refl _)
      | (with_reducible refine LeO.ite ?_ ?_)
      | (with_reducible refine LeO.bind ?_ (fun _ => ?_))

/-- The second loop's state: the block of the array, after k marks. -/
theorem ballot_fine.seen_step {W : World} {b : Nat} {l : List Int} {k : Nat} (h : W.heap[b]? = some (.cells (seenArr (l.take k)) 92 (0, 0))) (hk : k < l.length) (h0 : 0 ≤ rd l k) :
    (W.setCell ⟨b, (rd l k).toNat, none⟩ (.bool true)).heap[b]? = some (.cells (seenArr (l.take (k + 1))) 92 (0, 0)) := by
  rw [blk_set h, seenArr_set, take_rd l k hk, Int.toNat_of_nonneg h0]
set_option maxHeartbeats 8000000 in
set_option maxRecDepth 100000 in
/-- A score ballot. -/
theorem ballot_fine.score (A0_1 : Option Addr) (c0_1 : Nat) (l0_1 : List Int) (a1 : Int) (w : World) (hr0_1 : Kd.C (Kd.int .i64) w A0_1 l0_1.length l0_1) :
    Calls Try.prog 36 #[.agg #[.int .u8 3, .slice A0_1 l0_1.length c0_1], .int .i64 a1] w fun e w' => e = .returned (.bool (inRange l0_1 11 && decide ((l0_1.length : Int) = a1))) ∧ Below w.heap.size w w' := by
  have hm := Kd.C_max hr0_1
  have HR := Aside0.mk hr0_1
  clear hr0_1
  go_enter Try.func36, Try.ntmps36
  go_wp2_with (first | go_in)
  go_loop [13] (fun i => ∃ k : Nat, k ≤ l0_1.length ∧ inRange (l0_1.take k) 11 = true ∧ i = .int .i64 k) (fun i => l0_1.length - (intOf i).toNat)
  case atStart => exact ⟨0, Nat.zero_le _, rfl, rfl⟩
  case round =>
    obtain ⟨k, hk, hi, rfl⟩ := hrel
    have HI := Aside0.mk hi
    clear hi
    by_cases hlt : k < l0_1.length
    · obtain ⟨ad, e1, hx⟩ := Kd.at_int HR.out k (by omega) (by omega)
      cases e1
      have hx' : (w.alloc (.cells #[.int .u8 3, .slice (some ad) l0_1.length c0_1] 26)).cell? (ad.add k) = some (.int .i64 (rd l0_1 k)) := pw_cell_below (below_alloc (Below.refl _ _) _) hx
      by_cases h0 : 0 ≤ rd l0_1 k
      · by_cases h1 : rd l0_1 k < 11
        · have h1' : decide (rd l0_1 k < 11) = true := decide_eq_true h1
          go_wp2_with (first | go_in)
          go_round
          case rel => exact ⟨k + 1, by omega, by rw [inRange_take _ _ _ hlt, HI.out, decide_eq_true ⟨h0, h1⟩]; rfl, by go_num⟩
          case measure => simp [intOf]; omega
        · have h1' : decide (rd l0_1 k < 11) = false := decide_eq_false h1
          go_wp2_with (first | go_in)
          go_ret
          exact ⟨ret_bool (by rw [inRange_false _ _ k hlt (fun z => by omega)]; rfl), below_box _⟩
      · go_wp2_with (first | go_in)
        go_ret
        exact ⟨ret_bool (by rw [inRange_false _ _ k hlt (fun z => by omega)]; rfl), below_box _⟩
    · go_wp2_with (first | go_in)
      go_ret
      have hk' : k = l0_1.length := by omega
      refine ⟨ret_bool ?_, below_box _⟩
      have := HI.out
      rw [hk', List.take_length] at this
      rw [this]
      by_cases e : (l0_1.length : Int) = a1 <;> simp [e]
set_option maxHeartbeats 8000000 in
set_option maxRecDepth 100000 in
/-- A ranking or a set of marks, out of range, or of no known kind. -/
theorem ballot_fine.first_loop (a0_0 : Int) (A0_1 : Option Addr) (c0_1 : Nat) (l0_1 : List Int) (a1 : Int) (w : World) (hr0_1 : Kd.C (Kd.int .i64) w A0_1 l0_1.length l0_1) (c3 : ¬ a0_0 = 3) (hb : inRange l0_1 a1 = false ∨ ¬ (a0_0 = 1 ∨ a0_0 = 2)) :
    Calls Try.prog 36 #[.agg #[.int .u8 a0_0, .slice A0_1 l0_1.length c0_1], .int .i64 a1] w fun e w' => e = .returned (.bool false) ∧ Below w.heap.size w w' := by
  have hm := Kd.C_max hr0_1
  have HR := Aside0.mk hr0_1
  clear hr0_1
  have c3b : (a0_0 == 3) = false := beq_eq_false_iff_ne.mpr c3
  have c3c : (a0_0 != 3) = true := bne_iff_ne.mpr c3
  have HB := Aside0.mk hb
  clear hb c3
  go_enter Try.func36, Try.ntmps36
  go_wp2_with (first | go_in)
  go_loop [13] (fun i => ∃ k : Nat, k ≤ l0_1.length ∧ inRange (l0_1.take k) a1 = true ∧ i = .int .i64 k) (fun i => l0_1.length - (intOf i).toNat)
  case atStart => exact ⟨0, Nat.zero_le _, rfl, rfl⟩
  case round =>
    obtain ⟨k, hk, hi, rfl⟩ := hrel
    have HI := Aside0.mk hi
    clear hi
    by_cases hlt : k < l0_1.length
    · obtain ⟨ad, e1, hx⟩ := Kd.at_int HR.out k (by omega) (by omega)
      cases e1
      have hx' : (w.alloc (.cells #[.int .u8 a0_0, .slice (some ad) l0_1.length c0_1] 26)).cell? (ad.add k) = some (.int .i64 (rd l0_1 k)) := pw_cell_below (below_alloc (Below.refl _ _) _) hx
      by_cases h0 : 0 ≤ rd l0_1 k
      · by_cases h1 : rd l0_1 k < a1
        · have h1' : decide (rd l0_1 k < a1) = true := decide_eq_true h1
          go_wp2_with (first | go_in)
          go_round
          case rel => exact ⟨k + 1, by omega, by rw [inRange_take _ _ _ hlt, HI.out, decide_eq_true ⟨h0, h1⟩]; rfl, by go_num⟩
          case measure => simp [intOf]; omega
        · have h1' : decide (rd l0_1 k < a1) = false := decide_eq_false h1
          go_wp2_with (first | go_in)
          go_ret
          exact ⟨rfl, below_box _⟩
      · go_wp2_with (first | go_in)
        go_ret
        exact ⟨rfl, below_box _⟩
    · have hk' : k = l0_1.length := by omega
      have hin := HI.out
      rw [hk', List.take_length] at hin
      have h12 : ¬ (a0_0 = 1 ∨ a0_0 = 2) := by
        rcases HB.out with h | h
        · rw [hin] at h; cases h
        · exact h
      have c2b : (a0_0 == 2) = false := beq_eq_false_iff_ne.mpr (fun e => h12 (.inr e))
      have c1b : (a0_0 == 1) = false := beq_eq_false_iff_ne.mpr (fun e => h12 (.inl e))
      clear hin h12 hk'
      go_wp2_with (first | go_in)
      go_ret
      exact ⟨rfl, below_box _⟩
set_option maxHeartbeats 8000000 in
set_option maxRecDepth 100000 in
/-- A ranking in range. -/
theorem ballot_fine.rank (A0_1 : Option Addr) (c0_1 : Nat) (l0_1 : List Int) (a1 : Int) (w : World) (hr0_1 : Kd.C (Kd.int .i64) w A0_1 l0_1.length l0_1) (hc0_1 : l0_1.length ≤ c0_1) (hin : inRange l0_1 a1 = true) (h10 : a1 ≤ 10) :
    Calls Try.prog 36 #[.agg #[.int .u8 1, .slice A0_1 l0_1.length c0_1], .int .i64 a1] w fun e w' => e = .returned (.bool (noDup l0_1)) ∧ Below w.heap.size w w' := by
  have hm := Kd.C_max hr0_1
  have HR := Aside0.mk hr0_1
  have HC := Aside0.mk hc0_1
  have HIN := Aside0.mk hin
  clear hr0_1 hc0_1 hin
  go_enter Try.func36, Try.ntmps36
  go_wp2_with (first | go_in)
  go_loop [13] (fun i => ∃ k : Nat, k ≤ l0_1.length ∧ i = .int .i64 k) (fun i => l0_1.length - (intOf i).toNat)
  case atStart => exact ⟨0, Nat.zero_le _, rfl⟩
  case round =>
    obtain ⟨k, hk, rfl⟩ := hrel
    by_cases hlt : k < l0_1.length
    · obtain ⟨ad, e1, hx⟩ := Kd.at_int HR.out k (by omega) (by omega)
      cases e1
      have hx' : (w.alloc (.cells #[.int .u8 1, .slice (some ad) l0_1.length c0_1] 26)).cell? (ad.add k) = some (.int .i64 (rd l0_1 k)) := pw_cell_below (below_alloc (Below.refl _ _) _) hx
      have h01 := inRange_at l0_1 a1 k hlt HIN.out
      have h0 := h01.1
      have h1' : decide (rd l0_1 k < a1) = true := decide_eq_true h01.2
      clear h01
      go_wp2_with (first | go_in)
      go_round
      case rel => exact ⟨k + 1, by omega, by go_num⟩
      case measure => simp [intOf]; omega
    · go_wp2_with (first | go_in)
      go_loopw [57] (fun i wr => ∃ k : Nat, k ≤ l0_1.length ∧ noDup (l0_1.take k) = true ∧ i = .int .i64 k ∧ wr.heap[w.heap.size + 1]? = some (.cells (seenArr (l0_1.take k)) 92 (0, 0)) ∧ Below w.heap.size w wr) (fun i _ => l0_1.length - (intOf i).toNat)
      case atStart =>
        refine ⟨0, Nat.zero_le _, rfl, rfl, ?_, ?_⟩
        · rw [List.take_zero, seenArr_nil]
          exact heap_new_at (by simp) _
        · exact below_alloc (by repeat (first | exact Below.refl _ _ | apply below_alloc | apply pw_below_drewN)) _
      case round =>
        obtain ⟨k, hk, hnd, rfl, hblk, hbel⟩ := hrel
        have HND := Aside0.mk hnd
        have HBLK := Aside0.mk hblk
        have HBEL := Aside0.mk hbel
        by_cases hlt : k < l0_1.length
        · obtain ⟨ad, e1, hx⟩ := Kd.at_int (Kd.C_below HR.out hbel) k (by omega) (by omega)
          cases e1
          have hx' : wr.cell? (ad.add k) = some (.int .i64 (rd l0_1 k)) := hx
          have h01 := inRange_at l0_1 a1 k hlt HIN.out
          have h0 := h01.1
          have h1 : rd l0_1 k < 10 := by omega
          have hs := seenArr_get (l0_1.take k) (rd l0_1 k).toNat (by omega)
          rw [Int.toNat_of_nonneg h0] at hs
          have hcell := (blk_cell hblk (rd l0_1 k).toNat).trans hs
          have hfz := blk_frozen hblk (rd l0_1 k).toNat
          clear h01 hs hnd hblk hbel
          by_cases hc : (l0_1.take k).contains (rd l0_1 k) = true
          · rw [hc] at hcell
            have HCC := Aside0.mk hc
            clear hc
            go_wp2_with (first | go_in)
            go_ret
            refine ⟨ret_bool ?_, HBEL.out⟩
            have := noDup_pre (l0_1.take (k + 1)) (l0_1.drop (k + 1)) (by rw [take_rd _ _ hlt, noDup_snoc, HCC.out]; simp)
            rw [List.take_append_drop] at this
            exact this.symm
          · rw [Bool.not_eq_true] at hc
            rw [hc] at hcell
            have HCC := Aside0.mk hc
            clear hc
            go_wp2_with (first | go_in)
            go_roundw
            case rel => exact ⟨k + 1, by omega, by rw [take_rd _ _ hlt, noDup_snoc, HND.out, HCC.out]; rfl, by go_num, ballot_fine.seen_step HBLK.out hlt h0, HBEL.out.setCell (by simp) _⟩
            case measure => simp [intOf]; omega
        · clear hnd hblk hbel
          go_wp2_with (first | go_in)
          go_ret
          have hk' : k = l0_1.length := by omega
          have := HND.out
          rw [hk', List.take_length] at this
          exact ⟨ret_bool this.symm, HBEL.out⟩
set_option maxHeartbeats 8000000 in
set_option maxRecDepth 100000 in
/-- A sorted set of marks in range. -/
theorem ballot_fine.mark (k0 : Nat) (A0_1 : Option Addr) (c0_1 : Nat) (l0_1 : List Int) (a1 : Int) (w : World) (hr0_1 : Kd.C (Kd.int .i64) w A0_1 l0_1.length l0_1) (hc0_1 : l0_1.length ≤ c0_1) (hin : inRange l0_1 a1 = true) (h10 : a1 ≤ 10) (hs : slices_IsSorted_int_int.f k0 l0_1 = some true) :
    Calls Try.prog 36 #[.agg #[.int .u8 2, .slice A0_1 l0_1.length c0_1], .int .i64 a1] w fun e w' => e = .returned (.bool (noDup l0_1)) ∧ Below w.heap.size w w' := by
  have hm := Kd.C_max hr0_1
  have HR := Aside0.mk hr0_1
  have HC := Aside0.mk hc0_1
  have HIN := Aside0.mk hin
  clear hr0_1 hc0_1 hin
  have HS := Aside0.mk hs
  clear hs
  go_enter Try.func36, Try.ntmps36
  go_wp2_with (first | go_in)
  go_loop [13] (fun i => ∃ k : Nat, k ≤ l0_1.length ∧ i = .int .i64 k) (fun i => l0_1.length - (intOf i).toNat)
  case atStart => exact ⟨0, Nat.zero_le _, rfl⟩
  case round =>
    obtain ⟨k, hk, rfl⟩ := hrel
    by_cases hlt : k < l0_1.length
    · obtain ⟨ad, e1, hx⟩ := Kd.at_int HR.out k (by omega) (by omega)
      cases e1
      have hx' : (w.alloc (.cells #[.int .u8 2, .slice (some ad) l0_1.length c0_1] 26)).cell? (ad.add k) = some (.int .i64 (rd l0_1 k)) := pw_cell_below (below_alloc (Below.refl _ _) _) hx
      have h01 := inRange_at l0_1 a1 k hlt HIN.out
      have h0 := h01.1
      have h1' : decide (rd l0_1 k < a1) = true := decide_eq_true h01.2
      clear h01
      go_wp2_with (first | go_in)
      go_round
      case rel => exact ⟨k + 1, by omega, by go_num⟩
      case measure => simp [intOf]; omega
    · go_wp2_with (first | (go_at_call 57; refine (slices_IsSorted_int_int.calls k0 _ _ l0_1 true _ ?side1 ?side2 HS.out).mono ?_; (case side1 => exact Kd.C_alloc HR.out _); (case side2 => exact HC.out); rintro e w' ⟨rfl, ⟨nd, rfl⟩⟩) | go_in)
      go_loopw [57] (fun i wr => ∃ k : Nat, k ≤ l0_1.length ∧ noDup (l0_1.take k) = true ∧ i = .int .i64 k ∧ wr.heap[w.heap.size + 1]? = some (.cells (seenArr (l0_1.take k)) 92 (0, 0)) ∧ Below w.heap.size w wr) (fun i _ => l0_1.length - (intOf i).toNat)
      case atStart =>
        refine ⟨0, Nat.zero_le _, rfl, rfl, ?_, ?_⟩
        · rw [List.take_zero, seenArr_nil]
          exact heap_new_at (by simp) _
        · exact below_alloc (by repeat (first | exact Below.refl _ _ | apply below_alloc | apply pw_below_drewN)) _
      case round =>
        obtain ⟨k, hk, hnd, rfl, hblk, hbel⟩ := hrel
        have HND := Aside0.mk hnd
        have HBLK := Aside0.mk hblk
        have HBEL := Aside0.mk hbel
        by_cases hlt : k < l0_1.length
        · obtain ⟨ad, e1, hx⟩ := Kd.at_int (Kd.C_below HR.out hbel) k (by omega) (by omega)
          cases e1
          have hx' : wr.cell? (ad.add k) = some (.int .i64 (rd l0_1 k)) := hx
          have h01 := inRange_at l0_1 a1 k hlt HIN.out
          have h0 := h01.1
          have h1 : rd l0_1 k < 10 := by omega
          have hs := seenArr_get (l0_1.take k) (rd l0_1 k).toNat (by omega)
          rw [Int.toNat_of_nonneg h0] at hs
          have hcell := (blk_cell hblk (rd l0_1 k).toNat).trans hs
          have hfz := blk_frozen hblk (rd l0_1 k).toNat
          clear h01 hs hnd hblk hbel
          by_cases hc : (l0_1.take k).contains (rd l0_1 k) = true
          · rw [hc] at hcell
            have HCC := Aside0.mk hc
            clear hc
            go_wp2_with (first | go_in)
            go_ret
            refine ⟨ret_bool ?_, HBEL.out⟩
            have := noDup_pre (l0_1.take (k + 1)) (l0_1.drop (k + 1)) (by rw [take_rd _ _ hlt, noDup_snoc, HCC.out]; simp)
            rw [List.take_append_drop] at this
            exact this.symm
          · rw [Bool.not_eq_true] at hc
            rw [hc] at hcell
            have HCC := Aside0.mk hc
            clear hc
            go_wp2_with (first | go_in)
            go_roundw
            case rel => exact ⟨k + 1, by omega, by rw [take_rd _ _ hlt, noDup_snoc, HND.out, HCC.out]; rfl, by go_num, ballot_fine.seen_step HBLK.out hlt h0, HBEL.out.setCell (by simp) _⟩
            case measure => simp [intOf]; omega
        · clear hnd hblk hbel
          go_wp2_with (first | go_in)
          go_ret
          have hk' : k = l0_1.length := by omega
          have := HND.out
          rw [hk', List.take_length] at this
          exact ⟨ret_bool this.symm, HBEL.out⟩
set_option maxHeartbeats 8000000 in
set_option maxRecDepth 100000 in
/-- A set of marks in range that isn't sorted. -/
theorem ballot_fine.unsorted (k0 : Nat) (A0_1 : Option Addr) (c0_1 : Nat) (l0_1 : List Int) (a1 : Int) (w : World) (hr0_1 : Kd.C (Kd.int .i64) w A0_1 l0_1.length l0_1) (hc0_1 : l0_1.length ≤ c0_1) (hin : inRange l0_1 a1 = true) (hs : slices_IsSorted_int_int.f k0 l0_1 = some false) :
    Calls Try.prog 36 #[.agg #[.int .u8 2, .slice A0_1 l0_1.length c0_1], .int .i64 a1] w fun e w' => e = .returned (.bool false) ∧ Below w.heap.size w w' := by
  have hm := Kd.C_max hr0_1
  have HR := Aside0.mk hr0_1
  have HC := Aside0.mk hc0_1
  have HIN := Aside0.mk hin
  have HS := Aside0.mk hs
  clear hr0_1 hc0_1 hin hs
  go_enter Try.func36, Try.ntmps36
  go_wp2_with (first | go_in)
  go_loop [13] (fun i => ∃ k : Nat, k ≤ l0_1.length ∧ i = .int .i64 k) (fun i => l0_1.length - (intOf i).toNat)
  case atStart => exact ⟨0, Nat.zero_le _, rfl⟩
  case round =>
    obtain ⟨k, hk, rfl⟩ := hrel
    by_cases hlt : k < l0_1.length
    · obtain ⟨ad, e1, hx⟩ := Kd.at_int HR.out k (by omega) (by omega)
      cases e1
      have hx' : (w.alloc (.cells #[.int .u8 2, .slice (some ad) l0_1.length c0_1] 26)).cell? (ad.add k) = some (.int .i64 (rd l0_1 k)) := pw_cell_below (below_alloc (Below.refl _ _) _) hx
      have h01 := inRange_at l0_1 a1 k hlt HIN.out
      have h0 := h01.1
      have h1' : decide (rd l0_1 k < a1) = true := decide_eq_true h01.2
      clear h01
      go_wp2_with (first | go_in)
      go_round
      case rel => exact ⟨k + 1, by omega, by go_num⟩
      case measure => simp [intOf]; omega
    · go_wp2_with (first | (go_at_call 57; refine (slices_IsSorted_int_int.calls k0 _ _ l0_1 false _ ?side1 ?side2 HS.out).mono ?_; (case side1 => exact Kd.C_alloc HR.out _); (case side2 => exact HC.out); rintro e w' ⟨rfl, ⟨nd, rfl⟩⟩) | go_in)
      go_ret
      exact ⟨rfl, by repeat (first | exact Below.refl _ _ | apply below_alloc | apply pw_below_drewN)⟩
theorem ballot_fine.calls (k : Nat) (a0_0 : Int) (A0_1 : Option Addr) (c0_1 : Nat) (l0_1 : List Int) (a1 : Int) (r : Bool) (w : World) (hr0_1 : Kd.C (Kd.int .i64) w A0_1 l0_1.length l0_1) (hc0_1 : l0_1.length ≤ c0_1) (h : ballot_fine.f k a0_0 l0_1 a1 = some r) :
    Calls Try.prog 36 #[.agg #[.int .u8 a0_0, .slice A0_1 l0_1.length c0_1], .int .i64 a1] w fun e w' => e = .returned (.bool r) ∧ Below w.heap.size w w' := by
  unfold ballot_fine.f at h
  by_cases c3 : a0_0 = 3
  · rw [if_pos c3] at h
    obtain rfl := Option.some.inj h
    subst c3
    exact ballot_fine.score A0_1 c0_1 l0_1 a1 w hr0_1
  · rw [if_neg c3] at h
    by_cases ci : inRange l0_1 a1 = false
    · rw [if_pos ci] at h
      obtain rfl := Option.some.inj h
      exact ballot_fine.first_loop a0_0 A0_1 c0_1 l0_1 a1 w hr0_1 c3 (.inl ci)
    · rw [if_neg ci] at h
      have hin : inRange l0_1 a1 = true := by simpa using ci
      by_cases c10 : 10 < a1
      · rw [if_pos c10] at h; cases h
      · rw [if_neg c10] at h
        by_cases c2 : a0_0 = 2
        · rw [if_pos c2] at h
          subst c2
          obtain ⟨s, hs, h⟩ := Option.bind_eq_some_iff.mp h
          cases s
          · rw [if_neg (by simp)] at h
            obtain rfl := Option.some.inj h
            exact ballot_fine.unsorted k A0_1 c0_1 l0_1 a1 w hr0_1 hc0_1 hin hs
          · rw [if_pos rfl] at h
            obtain rfl := Option.some.inj h
            exact ballot_fine.mark k A0_1 c0_1 l0_1 a1 w hr0_1 hc0_1 hin (by omega) hs
        · rw [if_neg c2] at h
          by_cases c1 : a0_0 = 1
          · rw [if_pos c1] at h
            obtain rfl := Option.some.inj h
            subst c1
            exact ballot_fine.rank A0_1 c0_1 l0_1 a1 w hr0_1 hc0_1 hin (by omega)
          · rw [if_neg c1] at h
            obtain rfl := Option.some.inj h
            exact ballot_fine.first_loop a0_0 A0_1 c0_1 l0_1 a1 w hr0_1 c3 (.inr (by omega))
/-! ### ballot_Check: function 18 -/
def ballot_Check.f (k : Nat) (a0_0 : Int) (l0_1 : List Int) (a1 : Int) : Option (Int) := (ballot_within.f a1 1 11).bind fun t129 => (if t129 = true then ((ballot_fine.f k a0_0 l0_1 a1).bind fun t130 => (if t130 = true then (some 0) else (some 8))) else (some 2))
theorem ballot_Check.mono : ∀ a0 a1 a2 k, LeO (ballot_Check.f k a0 a1 a2) (ballot_Check.f (k + 1) a0 a1 a2) := by
  intro a0 a1 a2 k; unfold ballot_Check.f
  repeat' first
      | (with_reducible exact ballot_fine.mono _ _ _ _)
      | (with_reducible exact LeO.refl _)
      | (with_reducible exact LeO.none _)
      | (with_reducible refine LeO.ite ?_ ?_)
      | (with_reducible refine LeO.bind ?_ (fun _ => ?_))
      | exact ballot_fine.mono _ _ _ _
      | exact LeO.none _
      | refine LeO.ite ?_ ?_
      | refine LeO.bind ?_ (fun _ => ?_)
set_option maxHeartbeats 8000000 in
set_option maxRecDepth 100000 in
theorem ballot_Check.calls (k : Nat) (a0_0 : Int) (A0_1 : Option Addr) (c0_1 : Nat) (l0_1 : List Int) (a1 : Int) (r : Int) (w : World) (hr0_1 : Kd.C (Kd.int .i64) w A0_1 l0_1.length l0_1) (hc0_1 : l0_1.length ≤ c0_1) (h : ballot_Check.f k a0_0 l0_1 a1 = some r) :
    Calls Try.prog 18 #[.agg #[.int .u8 a0_0, .slice A0_1 l0_1.length c0_1], .int .i64 a1] w fun e w' => e = .returned (.int .i64 r) ∧ Below w.heap.size w w' := by
  have hu26 := Try.underlying26; have HR0_1 := Aside0.mk hr0_1; have HC0_1 := Aside0.mk hc0_1; clear hr0_1 hc0_1; have HB := Aside0.mk (Below.refl w.heap.size w); have H : ((ballot_within.f a1 1 11).bind fun t129 => (if t129 = true then ((ballot_fine.f k a0_0 l0_1 a1).bind fun t130 => (if t130 = true then (some 0) else (some 8))) else (some 2))) = some r := h; clear h; replace H := Option.bind_eq_some_iff.mp H; obtain ⟨t129, A30, H⟩ := H; replace H : (if t129 = true then ((ballot_fine.f k a0_0 l0_1 a1).bind fun t130 => (if t130 = true then (some 0) else (some 8))) else (some 2)) = some r := H; have A3 := Aside0.mk A30; clear A30
  by_cases c4 : t129 = true
  · subst c4
    have H1 : ((ballot_fine.f k a0_0 l0_1 a1).bind fun t130 => (if t130 = true then (some 0) else (some 8))) = some r := by rw [if_pos rfl] at H; exact H
    clear H; have H := H1; clear H1; replace H := Option.bind_eq_some_iff.mp H; obtain ⟨t130, A50, H⟩ := H; replace H : (if t130 = true then (some 0) else (some 8)) = some r := H; have A5 := Aside0.mk A50; clear A50
    by_cases c6 : t130 = true
    · subst c6
      have H1 : (some 0) = some r := by rw [if_pos rfl] at H; exact H
      clear H; have H := H1; clear H1; obtain rfl := Option.some.inj H
      go_enter Try.func18, Try.ntmps18
      go_wp2_with (first | ((with_reducible refine gate_dst (N := 2) rfl ?_); refine box_event ?hg (N := 2) ?hd (cs := #[.int .u8 a0_0, .slice A0_1 l0_1.length c0_1]) (t := 26) ?hr ?_; (case hd => rfl); (case hg => rfl); (case hr => first | (go_simp; done) | (go_simp; rfl)); intro gb128 hg w7 hbox hb; have n0_ := Aside0.mk (below_step (by repeat (first | (with_reducible first | exact HB.out | apply below_alloc | apply pw_below_drewN | apply below_drew1) | exact HB.out)) hb); have n1_ := Aside0.mk (hbox); have n2_ := Aside0.mk ((by rw [hg]; exact (below_size (by repeat (first | (with_reducible first | exact HB.out | apply below_alloc | apply pw_below_drewN | apply below_drew1) | exact HB.out))) : w.heap.size ≤ gb128)); have n3_ := Aside0.mk ((by rw [hg]; exact (below_size (by repeat (first | (with_reducible first | exact HB.out | apply below_alloc | apply pw_below_drewN | apply below_drew1) | exact HB.out))) : w.heap.size ≤ gb128)); clear HB; have HB := n0_; have BK128 := n1_; have GW128 := n2_; have GE128 := n3_; clear n0_ n1_ n2_ n3_; clear hb hbox hg) | ((with_reducible refine gate_callee (f := 35) rfl ?_); refine goesL_ (some 6) rfl rfl Try.func35 (by kernel_rfl) rfl #[.int .i64 a1, .int .i64 1, .int .i64 11] rfl (by (try simp only [List.map_toArray, List.map_cons, List.map_nil]); first | done | rfl | (simp only [List.length_drop, List.length_take]; rfl)) ?_; (with_reducible refine (ballot_within.calls a1 1 11 true _ A3.out).mono ?_); rintro e w' ⟨rfl, ⟨nd, rfl⟩⟩; refine ⟨_, rfl, ?_⟩; have hcz8_0 : w7.cell? ⟨gb128, 0, none⟩ = some (.int .u8 a0_0) := (blk_cell BK128.out 0).trans rfl; have hcz8_1 : w7.cell? ⟨gb128, 1, none⟩ = some (.slice A0_1 l0_1.length c0_1) := (blk_cell BK128.out 1).trans rfl; have hfz8_0 := blk_frozen BK128.out 0; have hfz8_1 := blk_frozen BK128.out 1) | ((with_reducible refine gate_callee (f := 36) rfl ?_); refine goesL_ (some 10) rfl rfl Try.func36 (by kernel_rfl) rfl #[.agg #[.int .u8 a0_0, .slice A0_1 l0_1.length c0_1], .int .i64 a1] rfl (by (try simp only [List.map_toArray, List.map_cons, List.map_nil]); first | done | rfl | (simp only [List.length_drop, List.length_take]; rfl)) ?_; (with_reducible refine (ballot_fine.calls k a0_0 _ _ l0_1 a1 true _ ?side1 ?side2 A5.out).mono ?_); (case side1 => repeat (first | exact (Kd.C_below HR0_1.out (by repeat (first | (with_reducible first | exact HB.out | apply below_alloc | apply pw_below_drewN | apply below_drew1 | refine below_set ?_ GE128.out) | exact HB.out))) | (with_reducible refine Kd.C_alloc ?_ _) | (with_reducible refine Kd.C_drewN ?_ _) | (with_reducible refine Kd.C_drew ?_))); (case side2 => exact HC0_1.out); rintro e w9 ⟨rfl, hb⟩; refine ⟨_, rfl, ?_⟩; have n0_ := Aside0.mk (blk_below (g := gb128) (o := .cells #[.int .u8 a0_0, .slice A0_1 l0_1.length c0_1] 26 (0, 0)) (by (with_reducible repeat (first | refine blk_drewN ?_ _ | refine blk_drew ?_ | refine blk_alloc ?_ _)); exact BK128.out) hb); have n1_ := Aside0.mk (below_step (by repeat (first | (with_reducible first | exact HB.out | apply below_alloc | apply pw_below_drewN | apply below_drew1 | refine below_set ?_ GE128.out) | exact HB.out)) hb); clear BK128; clear HB; have BK128 := n0_; have HB := n1_; clear n0_ n1_; (try clear hb); (try clear hb2); (try clear hk); (try clear hi))); go_ret; exact ⟨by first | rfl | (simp [errW_none, errW_some] <;> rfl) | (simp [*, errW_none, errW_some] <;> rfl), by repeat (first | (with_reducible first | exact HB.out | apply below_alloc | apply pw_below_drewN | apply below_drew1 | refine below_set ?_ GE128.out) | exact HB.out)⟩
    · replace c6 := Bool.eq_false_iff.mpr c6; subst c6
      have H1 : (some 8) = some r := by rw [if_neg (show ¬ (false = true) by decide)] at H; exact H
      clear H; have H := H1; clear H1; obtain rfl := Option.some.inj H
      go_enter Try.func18, Try.ntmps18
      go_wp2_with (first | ((with_reducible refine gate_dst (N := 2) rfl ?_); refine box_event ?hg (N := 2) ?hd (cs := #[.int .u8 a0_0, .slice A0_1 l0_1.length c0_1]) (t := 26) ?hr ?_; (case hd => rfl); (case hg => rfl); (case hr => first | (go_simp; done) | (go_simp; rfl)); intro gb128 hg w10 hbox hb; have n0_ := Aside0.mk (below_step (by repeat (first | (with_reducible first | exact HB.out | apply below_alloc | apply pw_below_drewN | apply below_drew1) | exact HB.out)) hb); have n1_ := Aside0.mk (hbox); have n2_ := Aside0.mk ((by rw [hg]; exact (below_size (by repeat (first | (with_reducible first | exact HB.out | apply below_alloc | apply pw_below_drewN | apply below_drew1) | exact HB.out))) : w.heap.size ≤ gb128)); have n3_ := Aside0.mk ((by rw [hg]; exact (below_size (by repeat (first | (with_reducible first | exact HB.out | apply below_alloc | apply pw_below_drewN | apply below_drew1) | exact HB.out))) : w.heap.size ≤ gb128)); clear HB; have HB := n0_; have BK128 := n1_; have GW128 := n2_; have GE128 := n3_; clear n0_ n1_ n2_ n3_; clear hb hbox hg) | ((with_reducible refine gate_callee (f := 35) rfl ?_); refine goesL_ (some 6) rfl rfl Try.func35 (by kernel_rfl) rfl #[.int .i64 a1, .int .i64 1, .int .i64 11] rfl (by (try simp only [List.map_toArray, List.map_cons, List.map_nil]); first | done | rfl | (simp only [List.length_drop, List.length_take]; rfl)) ?_; (with_reducible refine (ballot_within.calls a1 1 11 true _ A3.out).mono ?_); rintro e w' ⟨rfl, ⟨nd, rfl⟩⟩; refine ⟨_, rfl, ?_⟩; have hcz11_0 : w10.cell? ⟨gb128, 0, none⟩ = some (.int .u8 a0_0) := (blk_cell BK128.out 0).trans rfl; have hcz11_1 : w10.cell? ⟨gb128, 1, none⟩ = some (.slice A0_1 l0_1.length c0_1) := (blk_cell BK128.out 1).trans rfl; have hfz11_0 := blk_frozen BK128.out 0; have hfz11_1 := blk_frozen BK128.out 1) | ((with_reducible refine gate_callee (f := 36) rfl ?_); refine goesL_ (some 10) rfl rfl Try.func36 (by kernel_rfl) rfl #[.agg #[.int .u8 a0_0, .slice A0_1 l0_1.length c0_1], .int .i64 a1] rfl (by (try simp only [List.map_toArray, List.map_cons, List.map_nil]); first | done | rfl | (simp only [List.length_drop, List.length_take]; rfl)) ?_; (with_reducible refine (ballot_fine.calls k a0_0 _ _ l0_1 a1 false _ ?side1 ?side2 A5.out).mono ?_); (case side1 => repeat (first | exact (Kd.C_below HR0_1.out (by repeat (first | (with_reducible first | exact HB.out | apply below_alloc | apply pw_below_drewN | apply below_drew1 | refine below_set ?_ GE128.out) | exact HB.out))) | (with_reducible refine Kd.C_alloc ?_ _) | (with_reducible refine Kd.C_drewN ?_ _) | (with_reducible refine Kd.C_drew ?_))); (case side2 => exact HC0_1.out); rintro e w12 ⟨rfl, hb⟩; refine ⟨_, rfl, ?_⟩; have n0_ := Aside0.mk (blk_below (g := gb128) (o := .cells #[.int .u8 a0_0, .slice A0_1 l0_1.length c0_1] 26 (0, 0)) (by (with_reducible repeat (first | refine blk_drewN ?_ _ | refine blk_drew ?_ | refine blk_alloc ?_ _)); exact BK128.out) hb); have n1_ := Aside0.mk (below_step (by repeat (first | (with_reducible first | exact HB.out | apply below_alloc | apply pw_below_drewN | apply below_drew1 | refine below_set ?_ GE128.out) | exact HB.out)) hb); clear BK128; clear HB; have BK128 := n0_; have HB := n1_; clear n0_ n1_; (try clear hb); (try clear hb2); (try clear hk); (try clear hi))); go_ret; exact ⟨by first | rfl | (simp [errW_none, errW_some] <;> rfl) | (simp [*, errW_none, errW_some] <;> rfl), by repeat (first | (with_reducible first | exact HB.out | apply below_alloc | apply pw_below_drewN | apply below_drew1 | refine below_set ?_ GE128.out) | exact HB.out)⟩
  · replace c4 := Bool.eq_false_iff.mpr c4; subst c4
    have H1 : (some 2) = some r := by rw [if_neg (show ¬ (false = true) by decide)] at H; exact H
    clear H; have H := H1; clear H1; obtain rfl := Option.some.inj H
    go_enter Try.func18, Try.ntmps18
    go_wp2_with (first | ((with_reducible refine gate_dst (N := 2) rfl ?_); refine box_event ?hg (N := 2) ?hd (cs := #[.int .u8 a0_0, .slice A0_1 l0_1.length c0_1]) (t := 26) ?hr ?_; (case hd => rfl); (case hg => rfl); (case hr => first | (go_simp; done) | (go_simp; rfl)); intro gb128 hg w13 hbox hb; have n0_ := Aside0.mk (below_step (by repeat (first | (with_reducible first | exact HB.out | apply below_alloc | apply pw_below_drewN | apply below_drew1) | exact HB.out)) hb); have n1_ := Aside0.mk (hbox); have n2_ := Aside0.mk ((by rw [hg]; exact (below_size (by repeat (first | (with_reducible first | exact HB.out | apply below_alloc | apply pw_below_drewN | apply below_drew1) | exact HB.out))) : w.heap.size ≤ gb128)); have n3_ := Aside0.mk ((by rw [hg]; exact (below_size (by repeat (first | (with_reducible first | exact HB.out | apply below_alloc | apply pw_below_drewN | apply below_drew1) | exact HB.out))) : w.heap.size ≤ gb128)); clear HB; have HB := n0_; have BK128 := n1_; have GW128 := n2_; have GE128 := n3_; clear n0_ n1_ n2_ n3_; clear hb hbox hg) | ((with_reducible refine gate_callee (f := 35) rfl ?_); refine goesL_ (some 6) rfl rfl Try.func35 (by kernel_rfl) rfl #[.int .i64 a1, .int .i64 1, .int .i64 11] rfl (by (try simp only [List.map_toArray, List.map_cons, List.map_nil]); first | done | rfl | (simp only [List.length_drop, List.length_take]; rfl)) ?_; (with_reducible refine (ballot_within.calls a1 1 11 false _ A3.out).mono ?_); rintro e w' ⟨rfl, ⟨nd, rfl⟩⟩; refine ⟨_, rfl, ?_⟩)); go_ret; exact ⟨by first | rfl | (simp [errW_none, errW_some] <;> rfl) | (simp [*, errW_none, errW_some] <;> rfl), by repeat (first | (with_reducible first | exact HB.out | apply below_alloc | apply pw_below_drewN | apply below_drew1 | refine below_set ?_ GE128.out) | exact HB.out)⟩
/-! ### assert_kind: function 19 -/
def assert_kind.f (a0_0 : Int) (a0_1 : Int) (a0_2 : Int) (l0_3 : List Int) : Option (Int) := if a0_0 = 1 then (some 2) else (if a0_0 = 2 then (some 2) else (some 1))
set_option maxHeartbeats 8000000 in
set_option maxRecDepth 100000 in
theorem assert_kind.calls (a0_0 : Int) (a0_1 : Int) (a0_2 : Int) (A0_3 : Option Addr) (c0_3 : Nat) (l0_3 : List Int) (r : Int) (w : World) (hr0_3 : Kd.C (Kd.int .i64) w A0_3 l0_3.length l0_3) (hc0_3 : l0_3.length ≤ c0_3) (h : assert_kind.f a0_0 a0_1 a0_2 l0_3 = some r) :
    Calls Try.prog 19 #[.agg #[.int .u8 a0_0, .int .i64 a0_1, .int .i64 a0_2, .slice A0_3 l0_3.length c0_3]] w fun e w' => e = .returned (.int .u8 r) ∧ Below w.heap.size w w' := by
  have hu24 := Try.underlying24; have HR0_3 := Aside0.mk hr0_3; have HC0_3 := Aside0.mk hc0_3; clear hr0_3 hc0_3; have HB := Aside0.mk (Below.refl w.heap.size w); have H : (if a0_0 = 1 then (some 2) else (if a0_0 = 2 then (some 2) else (some 1))) = some r := h; clear h
  by_cases c2 : a0_0 = 1
  · rw [if_pos c2] at H; have c2b0 : (a0_0 == 1) = true := beq_iff_eq.mpr c2; have c2b1 : (a0_0 != 1) = false := bne_eq_false_iff_eq.mpr c2; clear c2; obtain rfl := Option.some.inj H
    go_enter Try.func19, Try.ntmps19
    go_wp2_with (first | ((with_reducible refine gate_dst (N := 1) rfl ?_); refine box_event ?hg (N := 1) ?hd (cs := #[.int .u8 a0_0, .int .i64 a0_1, .int .i64 a0_2, .slice A0_3 l0_3.length c0_3]) (t := 24) ?hr ?_; (case hd => rfl); (case hg => rfl); (case hr => first | (go_simp; done) | (go_simp; rfl)); intro gb131 hg w3 hbox hb; have n0_ := Aside0.mk (below_step (by repeat (first | (with_reducible first | exact HB.out | apply below_alloc | apply pw_below_drewN | apply below_drew1) | exact HB.out)) hb); have n1_ := Aside0.mk (hbox); have n2_ := Aside0.mk ((by rw [hg]; exact (below_size (by repeat (first | (with_reducible first | exact HB.out | apply below_alloc | apply pw_below_drewN | apply below_drew1) | exact HB.out))) : w.heap.size ≤ gb131)); have n3_ := Aside0.mk ((by rw [hg]; exact (below_size (by repeat (first | (with_reducible first | exact HB.out | apply below_alloc | apply pw_below_drewN | apply below_drew1) | exact HB.out))) : w.heap.size ≤ gb131)); clear HB; have HB := n0_; have BK131 := n1_; have GW131 := n2_; have GE131 := n3_; clear n0_ n1_ n2_ n3_; clear hb hbox hg; have hcz4_0 : w3.cell? ⟨gb131, 0, none⟩ = some (.int .u8 a0_0) := (blk_cell BK131.out 0).trans rfl; have hcz4_1 : w3.cell? ⟨gb131, 1, none⟩ = some (.int .i64 a0_1) := (blk_cell BK131.out 1).trans rfl; have hcz4_2 : w3.cell? ⟨gb131, 2, none⟩ = some (.int .i64 a0_2) := (blk_cell BK131.out 2).trans rfl; have hcz4_3 : w3.cell? ⟨gb131, 3, none⟩ = some (.slice A0_3 l0_3.length c0_3) := (blk_cell BK131.out 3).trans rfl; have hfz4_0 := blk_frozen BK131.out 0; have hfz4_1 := blk_frozen BK131.out 1; have hfz4_2 := blk_frozen BK131.out 2; have hfz4_3 := blk_frozen BK131.out 3)); go_ret; exact ⟨by first | rfl | (simp [errW_none, errW_some] <;> rfl) | (simp [*, errW_none, errW_some] <;> rfl), by repeat (first | (with_reducible first | exact HB.out | apply below_alloc | apply pw_below_drewN | apply below_drew1 | refine below_set ?_ GE131.out) | exact HB.out)⟩
  · rw [if_neg c2] at H; have c2b0 : (a0_0 == 1) = false := beq_eq_false_iff_ne.mpr c2; have c2b1 : (a0_0 != 1) = true := bne_iff_ne.mpr c2
    by_cases c5 : a0_0 = 2
    · rw [if_pos c5] at H; have c5b0 : (a0_0 == 2) = true := beq_iff_eq.mpr c5; have c5b1 : (a0_0 != 2) = false := bne_eq_false_iff_eq.mpr c5; clear c5; obtain rfl := Option.some.inj H
      go_enter Try.func19, Try.ntmps19
      go_wp2_with (first | ((with_reducible refine gate_dst (N := 1) rfl ?_); refine box_event ?hg (N := 1) ?hd (cs := #[.int .u8 a0_0, .int .i64 a0_1, .int .i64 a0_2, .slice A0_3 l0_3.length c0_3]) (t := 24) ?hr ?_; (case hd => rfl); (case hg => rfl); (case hr => first | (go_simp; done) | (go_simp; rfl)); intro gb131 hg w6 hbox hb; have n0_ := Aside0.mk (below_step (by repeat (first | (with_reducible first | exact HB.out | apply below_alloc | apply pw_below_drewN | apply below_drew1) | exact HB.out)) hb); have n1_ := Aside0.mk (hbox); have n2_ := Aside0.mk ((by rw [hg]; exact (below_size (by repeat (first | (with_reducible first | exact HB.out | apply below_alloc | apply pw_below_drewN | apply below_drew1) | exact HB.out))) : w.heap.size ≤ gb131)); have n3_ := Aside0.mk ((by rw [hg]; exact (below_size (by repeat (first | (with_reducible first | exact HB.out | apply below_alloc | apply pw_below_drewN | apply below_drew1) | exact HB.out))) : w.heap.size ≤ gb131)); clear HB; have HB := n0_; have BK131 := n1_; have GW131 := n2_; have GE131 := n3_; clear n0_ n1_ n2_ n3_; clear hb hbox hg; have hcz7_0 : w6.cell? ⟨gb131, 0, none⟩ = some (.int .u8 a0_0) := (blk_cell BK131.out 0).trans rfl; have hcz7_1 : w6.cell? ⟨gb131, 1, none⟩ = some (.int .i64 a0_1) := (blk_cell BK131.out 1).trans rfl; have hcz7_2 : w6.cell? ⟨gb131, 2, none⟩ = some (.int .i64 a0_2) := (blk_cell BK131.out 2).trans rfl; have hcz7_3 : w6.cell? ⟨gb131, 3, none⟩ = some (.slice A0_3 l0_3.length c0_3) := (blk_cell BK131.out 3).trans rfl; have hfz7_0 := blk_frozen BK131.out 0; have hfz7_1 := blk_frozen BK131.out 1; have hfz7_2 := blk_frozen BK131.out 2; have hfz7_3 := blk_frozen BK131.out 3)); go_ret; exact ⟨by first | rfl | (simp [errW_none, errW_some] <;> rfl) | (simp [*, errW_none, errW_some] <;> rfl), by repeat (first | (with_reducible first | exact HB.out | apply below_alloc | apply pw_below_drewN | apply below_drew1 | refine below_set ?_ GE131.out) | exact HB.out)⟩
    · rw [if_neg c5] at H; have c5b0 : (a0_0 == 2) = false := beq_eq_false_iff_ne.mpr c5; have c5b1 : (a0_0 != 2) = true := bne_iff_ne.mpr c5; obtain rfl := Option.some.inj H
      go_enter Try.func19, Try.ntmps19
      go_wp2_with (first | ((with_reducible refine gate_dst (N := 1) rfl ?_); refine box_event ?hg (N := 1) ?hd (cs := #[.int .u8 a0_0, .int .i64 a0_1, .int .i64 a0_2, .slice A0_3 l0_3.length c0_3]) (t := 24) ?hr ?_; (case hd => rfl); (case hg => rfl); (case hr => first | (go_simp; done) | (go_simp; rfl)); intro gb131 hg w8 hbox hb; have n0_ := Aside0.mk (below_step (by repeat (first | (with_reducible first | exact HB.out | apply below_alloc | apply pw_below_drewN | apply below_drew1) | exact HB.out)) hb); have n1_ := Aside0.mk (hbox); have n2_ := Aside0.mk ((by rw [hg]; exact (below_size (by repeat (first | (with_reducible first | exact HB.out | apply below_alloc | apply pw_below_drewN | apply below_drew1) | exact HB.out))) : w.heap.size ≤ gb131)); have n3_ := Aside0.mk ((by rw [hg]; exact (below_size (by repeat (first | (with_reducible first | exact HB.out | apply below_alloc | apply pw_below_drewN | apply below_drew1) | exact HB.out))) : w.heap.size ≤ gb131)); clear HB; have HB := n0_; have BK131 := n1_; have GW131 := n2_; have GE131 := n3_; clear n0_ n1_ n2_ n3_; clear hb hbox hg; have hcz9_0 : w8.cell? ⟨gb131, 0, none⟩ = some (.int .u8 a0_0) := (blk_cell BK131.out 0).trans rfl; have hcz9_1 : w8.cell? ⟨gb131, 1, none⟩ = some (.int .i64 a0_1) := (blk_cell BK131.out 1).trans rfl; have hcz9_2 : w8.cell? ⟨gb131, 2, none⟩ = some (.int .i64 a0_2) := (blk_cell BK131.out 2).trans rfl; have hcz9_3 : w8.cell? ⟨gb131, 3, none⟩ = some (.slice A0_3 l0_3.length c0_3) := (blk_cell BK131.out 3).trans rfl; have hfz9_0 := blk_frozen BK131.out 0; have hfz9_1 := blk_frozen BK131.out 1; have hfz9_2 := blk_frozen BK131.out 2; have hfz9_3 := blk_frozen BK131.out 3)); go_ret; exact ⟨by first | rfl | (simp [errW_none, errW_some] <;> rfl) | (simp [*, errW_none, errW_some] <;> rfl), by repeat (first | (with_reducible first | exact HB.out | apply below_alloc | apply pw_below_drewN | apply below_drew1 | refine below_set ?_ GE131.out) | exact HB.out)⟩

-- NOT PRINTED: function 20 (assert_values)

end Go.Proofs.Ytegdcoamafcfeaa.Pr
