-- Written by a program of this session (the kit's print, many functions in one namespace). Not trusted: Lean checks it.
import Derived.Test.YtegdcoamafcfeaaM0
import Derived.Test.YtegdcoamafcfeaaM1
import Derived.Test.YtegdcoamafcfeaaM4
import Derived.Test.YtegdcoamafcfeaaM5
import Derived.Test.YtegdcoamafcfeaaM6
namespace Go.Proofs.Ytegdcoamafcfeaa.Pr
open Go.RowKit Go.Proofs.YtegdcoamafcfeaaW.PrintWords Go.Proofs.YtegdcoamafcfeaaW.PrintLast
set_option linter.unusedVariables false
set_option linter.unusedSimpArgs false
/-! ### assert_Of: function 9 (by hand) -/
/-- Which kind of assertions a rule has. -/
def kindOf (n : Int) : Option Int := if n = 1 then some 1 else if n = 2 then some 2 else if n = 5 then some 3 else if n = 6 then some 3 else if n = 7 then some 3 else if n = 8 then some 3 else if n = 9 then some 4 else none
theorem kinds_made (w2 : World) (n : Int) (q : Option Int) (hq : kindOf n = q) : ∃ W2 W3 W4 W5 W6 W7 W8 : World,
    (Instr.mapUpdate 58 (.map (some w2.heap.size)) (.int .u8 1) (.int .u8 1)).run Try.prog (w2.alloc (.map #[] 0)) = .ok () W2 ∧
    (Instr.mapUpdate 58 (.map (some w2.heap.size)) (.int .u8 2) (.int .u8 2)).run Try.prog W2 = .ok () W3 ∧
    (Instr.mapUpdate 58 (.map (some w2.heap.size)) (.int .u8 5) (.int .u8 3)).run Try.prog W3 = .ok () W4 ∧
    (Instr.mapUpdate 58 (.map (some w2.heap.size)) (.int .u8 6) (.int .u8 3)).run Try.prog W4 = .ok () W5 ∧
    (Instr.mapUpdate 58 (.map (some w2.heap.size)) (.int .u8 7) (.int .u8 3)).run Try.prog W5 = .ok () W6 ∧
    (Instr.mapUpdate 58 (.map (some w2.heap.size)) (.int .u8 8) (.int .u8 3)).run Try.prog W6 = .ok () W7 ∧
    (Instr.mapUpdate 58 (.map (some w2.heap.size)) (.int .u8 9) (.int .u8 4)).run Try.prog W7 = .ok () W8 ∧
    (Instr.lookup 58 (.map (some w2.heap.size)) (.int .u8 n) true).run Try.prog W8 = .ok (.tuple #[.int .u8 (q.getD 0), .bool q.isSome]) W8 ∧
    (w2.alloc (.map #[] 0)).grownBy W8 (some w2.heap.size) := by
  obtain ⟨W2, r1, m1, g1⟩ := ins_new (P := Try.prog) (t := 58) Try.underlying58 Try.underlying5 (heap_alloc_new w2 (.map #[] 0)) 1 (.int .u8 1) rfl
  obtain ⟨W3, r2, m2, g2⟩ := ins_new (P := Try.prog) (t := 58) Try.underlying58 Try.underlying5 m1 2 (.int .u8 2) rfl
  obtain ⟨W4, r3, m3, g3⟩ := ins_new (P := Try.prog) (t := 58) Try.underlying58 Try.underlying5 m2 5 (.int .u8 3) rfl
  obtain ⟨W5, r4, m4, g4⟩ := ins_new (P := Try.prog) (t := 58) Try.underlying58 Try.underlying5 m3 6 (.int .u8 3) rfl
  obtain ⟨W6, r5, m5, g5⟩ := ins_new (P := Try.prog) (t := 58) Try.underlying58 Try.underlying5 m4 7 (.int .u8 3) rfl
  obtain ⟨W7, r6, m6, g6⟩ := ins_new (P := Try.prog) (t := 58) Try.underlying58 Try.underlying5 m5 8 (.int .u8 3) rfl
  obtain ⟨W8, r7, m7, g7⟩ := ins_new (P := Try.prog) (t := 58) Try.underlying58 Try.underlying5 m6 9 (.int .u8 4) rfl
  refine ⟨W2, W3, W4, W5, W6, W7, W8, r1, r2, r3, r4, r5, r6, r7, ?_, (((((g1.trans g2).trans g3).trans g4).trans g5).trans g6).trans g7⟩
  clear r1 r2 r3 r4 r5 r6 r7 g1 g2 g3 g4 g5 g6 g7 m1 m2 m3 m4 m5 m6
  unfold kindOf at hq
  by_cases h1 : n = 1
  · subst h1; subst hq; exact look_hit (P := Try.prog) (t := 58) Try.underlying58 Try.underlying5 m7 1 0 _ rfl true
  by_cases h2 : n = 2
  · subst h2; subst hq; exact look_hit (P := Try.prog) (t := 58) Try.underlying58 Try.underlying5 m7 2 1 _ rfl true
  by_cases h5 : n = 5
  · subst h5; subst hq; exact look_hit (P := Try.prog) (t := 58) Try.underlying58 Try.underlying5 m7 5 2 _ rfl true
  by_cases h6 : n = 6
  · subst h6; subst hq; exact look_hit (P := Try.prog) (t := 58) Try.underlying58 Try.underlying5 m7 6 3 _ rfl true
  by_cases h7 : n = 7
  · subst h7; subst hq; exact look_hit (P := Try.prog) (t := 58) Try.underlying58 Try.underlying5 m7 7 4 _ rfl true
  by_cases h8 : n = 8
  · subst h8; subst hq; exact look_hit (P := Try.prog) (t := 58) Try.underlying58 Try.underlying5 m7 8 5 _ rfl true
  by_cases h9 : n = 9
  · subst h9; subst hq; exact look_hit (P := Try.prog) (t := 58) Try.underlying58 Try.underlying5 m7 9 6 _ rfl true
  have hq2 : q = none := by rw [← hq]; simp [h1, h2, h5, h6, h7, h8, h9]
  subst hq2
  refine look_miss (P := Try.prog) (t := 58) Try.underlying58 Try.underlying5 m7 n (.int .u8 0) (by simp [Try.zeroValue5]) ?_ true
  simp [Instr.findNow, Instr.sameNow, beq_eq_false_iff_ne.mpr h1, beq_eq_false_iff_ne.mpr h2, beq_eq_false_iff_ne.mpr h5, beq_eq_false_iff_ne.mpr h6, beq_eq_false_iff_ne.mpr h7, beq_eq_false_iff_ne.mpr h8, beq_eq_false_iff_ne.mpr h9]
theorem sorted_own {w : World} {base : Nat} {e : TypeId} {v : Value} {xs el : List Int} (h : w.ownsRow base e 1 v xs.length (nums .i64 (xs.mergeSort fun x y => decide (x ≤ y)))) (hel : (xs.mergeSort fun x y => decide (x ≤ y)) = el) : w.ownsRow base e 1 v el.length (nums .i64 el) := by
  subst hel
  rw [List.length_mergeSort]
  exact h
theorem kinds_below {N : Nat} {W1 w2 W8 : World} (h : Below N W1 w2) (hN : N = W1.heap.size := by rfl) (hg : (w2.alloc (.map #[] 0)).grownBy W8 (some w2.heap.size)) : Below N W1 W8 := by
  subst hN
  exact (h.alloc h.size _).grown hg (by have := h.size; simp; omega) (fun k e => by cases e; exact h.size)
set_option maxHeartbeats 8000000 in
set_option maxRecDepth 100000 in
theorem assert_Of.refused (k : Nat) (a0_0 : ByteArray) (A0_1 : Option Addr) (c0_1 : Nat) (l0_1 : List ByteArray) (a0_2 : Int) (a0_3 : Int) (A1_0 : Option Addr) (c1_0 : Nat) (l1_0 : List Int) (A1_1 : Option Addr) (c1_1 : Nat) (l1_1 : List (S74)) (A1_2 : Option Addr) (c1_2 : Nat) (l1_2 : List (S148)) (w : World) (hr0_1 : Kd.C Kd.string w A0_1 l0_1.length l0_1) (hc0_1 : l0_1.length ≤ c0_1) (hr1_0 : Kd.C (Kd.int .i64) w A1_0 l1_0.length l1_0) (hc1_0 : l1_0.length ≤ c1_0) (hr1_1 : Kd.C k74 w A1_1 l1_1.length l1_1) (hc1_1 : l1_1.length ≤ c1_1) (hr1_2 : Kd.C k148 w A1_2 l1_2.length l1_2) (hc1_2 : l1_2.length ≤ c1_2) (e : Int) (he : contest_Check.f k a0_0 l0_1 a0_2 a0_3 = some e) (h0 : ¬ e = 0) :
    Calls Try.prog 9 #[.agg #[.string a0_0, .slice A0_1 l0_1.length c0_1, .int .i64 a0_2, .int .u8 a0_3], .agg #[.slice A1_0 l1_0.length c1_0, .slice A1_1 l1_1.length c1_1, .slice A1_2 l1_2.length c1_2]] w fun x w' => x = .returned (.tuple #[.slice none 0 0, .int .i64 e]) ∧ Below w.heap.size w w' := by
  have HE := Aside0.mk he
  have h0b : (e != 0) = true := bne_iff_ne.mpr h0
  clear he h0
  have hm0 := Kd.C_max hr0_1
  have hm1 := Kd.C_max hr1_0
  have hm2 := Kd.C_max hr1_1
  have hm3 := Kd.C_max hr1_2
  have HR0 := Aside0.mk (Kd.C_alloc (Kd.C_alloc hr0_1 (.cells #[.string a0_0, .slice A0_1 l0_1.length c0_1, .int .i64 a0_2, .int .u8 a0_3] 34)) (.cells #[.slice A1_0 l1_0.length c1_0, .slice A1_1 l1_1.length c1_1, .slice A1_2 l1_2.length c1_2] 41))
  have HR1 := Aside0.mk (Kd.C_alloc (Kd.C_alloc hr1_0 (.cells #[.string a0_0, .slice A0_1 l0_1.length c0_1, .int .i64 a0_2, .int .u8 a0_3] 34)) (.cells #[.slice A1_0 l1_0.length c1_0, .slice A1_1 l1_1.length c1_1, .slice A1_2 l1_2.length c1_2] 41))
  have HR2 := Aside0.mk (Kd.C_alloc (Kd.C_alloc hr1_1 (.cells #[.string a0_0, .slice A0_1 l0_1.length c0_1, .int .i64 a0_2, .int .u8 a0_3] 34)) (.cells #[.slice A1_0 l1_0.length c1_0, .slice A1_1 l1_1.length c1_1, .slice A1_2 l1_2.length c1_2] 41))
  have HR3 := Aside0.mk (Kd.C_alloc (Kd.C_alloc hr1_2 (.cells #[.string a0_0, .slice A0_1 l0_1.length c0_1, .int .i64 a0_2, .int .u8 a0_3] 34)) (.cells #[.slice A1_0 l1_0.length c1_0, .slice A1_1 l1_1.length c1_1, .slice A1_2 l1_2.length c1_2] 41))
  have HC0 := Aside0.mk hc0_1
  have HC1 := Aside0.mk hc1_0
  have HC2 := Aside0.mk hc1_1
  have HC3 := Aside0.mk hc1_2
  have hgA := blk_box (heap_alloc_new w (.cells #[.string a0_0, .slice A0_1 l0_1.length c0_1, .int .i64 a0_2, .int .u8 a0_3] 34)) (.cells #[.slice A1_0 l1_0.length c1_0, .slice A1_1 l1_1.length c1_1, .slice A1_2 l1_2.length c1_2] 41)
  have hgB := heap_new_at (b := w.heap.size + 1) (World.size_alloc w (.cells #[.string a0_0, .slice A0_1 l0_1.length c0_1, .int .i64 a0_2, .int .u8 a0_3] 34)) (.cells #[.slice A1_0 l1_0.length c1_0, .slice A1_1 l1_1.length c1_1, .slice A1_2 l1_2.length c1_2] 41)
  have HW := Aside0.mk (below_alloc (below_box (w := w) (.cells #[.string a0_0, .slice A0_1 l0_1.length c0_1, .int .i64 a0_2, .int .u8 a0_3] 34)) (.cells #[.slice A1_0 l1_0.length c1_0, .slice A1_1 l1_1.length c1_1, .slice A1_2 l1_2.length c1_2] 41))
  have hz1 : ((w.alloc (.cells #[.string a0_0, .slice A0_1 l0_1.length c0_1, .int .i64 a0_2, .int .u8 a0_3] 34)).alloc (.cells #[.slice A1_0 l1_0.length c1_0, .slice A1_1 l1_1.length c1_1, .slice A1_2 l1_2.length c1_2] 41)).heap.size = w.heap.size + 2 := by simp
  clear hr0_1 hc0_1 hr1_0 hc1_0 hr1_1 hc1_1 hr1_2 hc1_2
  have hmm := @run_makeMap Try.prog
  go_enter Try.func9, Try.ntmps9
  go_wp2_with fail
  generalize hW1 : (w.alloc (.cells #[.string a0_0, .slice A0_1 l0_1.length c0_1, .int .i64 a0_2, .int .u8 a0_3] 34)).alloc (.cells #[.slice A1_0 l1_0.length c1_0, .slice A1_1 l1_1.length c1_1, .slice A1_2 l1_2.length c1_2] 41) = W1 at *
  have kA0 : ∀ W, Below W1.heap.size W1 W → W.cell? ⟨w.heap.size, 0, none⟩ = some (.string a0_0) := fun W hb => (blk_cell (blk_later hgA hb) 0).trans rfl
  have kA1 : ∀ W, Below W1.heap.size W1 W → W.cell? ⟨w.heap.size, 1, none⟩ = some (.slice A0_1 l0_1.length c0_1) := fun W hb => (blk_cell (blk_later hgA hb) 1).trans rfl
  have kA2 : ∀ W, Below W1.heap.size W1 W → W.cell? ⟨w.heap.size, 2, none⟩ = some (.int .i64 a0_2) := fun W hb => (blk_cell (blk_later hgA hb) 2).trans rfl
  have kA3 : ∀ W, Below W1.heap.size W1 W → W.cell? ⟨w.heap.size, 3, none⟩ = some (.int .u8 a0_3) := fun W hb => (blk_cell (blk_later hgA hb) 3).trans rfl
  have kB0 : ∀ W, Below W1.heap.size W1 W → W.cell? ⟨w.heap.size + 1, 0, none⟩ = some (.slice A1_0 l1_0.length c1_0) := fun W hb => (blk_cell (blk_later hgB hb) 0).trans rfl
  have kB1 : ∀ W, Below W1.heap.size W1 W → W.cell? ⟨w.heap.size + 1, 1, none⟩ = some (.slice A1_1 l1_1.length c1_1) := fun W hb => (blk_cell (blk_later hgB hb) 1).trans rfl
  have kB2 : ∀ W, Below W1.heap.size W1 W → W.cell? ⟨w.heap.size + 1, 2, none⟩ = some (.slice A1_2 l1_2.length c1_2) := fun W hb => (blk_cell (blk_later hgB hb) 2).trans rfl
  clear hW1 hgA hgB
  have hb0 := Below.refl W1.heap.size W1
  go_at_call 21
  with_reducible refine (contest_Check.calls k a0_0 _ _ l0_1 a0_2 a0_3 e _ HR0.out HC0.out HE.out).mono ?_
  rintro x w2 ⟨rfl, hb2⟩
  go_wp2
  go_ret2
  exact ⟨rfl, below_step HW.out (by assumption)⟩
set_option maxHeartbeats 8000000 in
set_option maxRecDepth 100000 in
theorem assert_Of.nokind (k : Nat) (a0_0 : ByteArray) (A0_1 : Option Addr) (c0_1 : Nat) (l0_1 : List ByteArray) (a0_2 : Int) (a0_3 : Int) (A1_0 : Option Addr) (c1_0 : Nat) (l1_0 : List Int) (A1_1 : Option Addr) (c1_1 : Nat) (l1_1 : List (S74)) (A1_2 : Option Addr) (c1_2 : Nat) (l1_2 : List (S148)) (w : World) (hr0_1 : Kd.C Kd.string w A0_1 l0_1.length l0_1) (hc0_1 : l0_1.length ≤ c0_1) (hr1_0 : Kd.C (Kd.int .i64) w A1_0 l1_0.length l1_0) (hc1_0 : l1_0.length ≤ c1_0) (hr1_1 : Kd.C k74 w A1_1 l1_1.length l1_1) (hc1_1 : l1_1.length ≤ c1_1) (hr1_2 : Kd.C k148 w A1_2 l1_2.length l1_2) (hc1_2 : l1_2.length ≤ c1_2) (he : contest_Check.f k a0_0 l0_1 a0_2 a0_3 = some 0) (hq : kindOf a0_3 = none) :
    Calls Try.prog 9 #[.agg #[.string a0_0, .slice A0_1 l0_1.length c0_1, .int .i64 a0_2, .int .u8 a0_3], .agg #[.slice A1_0 l1_0.length c1_0, .slice A1_1 l1_1.length c1_1, .slice A1_2 l1_2.length c1_2]] w fun x w' => x = .returned (.tuple #[.slice none 0 0, .int .i64 6]) ∧ Below w.heap.size w w' := by
  have HE := Aside0.mk he
  have HQ := Aside0.mk hq
  clear he hq
  have hm0 := Kd.C_max hr0_1
  have hm1 := Kd.C_max hr1_0
  have hm2 := Kd.C_max hr1_1
  have hm3 := Kd.C_max hr1_2
  have HR0 := Aside0.mk (Kd.C_alloc (Kd.C_alloc hr0_1 (.cells #[.string a0_0, .slice A0_1 l0_1.length c0_1, .int .i64 a0_2, .int .u8 a0_3] 34)) (.cells #[.slice A1_0 l1_0.length c1_0, .slice A1_1 l1_1.length c1_1, .slice A1_2 l1_2.length c1_2] 41))
  have HR1 := Aside0.mk (Kd.C_alloc (Kd.C_alloc hr1_0 (.cells #[.string a0_0, .slice A0_1 l0_1.length c0_1, .int .i64 a0_2, .int .u8 a0_3] 34)) (.cells #[.slice A1_0 l1_0.length c1_0, .slice A1_1 l1_1.length c1_1, .slice A1_2 l1_2.length c1_2] 41))
  have HR2 := Aside0.mk (Kd.C_alloc (Kd.C_alloc hr1_1 (.cells #[.string a0_0, .slice A0_1 l0_1.length c0_1, .int .i64 a0_2, .int .u8 a0_3] 34)) (.cells #[.slice A1_0 l1_0.length c1_0, .slice A1_1 l1_1.length c1_1, .slice A1_2 l1_2.length c1_2] 41))
  have HR3 := Aside0.mk (Kd.C_alloc (Kd.C_alloc hr1_2 (.cells #[.string a0_0, .slice A0_1 l0_1.length c0_1, .int .i64 a0_2, .int .u8 a0_3] 34)) (.cells #[.slice A1_0 l1_0.length c1_0, .slice A1_1 l1_1.length c1_1, .slice A1_2 l1_2.length c1_2] 41))
  have HC0 := Aside0.mk hc0_1
  have HC1 := Aside0.mk hc1_0
  have HC2 := Aside0.mk hc1_1
  have HC3 := Aside0.mk hc1_2
  have hgA := blk_box (heap_alloc_new w (.cells #[.string a0_0, .slice A0_1 l0_1.length c0_1, .int .i64 a0_2, .int .u8 a0_3] 34)) (.cells #[.slice A1_0 l1_0.length c1_0, .slice A1_1 l1_1.length c1_1, .slice A1_2 l1_2.length c1_2] 41)
  have hgB := heap_new_at (b := w.heap.size + 1) (World.size_alloc w (.cells #[.string a0_0, .slice A0_1 l0_1.length c0_1, .int .i64 a0_2, .int .u8 a0_3] 34)) (.cells #[.slice A1_0 l1_0.length c1_0, .slice A1_1 l1_1.length c1_1, .slice A1_2 l1_2.length c1_2] 41)
  have HW := Aside0.mk (below_alloc (below_box (w := w) (.cells #[.string a0_0, .slice A0_1 l0_1.length c0_1, .int .i64 a0_2, .int .u8 a0_3] 34)) (.cells #[.slice A1_0 l1_0.length c1_0, .slice A1_1 l1_1.length c1_1, .slice A1_2 l1_2.length c1_2] 41))
  have hz1 : ((w.alloc (.cells #[.string a0_0, .slice A0_1 l0_1.length c0_1, .int .i64 a0_2, .int .u8 a0_3] 34)).alloc (.cells #[.slice A1_0 l1_0.length c1_0, .slice A1_1 l1_1.length c1_1, .slice A1_2 l1_2.length c1_2] 41)).heap.size = w.heap.size + 2 := by simp
  clear hr0_1 hc0_1 hr1_0 hc1_0 hr1_1 hc1_1 hr1_2 hc1_2
  have hmm := @run_makeMap Try.prog
  go_enter Try.func9, Try.ntmps9
  go_wp2_with fail
  generalize hW1 : (w.alloc (.cells #[.string a0_0, .slice A0_1 l0_1.length c0_1, .int .i64 a0_2, .int .u8 a0_3] 34)).alloc (.cells #[.slice A1_0 l1_0.length c1_0, .slice A1_1 l1_1.length c1_1, .slice A1_2 l1_2.length c1_2] 41) = W1 at *
  have kA0 : ∀ W, Below W1.heap.size W1 W → W.cell? ⟨w.heap.size, 0, none⟩ = some (.string a0_0) := fun W hb => (blk_cell (blk_later hgA hb) 0).trans rfl
  have kA1 : ∀ W, Below W1.heap.size W1 W → W.cell? ⟨w.heap.size, 1, none⟩ = some (.slice A0_1 l0_1.length c0_1) := fun W hb => (blk_cell (blk_later hgA hb) 1).trans rfl
  have kA2 : ∀ W, Below W1.heap.size W1 W → W.cell? ⟨w.heap.size, 2, none⟩ = some (.int .i64 a0_2) := fun W hb => (blk_cell (blk_later hgA hb) 2).trans rfl
  have kA3 : ∀ W, Below W1.heap.size W1 W → W.cell? ⟨w.heap.size, 3, none⟩ = some (.int .u8 a0_3) := fun W hb => (blk_cell (blk_later hgA hb) 3).trans rfl
  have kB0 : ∀ W, Below W1.heap.size W1 W → W.cell? ⟨w.heap.size + 1, 0, none⟩ = some (.slice A1_0 l1_0.length c1_0) := fun W hb => (blk_cell (blk_later hgB hb) 0).trans rfl
  have kB1 : ∀ W, Below W1.heap.size W1 W → W.cell? ⟨w.heap.size + 1, 1, none⟩ = some (.slice A1_1 l1_1.length c1_1) := fun W hb => (blk_cell (blk_later hgB hb) 1).trans rfl
  have kB2 : ∀ W, Below W1.heap.size W1 W → W.cell? ⟨w.heap.size + 1, 2, none⟩ = some (.slice A1_2 l1_2.length c1_2) := fun W hb => (blk_cell (blk_later hgB hb) 2).trans rfl
  clear hW1 hgA hgB
  have hb0 := Below.refl W1.heap.size W1
  go_at_call 21
  with_reducible refine (contest_Check.calls k a0_0 _ _ l0_1 a0_2 a0_3 0 _ HR0.out HC0.out HE.out).mono ?_
  rintro x w2 ⟨rfl, hb2⟩
  obtain ⟨W2, W3, W4, W5, W6, W7, W8, r1, r2, r3, r4, r5, r6, r7, hlk, hgr⟩ := kinds_made w2 a0_3 none HQ.out; have hb8 := kinds_below hb2 rfl hgr
  have qA1 := kA1 W8 hb8
  have qA2 := kA2 W8 hb8
  have qA3 := kA3 W8 hb8
  have qB0 := kB0 W8 hb8
  go_wp2
  go_ret2
  exact ⟨rfl, below_step HW.out (by assumption)⟩
set_option maxHeartbeats 8000000 in
set_option maxRecDepth 100000 in
theorem assert_Of.number (k : Nat) (a0_0 : ByteArray) (A0_1 : Option Addr) (c0_1 : Nat) (l0_1 : List ByteArray) (a0_2 : Int) (a0_3 : Int) (A1_0 : Option Addr) (c1_0 : Nat) (l1_0 : List Int) (A1_1 : Option Addr) (c1_1 : Nat) (l1_1 : List (S74)) (A1_2 : Option Addr) (c1_2 : Nat) (l1_2 : List (S148)) (w : World) (hr0_1 : Kd.C Kd.string w A0_1 l0_1.length l0_1) (hc0_1 : l0_1.length ≤ c0_1) (hr1_0 : Kd.C (Kd.int .i64) w A1_0 l1_0.length l1_0) (hc1_0 : l1_0.length ≤ c1_0) (hr1_1 : Kd.C k74 w A1_1 l1_1.length l1_1) (hc1_1 : l1_1.length ≤ c1_1) (hr1_2 : Kd.C k148 w A1_2 l1_2.length l1_2) (hc1_2 : l1_2.length ≤ c1_2) (he : contest_Check.f k a0_0 l0_1 a0_2 a0_3 = some 0) (q : Int) (hq : kindOf a0_3 = some q) (hln : l1_0.length * 8 ≤ 140737488355328) (el : List Int) (hel : (l1_0.mergeSort fun x y => decide (x ≤ y)) = el) (hne : ¬ (el.length : Int) = a0_2) :
    Calls Try.prog 9 #[.agg #[.string a0_0, .slice A0_1 l0_1.length c0_1, .int .i64 a0_2, .int .u8 a0_3], .agg #[.slice A1_0 l1_0.length c1_0, .slice A1_1 l1_1.length c1_1, .slice A1_2 l1_2.length c1_2]] w fun x w' => x = .returned (.tuple #[.slice none 0 0, .int .i64 8]) ∧ Below w.heap.size w w' := by
  have HE := Aside0.mk he
  have HQ := Aside0.mk hq
  have HLN := Aside0.mk hln
  have HEL := Aside0.mk hel
  clear he hq hln hel
  have hnb : ((el.length : Int) != a0_2) = true := bne_iff_ne.mpr hne
  clear hne
  have hm0 := Kd.C_max hr0_1
  have hm1 := Kd.C_max hr1_0
  have hm2 := Kd.C_max hr1_1
  have hm3 := Kd.C_max hr1_2
  have HR0 := Aside0.mk (Kd.C_alloc (Kd.C_alloc hr0_1 (.cells #[.string a0_0, .slice A0_1 l0_1.length c0_1, .int .i64 a0_2, .int .u8 a0_3] 34)) (.cells #[.slice A1_0 l1_0.length c1_0, .slice A1_1 l1_1.length c1_1, .slice A1_2 l1_2.length c1_2] 41))
  have HR1 := Aside0.mk (Kd.C_alloc (Kd.C_alloc hr1_0 (.cells #[.string a0_0, .slice A0_1 l0_1.length c0_1, .int .i64 a0_2, .int .u8 a0_3] 34)) (.cells #[.slice A1_0 l1_0.length c1_0, .slice A1_1 l1_1.length c1_1, .slice A1_2 l1_2.length c1_2] 41))
  have HR2 := Aside0.mk (Kd.C_alloc (Kd.C_alloc hr1_1 (.cells #[.string a0_0, .slice A0_1 l0_1.length c0_1, .int .i64 a0_2, .int .u8 a0_3] 34)) (.cells #[.slice A1_0 l1_0.length c1_0, .slice A1_1 l1_1.length c1_1, .slice A1_2 l1_2.length c1_2] 41))
  have HR3 := Aside0.mk (Kd.C_alloc (Kd.C_alloc hr1_2 (.cells #[.string a0_0, .slice A0_1 l0_1.length c0_1, .int .i64 a0_2, .int .u8 a0_3] 34)) (.cells #[.slice A1_0 l1_0.length c1_0, .slice A1_1 l1_1.length c1_1, .slice A1_2 l1_2.length c1_2] 41))
  have HC0 := Aside0.mk hc0_1
  have HC1 := Aside0.mk hc1_0
  have HC2 := Aside0.mk hc1_1
  have HC3 := Aside0.mk hc1_2
  have hgA := blk_box (heap_alloc_new w (.cells #[.string a0_0, .slice A0_1 l0_1.length c0_1, .int .i64 a0_2, .int .u8 a0_3] 34)) (.cells #[.slice A1_0 l1_0.length c1_0, .slice A1_1 l1_1.length c1_1, .slice A1_2 l1_2.length c1_2] 41)
  have hgB := heap_new_at (b := w.heap.size + 1) (World.size_alloc w (.cells #[.string a0_0, .slice A0_1 l0_1.length c0_1, .int .i64 a0_2, .int .u8 a0_3] 34)) (.cells #[.slice A1_0 l1_0.length c1_0, .slice A1_1 l1_1.length c1_1, .slice A1_2 l1_2.length c1_2] 41)
  have HW := Aside0.mk (below_alloc (below_box (w := w) (.cells #[.string a0_0, .slice A0_1 l0_1.length c0_1, .int .i64 a0_2, .int .u8 a0_3] 34)) (.cells #[.slice A1_0 l1_0.length c1_0, .slice A1_1 l1_1.length c1_1, .slice A1_2 l1_2.length c1_2] 41))
  have hz1 : ((w.alloc (.cells #[.string a0_0, .slice A0_1 l0_1.length c0_1, .int .i64 a0_2, .int .u8 a0_3] 34)).alloc (.cells #[.slice A1_0 l1_0.length c1_0, .slice A1_1 l1_1.length c1_1, .slice A1_2 l1_2.length c1_2] 41)).heap.size = w.heap.size + 2 := by simp
  clear hr0_1 hc0_1 hr1_0 hc1_0 hr1_1 hc1_1 hr1_2 hc1_2
  have hmm := @run_makeMap Try.prog
  go_enter Try.func9, Try.ntmps9
  go_wp2_with fail
  generalize hW1 : (w.alloc (.cells #[.string a0_0, .slice A0_1 l0_1.length c0_1, .int .i64 a0_2, .int .u8 a0_3] 34)).alloc (.cells #[.slice A1_0 l1_0.length c1_0, .slice A1_1 l1_1.length c1_1, .slice A1_2 l1_2.length c1_2] 41) = W1 at *
  have kA0 : ∀ W, Below W1.heap.size W1 W → W.cell? ⟨w.heap.size, 0, none⟩ = some (.string a0_0) := fun W hb => (blk_cell (blk_later hgA hb) 0).trans rfl
  have kA1 : ∀ W, Below W1.heap.size W1 W → W.cell? ⟨w.heap.size, 1, none⟩ = some (.slice A0_1 l0_1.length c0_1) := fun W hb => (blk_cell (blk_later hgA hb) 1).trans rfl
  have kA2 : ∀ W, Below W1.heap.size W1 W → W.cell? ⟨w.heap.size, 2, none⟩ = some (.int .i64 a0_2) := fun W hb => (blk_cell (blk_later hgA hb) 2).trans rfl
  have kA3 : ∀ W, Below W1.heap.size W1 W → W.cell? ⟨w.heap.size, 3, none⟩ = some (.int .u8 a0_3) := fun W hb => (blk_cell (blk_later hgA hb) 3).trans rfl
  have kB0 : ∀ W, Below W1.heap.size W1 W → W.cell? ⟨w.heap.size + 1, 0, none⟩ = some (.slice A1_0 l1_0.length c1_0) := fun W hb => (blk_cell (blk_later hgB hb) 0).trans rfl
  have kB1 : ∀ W, Below W1.heap.size W1 W → W.cell? ⟨w.heap.size + 1, 1, none⟩ = some (.slice A1_1 l1_1.length c1_1) := fun W hb => (blk_cell (blk_later hgB hb) 1).trans rfl
  have kB2 : ∀ W, Below W1.heap.size W1 W → W.cell? ⟨w.heap.size + 1, 2, none⟩ = some (.slice A1_2 l1_2.length c1_2) := fun W hb => (blk_cell (blk_later hgB hb) 2).trans rfl
  clear hW1 hgA hgB
  have hb0 := Below.refl W1.heap.size W1
  go_at_call 21
  with_reducible refine (contest_Check.calls k a0_0 _ _ l0_1 a0_2 a0_3 0 _ HR0.out HC0.out HE.out).mono ?_
  rintro x w2 ⟨rfl, hb2⟩
  obtain ⟨W2, W3, W4, W5, W6, W7, W8, r1, r2, r3, r4, r5, r6, r7, hlk, hgr⟩ := kinds_made w2 a0_3 (some q) HQ.out; have hb8 := kinds_below hb2 rfl hgr
  have qA1 := kA1 W8 hb8
  have qA2 := kA2 W8 hb8
  have qA3 := kA3 W8 hb8
  have qB0 := kB0 W8 hb8
  go_wp2_with (first | (go_at_call 23; with_reducible refine (slicesValues_calls _ _ _ _).mono ?_; rintro x w3 ⟨rfl, hw3⟩; have hb3 : Below W1.heap.size W1 w3 := (by subst hw3; exact hb8.alloc hb8.size _); have hz3 : w3.heap.size = W8.heap.size + 1 := (by subst hw3; simp); have hc3 : w3.cell? ⟨W8.heap.size, 0, none⟩ = some (.slice A1_0 l1_0.length c1_0) := (by subst hw3; exact (Boxed.new W8 _ _).cell); clear hw3) | (go_at_call 22; refine (sortedValues_calls A1_0 c1_0 l1_0 w3 W8.heap.size (Kd.C_below HR1.out hb3) (by omega) hc3 HLN.out).mono ?_; rintro x w4 ⟨v4, rfl, ho4, hb4⟩; have HO4 := Aside0.mk (R_of_nums (sorted_own ho4 HEL.out)); clear ho4; have hb5 := below_step hb3 hb4; obtain ⟨Ao4, co4, eo4⟩ := Kd.R_slice HO4.out; subst eo4; have sA2 := kA2 w4 hb5; have sB0 := kB0 w4 hb5; have sB1 := kB1 w4 hb5; have sB2 := kB2 w4 hb5))
  go_ret2
  exact ⟨rfl, below_step HW.out (by assumption)⟩
set_option maxHeartbeats 8000000 in
set_option maxRecDepth 100000 in
theorem assert_Of.falling (k : Nat) (a0_0 : ByteArray) (A0_1 : Option Addr) (c0_1 : Nat) (l0_1 : List ByteArray) (a0_2 : Int) (a0_3 : Int) (A1_0 : Option Addr) (c1_0 : Nat) (l1_0 : List Int) (A1_1 : Option Addr) (c1_1 : Nat) (l1_1 : List (S74)) (A1_2 : Option Addr) (c1_2 : Nat) (l1_2 : List (S148)) (w : World) (hr0_1 : Kd.C Kd.string w A0_1 l0_1.length l0_1) (hc0_1 : l0_1.length ≤ c0_1) (hr1_0 : Kd.C (Kd.int .i64) w A1_0 l1_0.length l1_0) (hc1_0 : l1_0.length ≤ c1_0) (hr1_1 : Kd.C k74 w A1_1 l1_1.length l1_1) (hc1_1 : l1_1.length ≤ c1_1) (hr1_2 : Kd.C k148 w A1_2 l1_2.length l1_2) (hc1_2 : l1_2.length ≤ c1_2) (he : contest_Check.f k a0_0 l0_1 a0_2 a0_3 = some 0) (q : Int) (hq : kindOf a0_3 = some q) (hln : l1_0.length * 8 ≤ 140737488355328) (el : List Int) (hel : (l1_0.mergeSort fun x y => decide (x ≤ y)) = el) (hne : (el.length : Int) = a0_2) (hri : assert_rising.f k el l0_1.length = some false) :
    Calls Try.prog 9 #[.agg #[.string a0_0, .slice A0_1 l0_1.length c0_1, .int .i64 a0_2, .int .u8 a0_3], .agg #[.slice A1_0 l1_0.length c1_0, .slice A1_1 l1_1.length c1_1, .slice A1_2 l1_2.length c1_2]] w fun x w' => x = .returned (.tuple #[.slice none 0 0, .int .i64 8]) ∧ Below w.heap.size w w' := by
  have HE := Aside0.mk he
  have HQ := Aside0.mk hq
  have HLN := Aside0.mk hln
  have HEL := Aside0.mk hel
  clear he hq hln hel
  have hnb : ((el.length : Int) != a0_2) = false := bne_eq_false_iff_eq.mpr hne
  have HRI := Aside0.mk hri
  clear hne hri
  have hm0 := Kd.C_max hr0_1
  have hm1 := Kd.C_max hr1_0
  have hm2 := Kd.C_max hr1_1
  have hm3 := Kd.C_max hr1_2
  have HR0 := Aside0.mk (Kd.C_alloc (Kd.C_alloc hr0_1 (.cells #[.string a0_0, .slice A0_1 l0_1.length c0_1, .int .i64 a0_2, .int .u8 a0_3] 34)) (.cells #[.slice A1_0 l1_0.length c1_0, .slice A1_1 l1_1.length c1_1, .slice A1_2 l1_2.length c1_2] 41))
  have HR1 := Aside0.mk (Kd.C_alloc (Kd.C_alloc hr1_0 (.cells #[.string a0_0, .slice A0_1 l0_1.length c0_1, .int .i64 a0_2, .int .u8 a0_3] 34)) (.cells #[.slice A1_0 l1_0.length c1_0, .slice A1_1 l1_1.length c1_1, .slice A1_2 l1_2.length c1_2] 41))
  have HR2 := Aside0.mk (Kd.C_alloc (Kd.C_alloc hr1_1 (.cells #[.string a0_0, .slice A0_1 l0_1.length c0_1, .int .i64 a0_2, .int .u8 a0_3] 34)) (.cells #[.slice A1_0 l1_0.length c1_0, .slice A1_1 l1_1.length c1_1, .slice A1_2 l1_2.length c1_2] 41))
  have HR3 := Aside0.mk (Kd.C_alloc (Kd.C_alloc hr1_2 (.cells #[.string a0_0, .slice A0_1 l0_1.length c0_1, .int .i64 a0_2, .int .u8 a0_3] 34)) (.cells #[.slice A1_0 l1_0.length c1_0, .slice A1_1 l1_1.length c1_1, .slice A1_2 l1_2.length c1_2] 41))
  have HC0 := Aside0.mk hc0_1
  have HC1 := Aside0.mk hc1_0
  have HC2 := Aside0.mk hc1_1
  have HC3 := Aside0.mk hc1_2
  have hgA := blk_box (heap_alloc_new w (.cells #[.string a0_0, .slice A0_1 l0_1.length c0_1, .int .i64 a0_2, .int .u8 a0_3] 34)) (.cells #[.slice A1_0 l1_0.length c1_0, .slice A1_1 l1_1.length c1_1, .slice A1_2 l1_2.length c1_2] 41)
  have hgB := heap_new_at (b := w.heap.size + 1) (World.size_alloc w (.cells #[.string a0_0, .slice A0_1 l0_1.length c0_1, .int .i64 a0_2, .int .u8 a0_3] 34)) (.cells #[.slice A1_0 l1_0.length c1_0, .slice A1_1 l1_1.length c1_1, .slice A1_2 l1_2.length c1_2] 41)
  have HW := Aside0.mk (below_alloc (below_box (w := w) (.cells #[.string a0_0, .slice A0_1 l0_1.length c0_1, .int .i64 a0_2, .int .u8 a0_3] 34)) (.cells #[.slice A1_0 l1_0.length c1_0, .slice A1_1 l1_1.length c1_1, .slice A1_2 l1_2.length c1_2] 41))
  have hz1 : ((w.alloc (.cells #[.string a0_0, .slice A0_1 l0_1.length c0_1, .int .i64 a0_2, .int .u8 a0_3] 34)).alloc (.cells #[.slice A1_0 l1_0.length c1_0, .slice A1_1 l1_1.length c1_1, .slice A1_2 l1_2.length c1_2] 41)).heap.size = w.heap.size + 2 := by simp
  clear hr0_1 hc0_1 hr1_0 hc1_0 hr1_1 hc1_1 hr1_2 hc1_2
  have hmm := @run_makeMap Try.prog
  go_enter Try.func9, Try.ntmps9
  go_wp2_with fail
  generalize hW1 : (w.alloc (.cells #[.string a0_0, .slice A0_1 l0_1.length c0_1, .int .i64 a0_2, .int .u8 a0_3] 34)).alloc (.cells #[.slice A1_0 l1_0.length c1_0, .slice A1_1 l1_1.length c1_1, .slice A1_2 l1_2.length c1_2] 41) = W1 at *
  have kA0 : ∀ W, Below W1.heap.size W1 W → W.cell? ⟨w.heap.size, 0, none⟩ = some (.string a0_0) := fun W hb => (blk_cell (blk_later hgA hb) 0).trans rfl
  have kA1 : ∀ W, Below W1.heap.size W1 W → W.cell? ⟨w.heap.size, 1, none⟩ = some (.slice A0_1 l0_1.length c0_1) := fun W hb => (blk_cell (blk_later hgA hb) 1).trans rfl
  have kA2 : ∀ W, Below W1.heap.size W1 W → W.cell? ⟨w.heap.size, 2, none⟩ = some (.int .i64 a0_2) := fun W hb => (blk_cell (blk_later hgA hb) 2).trans rfl
  have kA3 : ∀ W, Below W1.heap.size W1 W → W.cell? ⟨w.heap.size, 3, none⟩ = some (.int .u8 a0_3) := fun W hb => (blk_cell (blk_later hgA hb) 3).trans rfl
  have kB0 : ∀ W, Below W1.heap.size W1 W → W.cell? ⟨w.heap.size + 1, 0, none⟩ = some (.slice A1_0 l1_0.length c1_0) := fun W hb => (blk_cell (blk_later hgB hb) 0).trans rfl
  have kB1 : ∀ W, Below W1.heap.size W1 W → W.cell? ⟨w.heap.size + 1, 1, none⟩ = some (.slice A1_1 l1_1.length c1_1) := fun W hb => (blk_cell (blk_later hgB hb) 1).trans rfl
  have kB2 : ∀ W, Below W1.heap.size W1 W → W.cell? ⟨w.heap.size + 1, 2, none⟩ = some (.slice A1_2 l1_2.length c1_2) := fun W hb => (blk_cell (blk_later hgB hb) 2).trans rfl
  clear hW1 hgA hgB
  have hb0 := Below.refl W1.heap.size W1
  go_at_call 21
  with_reducible refine (contest_Check.calls k a0_0 _ _ l0_1 a0_2 a0_3 0 _ HR0.out HC0.out HE.out).mono ?_
  rintro x w2 ⟨rfl, hb2⟩
  obtain ⟨W2, W3, W4, W5, W6, W7, W8, r1, r2, r3, r4, r5, r6, r7, hlk, hgr⟩ := kinds_made w2 a0_3 (some q) HQ.out; have hb8 := kinds_below hb2 rfl hgr
  have qA1 := kA1 W8 hb8
  have qA2 := kA2 W8 hb8
  have qA3 := kA3 W8 hb8
  have qB0 := kB0 W8 hb8
  go_wp2_with (first | (go_at_call 23; with_reducible refine (slicesValues_calls _ _ _ _).mono ?_; rintro x w3 ⟨rfl, hw3⟩; have hb3 : Below W1.heap.size W1 w3 := (by subst hw3; exact hb8.alloc hb8.size _); have hz3 : w3.heap.size = W8.heap.size + 1 := (by subst hw3; simp); have hc3 : w3.cell? ⟨W8.heap.size, 0, none⟩ = some (.slice A1_0 l1_0.length c1_0) := (by subst hw3; exact (Boxed.new W8 _ _).cell); clear hw3) | (go_at_call 22; refine (sortedValues_calls A1_0 c1_0 l1_0 w3 W8.heap.size (Kd.C_below HR1.out hb3) (by omega) hc3 HLN.out).mono ?_; rintro x w4 ⟨v4, rfl, ho4, hb4⟩; have HO4 := Aside0.mk (R_of_nums (sorted_own ho4 HEL.out)); clear ho4; have hb5 := below_step hb3 hb4; obtain ⟨Ao4, co4, eo4⟩ := Kd.R_slice HO4.out; subst eo4; have sA2 := kA2 w4 hb5; have sB0 := kB0 w4 hb5; have sB1 := kB1 w4 hb5; have sB2 := kB2 w4 hb5) | (go_at_call 24; refine (assert_rising.calls k _ _ el l0_1.length false _ (Kd.R_reads' HO4.out).2.2 (Kd.R_reads' HO4.out).2.1 HRI.out).mono ?_; rintro x w5 ⟨rfl, ⟨nd, rfl⟩⟩; have hb6 := pw_below_drewN hb5 nd; have uB0 := kB0 _ hb6; have uB1 := kB1 _ hb6; have uB2 := kB2 _ hb6))
  go_ret2
  exact ⟨rfl, below_step HW.out (by assumption)⟩
set_option maxHeartbeats 8000000 in
set_option maxRecDepth 100000 in
theorem assert_Of.plain (k : Nat) (a0_0 : ByteArray) (A0_1 : Option Addr) (c0_1 : Nat) (l0_1 : List ByteArray) (a0_2 : Int) (a0_3 : Int) (A1_0 : Option Addr) (c1_0 : Nat) (l1_0 : List Int) (A1_1 : Option Addr) (c1_1 : Nat) (l1_1 : List (S74)) (A1_2 : Option Addr) (c1_2 : Nat) (l1_2 : List (S148)) (w : World) (hr0_1 : Kd.C Kd.string w A0_1 l0_1.length l0_1) (hc0_1 : l0_1.length ≤ c0_1) (hr1_0 : Kd.C (Kd.int .i64) w A1_0 l1_0.length l1_0) (hc1_0 : l1_0.length ≤ c1_0) (hr1_1 : Kd.C k74 w A1_1 l1_1.length l1_1) (hc1_1 : l1_1.length ≤ c1_1) (hr1_2 : Kd.C k148 w A1_2 l1_2.length l1_2) (hc1_2 : l1_2.length ≤ c1_2) (he : contest_Check.f k a0_0 l0_1 a0_2 a0_3 = some 0) (q : Int) (hq : kindOf a0_3 = some q) (hln : l1_0.length * 8 ≤ 140737488355328) (el : List Int) (hel : (l1_0.mergeSort fun x y => decide (x ≤ y)) = el) (hne : (el.length : Int) = a0_2) (hri : assert_rising.f k el l0_1.length = some true) (r : List (S24)) (h4 : ¬ q = 4) (hpl : assert_plain.f q l1_0 l0_1.length = some r) :
    Calls Try.prog 9 #[.agg #[.string a0_0, .slice A0_1 l0_1.length c0_1, .int .i64 a0_2, .int .u8 a0_3], .agg #[.slice A1_0 l1_0.length c1_0, .slice A1_1 l1_1.length c1_1, .slice A1_2 l1_2.length c1_2]] w fun x w' => ∃ v0_ : Value, x = .returned (.tuple #[v0_, .int .i64 0]) ∧ Kd.S k24 24 w' w.heap.size (fun _ => True) v0_ r ∧ Below w.heap.size w w' := by
  have HE := Aside0.mk he
  have HQ := Aside0.mk hq
  have HLN := Aside0.mk hln
  have HEL := Aside0.mk hel
  clear he hq hln hel
  have hnb : ((el.length : Int) != a0_2) = false := bne_eq_false_iff_eq.mpr hne
  have HRI := Aside0.mk hri
  clear hne hri
  have h4b : (q != 4) = true := bne_iff_ne.mpr h4
  have HPL := Aside0.mk hpl
  clear h4 hpl
  have hm0 := Kd.C_max hr0_1
  have hm1 := Kd.C_max hr1_0
  have hm2 := Kd.C_max hr1_1
  have hm3 := Kd.C_max hr1_2
  have HR0 := Aside0.mk (Kd.C_alloc (Kd.C_alloc hr0_1 (.cells #[.string a0_0, .slice A0_1 l0_1.length c0_1, .int .i64 a0_2, .int .u8 a0_3] 34)) (.cells #[.slice A1_0 l1_0.length c1_0, .slice A1_1 l1_1.length c1_1, .slice A1_2 l1_2.length c1_2] 41))
  have HR1 := Aside0.mk (Kd.C_alloc (Kd.C_alloc hr1_0 (.cells #[.string a0_0, .slice A0_1 l0_1.length c0_1, .int .i64 a0_2, .int .u8 a0_3] 34)) (.cells #[.slice A1_0 l1_0.length c1_0, .slice A1_1 l1_1.length c1_1, .slice A1_2 l1_2.length c1_2] 41))
  have HR2 := Aside0.mk (Kd.C_alloc (Kd.C_alloc hr1_1 (.cells #[.string a0_0, .slice A0_1 l0_1.length c0_1, .int .i64 a0_2, .int .u8 a0_3] 34)) (.cells #[.slice A1_0 l1_0.length c1_0, .slice A1_1 l1_1.length c1_1, .slice A1_2 l1_2.length c1_2] 41))
  have HR3 := Aside0.mk (Kd.C_alloc (Kd.C_alloc hr1_2 (.cells #[.string a0_0, .slice A0_1 l0_1.length c0_1, .int .i64 a0_2, .int .u8 a0_3] 34)) (.cells #[.slice A1_0 l1_0.length c1_0, .slice A1_1 l1_1.length c1_1, .slice A1_2 l1_2.length c1_2] 41))
  have HC0 := Aside0.mk hc0_1
  have HC1 := Aside0.mk hc1_0
  have HC2 := Aside0.mk hc1_1
  have HC3 := Aside0.mk hc1_2
  have hgA := blk_box (heap_alloc_new w (.cells #[.string a0_0, .slice A0_1 l0_1.length c0_1, .int .i64 a0_2, .int .u8 a0_3] 34)) (.cells #[.slice A1_0 l1_0.length c1_0, .slice A1_1 l1_1.length c1_1, .slice A1_2 l1_2.length c1_2] 41)
  have hgB := heap_new_at (b := w.heap.size + 1) (World.size_alloc w (.cells #[.string a0_0, .slice A0_1 l0_1.length c0_1, .int .i64 a0_2, .int .u8 a0_3] 34)) (.cells #[.slice A1_0 l1_0.length c1_0, .slice A1_1 l1_1.length c1_1, .slice A1_2 l1_2.length c1_2] 41)
  have HW := Aside0.mk (below_alloc (below_box (w := w) (.cells #[.string a0_0, .slice A0_1 l0_1.length c0_1, .int .i64 a0_2, .int .u8 a0_3] 34)) (.cells #[.slice A1_0 l1_0.length c1_0, .slice A1_1 l1_1.length c1_1, .slice A1_2 l1_2.length c1_2] 41))
  have hz1 : ((w.alloc (.cells #[.string a0_0, .slice A0_1 l0_1.length c0_1, .int .i64 a0_2, .int .u8 a0_3] 34)).alloc (.cells #[.slice A1_0 l1_0.length c1_0, .slice A1_1 l1_1.length c1_1, .slice A1_2 l1_2.length c1_2] 41)).heap.size = w.heap.size + 2 := by simp
  clear hr0_1 hc0_1 hr1_0 hc1_0 hr1_1 hc1_1 hr1_2 hc1_2
  have hmm := @run_makeMap Try.prog
  go_enter Try.func9, Try.ntmps9
  go_wp2_with fail
  generalize hW1 : (w.alloc (.cells #[.string a0_0, .slice A0_1 l0_1.length c0_1, .int .i64 a0_2, .int .u8 a0_3] 34)).alloc (.cells #[.slice A1_0 l1_0.length c1_0, .slice A1_1 l1_1.length c1_1, .slice A1_2 l1_2.length c1_2] 41) = W1 at *
  have kA0 : ∀ W, Below W1.heap.size W1 W → W.cell? ⟨w.heap.size, 0, none⟩ = some (.string a0_0) := fun W hb => (blk_cell (blk_later hgA hb) 0).trans rfl
  have kA1 : ∀ W, Below W1.heap.size W1 W → W.cell? ⟨w.heap.size, 1, none⟩ = some (.slice A0_1 l0_1.length c0_1) := fun W hb => (blk_cell (blk_later hgA hb) 1).trans rfl
  have kA2 : ∀ W, Below W1.heap.size W1 W → W.cell? ⟨w.heap.size, 2, none⟩ = some (.int .i64 a0_2) := fun W hb => (blk_cell (blk_later hgA hb) 2).trans rfl
  have kA3 : ∀ W, Below W1.heap.size W1 W → W.cell? ⟨w.heap.size, 3, none⟩ = some (.int .u8 a0_3) := fun W hb => (blk_cell (blk_later hgA hb) 3).trans rfl
  have kB0 : ∀ W, Below W1.heap.size W1 W → W.cell? ⟨w.heap.size + 1, 0, none⟩ = some (.slice A1_0 l1_0.length c1_0) := fun W hb => (blk_cell (blk_later hgB hb) 0).trans rfl
  have kB1 : ∀ W, Below W1.heap.size W1 W → W.cell? ⟨w.heap.size + 1, 1, none⟩ = some (.slice A1_1 l1_1.length c1_1) := fun W hb => (blk_cell (blk_later hgB hb) 1).trans rfl
  have kB2 : ∀ W, Below W1.heap.size W1 W → W.cell? ⟨w.heap.size + 1, 2, none⟩ = some (.slice A1_2 l1_2.length c1_2) := fun W hb => (blk_cell (blk_later hgB hb) 2).trans rfl
  clear hW1 hgA hgB
  have hb0 := Below.refl W1.heap.size W1
  go_at_call 21
  with_reducible refine (contest_Check.calls k a0_0 _ _ l0_1 a0_2 a0_3 0 _ HR0.out HC0.out HE.out).mono ?_
  rintro x w2 ⟨rfl, hb2⟩
  obtain ⟨W2, W3, W4, W5, W6, W7, W8, r1, r2, r3, r4, r5, r6, r7, hlk, hgr⟩ := kinds_made w2 a0_3 (some q) HQ.out; have hb8 := kinds_below hb2 rfl hgr
  have qA1 := kA1 W8 hb8
  have qA2 := kA2 W8 hb8
  have qA3 := kA3 W8 hb8
  have qB0 := kB0 W8 hb8
  go_wp2_with (first | (go_at_call 23; with_reducible refine (slicesValues_calls _ _ _ _).mono ?_; rintro x w3 ⟨rfl, hw3⟩; have hb3 : Below W1.heap.size W1 w3 := (by subst hw3; exact hb8.alloc hb8.size _); have hz3 : w3.heap.size = W8.heap.size + 1 := (by subst hw3; simp); have hc3 : w3.cell? ⟨W8.heap.size, 0, none⟩ = some (.slice A1_0 l1_0.length c1_0) := (by subst hw3; exact (Boxed.new W8 _ _).cell); clear hw3) | (go_at_call 22; refine (sortedValues_calls A1_0 c1_0 l1_0 w3 W8.heap.size (Kd.C_below HR1.out hb3) (by omega) hc3 HLN.out).mono ?_; rintro x w4 ⟨v4, rfl, ho4, hb4⟩; have HO4 := Aside0.mk (R_of_nums (sorted_own ho4 HEL.out)); clear ho4; have hb5 := below_step hb3 hb4; obtain ⟨Ao4, co4, eo4⟩ := Kd.R_slice HO4.out; subst eo4; have sA2 := kA2 w4 hb5; have sB0 := kB0 w4 hb5; have sB1 := kB1 w4 hb5; have sB2 := kB2 w4 hb5) | (go_at_call 24; refine (assert_rising.calls k _ _ el l0_1.length true _ (Kd.R_reads' HO4.out).2.2 (Kd.R_reads' HO4.out).2.1 HRI.out).mono ?_; rintro x w5 ⟨rfl, ⟨nd, rfl⟩⟩; have hb6 := pw_below_drewN hb5 nd; have uB0 := kB0 _ hb6; have uB1 := kB1 _ hb6; have uB2 := kB2 _ hb6) | (go_at_call 25; refine (assert_plain.calls q A1_0 c1_0 l1_0 l0_1.length r _ (Kd.C_below HR1.out hb6) HC1.out HPL.out).mono ?_; rintro x w7 ⟨v7, rfl, hs7, hb7⟩; have HS7 := Aside0.mk hs7; have hb8b := below_step hb6 hb7; have hzz := Nat.le_trans (Nat.le_trans (Nat.le_add_right _ 2) (Nat.le_of_eq hz1.symm)) hb6.size; clear hs7))
  go_ret2
  exact ⟨_, rfl, Kd.S_lower HS7.out hzz, below_step HW.out (by assumption)⟩
set_option maxHeartbeats 8000000 in
set_option maxRecDepth 100000 in
theorem assert_Of.runoff_true (k : Nat) (a0_0 : ByteArray) (A0_1 : Option Addr) (c0_1 : Nat) (l0_1 : List ByteArray) (a0_2 : Int) (a0_3 : Int) (A1_0 : Option Addr) (c1_0 : Nat) (l1_0 : List Int) (A1_1 : Option Addr) (c1_1 : Nat) (l1_1 : List (S74)) (A1_2 : Option Addr) (c1_2 : Nat) (l1_2 : List (S148)) (w : World) (hr0_1 : Kd.C Kd.string w A0_1 l0_1.length l0_1) (hc0_1 : l0_1.length ≤ c0_1) (hr1_0 : Kd.C (Kd.int .i64) w A1_0 l1_0.length l1_0) (hc1_0 : l1_0.length ≤ c1_0) (hr1_1 : Kd.C k74 w A1_1 l1_1.length l1_1) (hc1_1 : l1_1.length ≤ c1_1) (hr1_2 : Kd.C k148 w A1_2 l1_2.length l1_2) (hc1_2 : l1_2.length ≤ c1_2) (he : contest_Check.f k a0_0 l0_1 a0_2 a0_3 = some 0) (q : Int) (hq : kindOf a0_3 = some q) (hln : l1_0.length * 8 ≤ 140737488355328) (el : List Int) (hel : (l1_0.mergeSort fun x y => decide (x ≤ y)) = el) (hne : (el.length : Int) = a0_2) (hri : assert_rising.f k el l0_1.length = some true) (r : List (S24)) (h4 : q = 4) (hro : assert_runoff.f k l1_0 l1_1 l1_2 l0_1.length = some (r, true)) :
    Calls Try.prog 9 #[.agg #[.string a0_0, .slice A0_1 l0_1.length c0_1, .int .i64 a0_2, .int .u8 a0_3], .agg #[.slice A1_0 l1_0.length c1_0, .slice A1_1 l1_1.length c1_1, .slice A1_2 l1_2.length c1_2]] w fun x w' => ∃ v0_ : Value, x = .returned (.tuple #[v0_, .int .i64 0]) ∧ Kd.S k24 24 w' w.heap.size (fun _ => True) v0_ r ∧ Below w.heap.size w w' := by
  have HE := Aside0.mk he
  have HQ := Aside0.mk hq
  have HLN := Aside0.mk hln
  have HEL := Aside0.mk hel
  clear he hq hln hel
  have hnb : ((el.length : Int) != a0_2) = false := bne_eq_false_iff_eq.mpr hne
  have HRI := Aside0.mk hri
  clear hne hri
  have h4b : (q != 4) = false := bne_eq_false_iff_eq.mpr h4
  have HRO := Aside0.mk hro
  clear h4 hro
  have hm0 := Kd.C_max hr0_1
  have hm1 := Kd.C_max hr1_0
  have hm2 := Kd.C_max hr1_1
  have hm3 := Kd.C_max hr1_2
  have HR0 := Aside0.mk (Kd.C_alloc (Kd.C_alloc hr0_1 (.cells #[.string a0_0, .slice A0_1 l0_1.length c0_1, .int .i64 a0_2, .int .u8 a0_3] 34)) (.cells #[.slice A1_0 l1_0.length c1_0, .slice A1_1 l1_1.length c1_1, .slice A1_2 l1_2.length c1_2] 41))
  have HR1 := Aside0.mk (Kd.C_alloc (Kd.C_alloc hr1_0 (.cells #[.string a0_0, .slice A0_1 l0_1.length c0_1, .int .i64 a0_2, .int .u8 a0_3] 34)) (.cells #[.slice A1_0 l1_0.length c1_0, .slice A1_1 l1_1.length c1_1, .slice A1_2 l1_2.length c1_2] 41))
  have HR2 := Aside0.mk (Kd.C_alloc (Kd.C_alloc hr1_1 (.cells #[.string a0_0, .slice A0_1 l0_1.length c0_1, .int .i64 a0_2, .int .u8 a0_3] 34)) (.cells #[.slice A1_0 l1_0.length c1_0, .slice A1_1 l1_1.length c1_1, .slice A1_2 l1_2.length c1_2] 41))
  have HR3 := Aside0.mk (Kd.C_alloc (Kd.C_alloc hr1_2 (.cells #[.string a0_0, .slice A0_1 l0_1.length c0_1, .int .i64 a0_2, .int .u8 a0_3] 34)) (.cells #[.slice A1_0 l1_0.length c1_0, .slice A1_1 l1_1.length c1_1, .slice A1_2 l1_2.length c1_2] 41))
  have HC0 := Aside0.mk hc0_1
  have HC1 := Aside0.mk hc1_0
  have HC2 := Aside0.mk hc1_1
  have HC3 := Aside0.mk hc1_2
  have hgA := blk_box (heap_alloc_new w (.cells #[.string a0_0, .slice A0_1 l0_1.length c0_1, .int .i64 a0_2, .int .u8 a0_3] 34)) (.cells #[.slice A1_0 l1_0.length c1_0, .slice A1_1 l1_1.length c1_1, .slice A1_2 l1_2.length c1_2] 41)
  have hgB := heap_new_at (b := w.heap.size + 1) (World.size_alloc w (.cells #[.string a0_0, .slice A0_1 l0_1.length c0_1, .int .i64 a0_2, .int .u8 a0_3] 34)) (.cells #[.slice A1_0 l1_0.length c1_0, .slice A1_1 l1_1.length c1_1, .slice A1_2 l1_2.length c1_2] 41)
  have HW := Aside0.mk (below_alloc (below_box (w := w) (.cells #[.string a0_0, .slice A0_1 l0_1.length c0_1, .int .i64 a0_2, .int .u8 a0_3] 34)) (.cells #[.slice A1_0 l1_0.length c1_0, .slice A1_1 l1_1.length c1_1, .slice A1_2 l1_2.length c1_2] 41))
  have hz1 : ((w.alloc (.cells #[.string a0_0, .slice A0_1 l0_1.length c0_1, .int .i64 a0_2, .int .u8 a0_3] 34)).alloc (.cells #[.slice A1_0 l1_0.length c1_0, .slice A1_1 l1_1.length c1_1, .slice A1_2 l1_2.length c1_2] 41)).heap.size = w.heap.size + 2 := by simp
  clear hr0_1 hc0_1 hr1_0 hc1_0 hr1_1 hc1_1 hr1_2 hc1_2
  have hmm := @run_makeMap Try.prog
  go_enter Try.func9, Try.ntmps9
  go_wp2_with fail
  generalize hW1 : (w.alloc (.cells #[.string a0_0, .slice A0_1 l0_1.length c0_1, .int .i64 a0_2, .int .u8 a0_3] 34)).alloc (.cells #[.slice A1_0 l1_0.length c1_0, .slice A1_1 l1_1.length c1_1, .slice A1_2 l1_2.length c1_2] 41) = W1 at *
  have kA0 : ∀ W, Below W1.heap.size W1 W → W.cell? ⟨w.heap.size, 0, none⟩ = some (.string a0_0) := fun W hb => (blk_cell (blk_later hgA hb) 0).trans rfl
  have kA1 : ∀ W, Below W1.heap.size W1 W → W.cell? ⟨w.heap.size, 1, none⟩ = some (.slice A0_1 l0_1.length c0_1) := fun W hb => (blk_cell (blk_later hgA hb) 1).trans rfl
  have kA2 : ∀ W, Below W1.heap.size W1 W → W.cell? ⟨w.heap.size, 2, none⟩ = some (.int .i64 a0_2) := fun W hb => (blk_cell (blk_later hgA hb) 2).trans rfl
  have kA3 : ∀ W, Below W1.heap.size W1 W → W.cell? ⟨w.heap.size, 3, none⟩ = some (.int .u8 a0_3) := fun W hb => (blk_cell (blk_later hgA hb) 3).trans rfl
  have kB0 : ∀ W, Below W1.heap.size W1 W → W.cell? ⟨w.heap.size + 1, 0, none⟩ = some (.slice A1_0 l1_0.length c1_0) := fun W hb => (blk_cell (blk_later hgB hb) 0).trans rfl
  have kB1 : ∀ W, Below W1.heap.size W1 W → W.cell? ⟨w.heap.size + 1, 1, none⟩ = some (.slice A1_1 l1_1.length c1_1) := fun W hb => (blk_cell (blk_later hgB hb) 1).trans rfl
  have kB2 : ∀ W, Below W1.heap.size W1 W → W.cell? ⟨w.heap.size + 1, 2, none⟩ = some (.slice A1_2 l1_2.length c1_2) := fun W hb => (blk_cell (blk_later hgB hb) 2).trans rfl
  clear hW1 hgA hgB
  have hb0 := Below.refl W1.heap.size W1
  go_at_call 21
  with_reducible refine (contest_Check.calls k a0_0 _ _ l0_1 a0_2 a0_3 0 _ HR0.out HC0.out HE.out).mono ?_
  rintro x w2 ⟨rfl, hb2⟩
  obtain ⟨W2, W3, W4, W5, W6, W7, W8, r1, r2, r3, r4, r5, r6, r7, hlk, hgr⟩ := kinds_made w2 a0_3 (some q) HQ.out; have hb8 := kinds_below hb2 rfl hgr
  have qA1 := kA1 W8 hb8
  have qA2 := kA2 W8 hb8
  have qA3 := kA3 W8 hb8
  have qB0 := kB0 W8 hb8
  go_wp2_with (first | (go_at_call 23; with_reducible refine (slicesValues_calls _ _ _ _).mono ?_; rintro x w3 ⟨rfl, hw3⟩; have hb3 : Below W1.heap.size W1 w3 := (by subst hw3; exact hb8.alloc hb8.size _); have hz3 : w3.heap.size = W8.heap.size + 1 := (by subst hw3; simp); have hc3 : w3.cell? ⟨W8.heap.size, 0, none⟩ = some (.slice A1_0 l1_0.length c1_0) := (by subst hw3; exact (Boxed.new W8 _ _).cell); clear hw3) | (go_at_call 22; refine (sortedValues_calls A1_0 c1_0 l1_0 w3 W8.heap.size (Kd.C_below HR1.out hb3) (by omega) hc3 HLN.out).mono ?_; rintro x w4 ⟨v4, rfl, ho4, hb4⟩; have HO4 := Aside0.mk (R_of_nums (sorted_own ho4 HEL.out)); clear ho4; have hb5 := below_step hb3 hb4; obtain ⟨Ao4, co4, eo4⟩ := Kd.R_slice HO4.out; subst eo4; have sA2 := kA2 w4 hb5; have sB0 := kB0 w4 hb5; have sB1 := kB1 w4 hb5; have sB2 := kB2 w4 hb5) | (go_at_call 24; refine (assert_rising.calls k _ _ el l0_1.length true _ (Kd.R_reads' HO4.out).2.2 (Kd.R_reads' HO4.out).2.1 HRI.out).mono ?_; rintro x w5 ⟨rfl, ⟨nd, rfl⟩⟩; have hb6 := pw_below_drewN hb5 nd; have uB0 := kB0 _ hb6; have uB1 := kB1 _ hb6; have uB2 := kB2 _ hb6) | (go_at_call 26; refine (assert_runoff.calls k A1_0 c1_0 l1_0 A1_1 c1_1 l1_1 A1_2 c1_2 l1_2 l0_1.length r true _ (Kd.C_below HR1.out hb6) HC1.out (Kd.C_below HR2.out hb6) HC2.out (Kd.C_below HR3.out hb6) HC3.out HRO.out).mono ?_; rintro x w7 ⟨v7, rfl, hs7, hb7⟩; have HS7 := Aside0.mk hs7; have hb8b := below_step hb6 hb7; have hzz := Nat.le_trans (Nat.le_trans (Nat.le_add_right _ 2) (Nat.le_of_eq hz1.symm)) hb6.size; clear hs7))
  go_ret2
  exact ⟨_, rfl, Kd.S_lower HS7.out hzz, below_step HW.out (by assumption)⟩
set_option maxHeartbeats 8000000 in
set_option maxRecDepth 100000 in
theorem assert_Of.runoff_false (k : Nat) (a0_0 : ByteArray) (A0_1 : Option Addr) (c0_1 : Nat) (l0_1 : List ByteArray) (a0_2 : Int) (a0_3 : Int) (A1_0 : Option Addr) (c1_0 : Nat) (l1_0 : List Int) (A1_1 : Option Addr) (c1_1 : Nat) (l1_1 : List (S74)) (A1_2 : Option Addr) (c1_2 : Nat) (l1_2 : List (S148)) (w : World) (hr0_1 : Kd.C Kd.string w A0_1 l0_1.length l0_1) (hc0_1 : l0_1.length ≤ c0_1) (hr1_0 : Kd.C (Kd.int .i64) w A1_0 l1_0.length l1_0) (hc1_0 : l1_0.length ≤ c1_0) (hr1_1 : Kd.C k74 w A1_1 l1_1.length l1_1) (hc1_1 : l1_1.length ≤ c1_1) (hr1_2 : Kd.C k148 w A1_2 l1_2.length l1_2) (hc1_2 : l1_2.length ≤ c1_2) (he : contest_Check.f k a0_0 l0_1 a0_2 a0_3 = some 0) (q : Int) (hq : kindOf a0_3 = some q) (hln : l1_0.length * 8 ≤ 140737488355328) (el : List Int) (hel : (l1_0.mergeSort fun x y => decide (x ≤ y)) = el) (hne : (el.length : Int) = a0_2) (hri : assert_rising.f k el l0_1.length = some true) (r : List (S24)) (h4 : q = 4) (hro : assert_runoff.f k l1_0 l1_1 l1_2 l0_1.length = some (r, false)) :
    Calls Try.prog 9 #[.agg #[.string a0_0, .slice A0_1 l0_1.length c0_1, .int .i64 a0_2, .int .u8 a0_3], .agg #[.slice A1_0 l1_0.length c1_0, .slice A1_1 l1_1.length c1_1, .slice A1_2 l1_2.length c1_2]] w fun x w' => x = .returned (.tuple #[.slice none 0 0, .int .i64 8]) ∧ Below w.heap.size w w' := by
  have HE := Aside0.mk he
  have HQ := Aside0.mk hq
  have HLN := Aside0.mk hln
  have HEL := Aside0.mk hel
  clear he hq hln hel
  have hnb : ((el.length : Int) != a0_2) = false := bne_eq_false_iff_eq.mpr hne
  have HRI := Aside0.mk hri
  clear hne hri
  have h4b : (q != 4) = false := bne_eq_false_iff_eq.mpr h4
  have HRO := Aside0.mk hro
  clear h4 hro
  have hm0 := Kd.C_max hr0_1
  have hm1 := Kd.C_max hr1_0
  have hm2 := Kd.C_max hr1_1
  have hm3 := Kd.C_max hr1_2
  have HR0 := Aside0.mk (Kd.C_alloc (Kd.C_alloc hr0_1 (.cells #[.string a0_0, .slice A0_1 l0_1.length c0_1, .int .i64 a0_2, .int .u8 a0_3] 34)) (.cells #[.slice A1_0 l1_0.length c1_0, .slice A1_1 l1_1.length c1_1, .slice A1_2 l1_2.length c1_2] 41))
  have HR1 := Aside0.mk (Kd.C_alloc (Kd.C_alloc hr1_0 (.cells #[.string a0_0, .slice A0_1 l0_1.length c0_1, .int .i64 a0_2, .int .u8 a0_3] 34)) (.cells #[.slice A1_0 l1_0.length c1_0, .slice A1_1 l1_1.length c1_1, .slice A1_2 l1_2.length c1_2] 41))
  have HR2 := Aside0.mk (Kd.C_alloc (Kd.C_alloc hr1_1 (.cells #[.string a0_0, .slice A0_1 l0_1.length c0_1, .int .i64 a0_2, .int .u8 a0_3] 34)) (.cells #[.slice A1_0 l1_0.length c1_0, .slice A1_1 l1_1.length c1_1, .slice A1_2 l1_2.length c1_2] 41))
  have HR3 := Aside0.mk (Kd.C_alloc (Kd.C_alloc hr1_2 (.cells #[.string a0_0, .slice A0_1 l0_1.length c0_1, .int .i64 a0_2, .int .u8 a0_3] 34)) (.cells #[.slice A1_0 l1_0.length c1_0, .slice A1_1 l1_1.length c1_1, .slice A1_2 l1_2.length c1_2] 41))
  have HC0 := Aside0.mk hc0_1
  have HC1 := Aside0.mk hc1_0
  have HC2 := Aside0.mk hc1_1
  have HC3 := Aside0.mk hc1_2
  have hgA := blk_box (heap_alloc_new w (.cells #[.string a0_0, .slice A0_1 l0_1.length c0_1, .int .i64 a0_2, .int .u8 a0_3] 34)) (.cells #[.slice A1_0 l1_0.length c1_0, .slice A1_1 l1_1.length c1_1, .slice A1_2 l1_2.length c1_2] 41)
  have hgB := heap_new_at (b := w.heap.size + 1) (World.size_alloc w (.cells #[.string a0_0, .slice A0_1 l0_1.length c0_1, .int .i64 a0_2, .int .u8 a0_3] 34)) (.cells #[.slice A1_0 l1_0.length c1_0, .slice A1_1 l1_1.length c1_1, .slice A1_2 l1_2.length c1_2] 41)
  have HW := Aside0.mk (below_alloc (below_box (w := w) (.cells #[.string a0_0, .slice A0_1 l0_1.length c0_1, .int .i64 a0_2, .int .u8 a0_3] 34)) (.cells #[.slice A1_0 l1_0.length c1_0, .slice A1_1 l1_1.length c1_1, .slice A1_2 l1_2.length c1_2] 41))
  have hz1 : ((w.alloc (.cells #[.string a0_0, .slice A0_1 l0_1.length c0_1, .int .i64 a0_2, .int .u8 a0_3] 34)).alloc (.cells #[.slice A1_0 l1_0.length c1_0, .slice A1_1 l1_1.length c1_1, .slice A1_2 l1_2.length c1_2] 41)).heap.size = w.heap.size + 2 := by simp
  clear hr0_1 hc0_1 hr1_0 hc1_0 hr1_1 hc1_1 hr1_2 hc1_2
  have hmm := @run_makeMap Try.prog
  go_enter Try.func9, Try.ntmps9
  go_wp2_with fail
  generalize hW1 : (w.alloc (.cells #[.string a0_0, .slice A0_1 l0_1.length c0_1, .int .i64 a0_2, .int .u8 a0_3] 34)).alloc (.cells #[.slice A1_0 l1_0.length c1_0, .slice A1_1 l1_1.length c1_1, .slice A1_2 l1_2.length c1_2] 41) = W1 at *
  have kA0 : ∀ W, Below W1.heap.size W1 W → W.cell? ⟨w.heap.size, 0, none⟩ = some (.string a0_0) := fun W hb => (blk_cell (blk_later hgA hb) 0).trans rfl
  have kA1 : ∀ W, Below W1.heap.size W1 W → W.cell? ⟨w.heap.size, 1, none⟩ = some (.slice A0_1 l0_1.length c0_1) := fun W hb => (blk_cell (blk_later hgA hb) 1).trans rfl
  have kA2 : ∀ W, Below W1.heap.size W1 W → W.cell? ⟨w.heap.size, 2, none⟩ = some (.int .i64 a0_2) := fun W hb => (blk_cell (blk_later hgA hb) 2).trans rfl
  have kA3 : ∀ W, Below W1.heap.size W1 W → W.cell? ⟨w.heap.size, 3, none⟩ = some (.int .u8 a0_3) := fun W hb => (blk_cell (blk_later hgA hb) 3).trans rfl
  have kB0 : ∀ W, Below W1.heap.size W1 W → W.cell? ⟨w.heap.size + 1, 0, none⟩ = some (.slice A1_0 l1_0.length c1_0) := fun W hb => (blk_cell (blk_later hgB hb) 0).trans rfl
  have kB1 : ∀ W, Below W1.heap.size W1 W → W.cell? ⟨w.heap.size + 1, 1, none⟩ = some (.slice A1_1 l1_1.length c1_1) := fun W hb => (blk_cell (blk_later hgB hb) 1).trans rfl
  have kB2 : ∀ W, Below W1.heap.size W1 W → W.cell? ⟨w.heap.size + 1, 2, none⟩ = some (.slice A1_2 l1_2.length c1_2) := fun W hb => (blk_cell (blk_later hgB hb) 2).trans rfl
  clear hW1 hgA hgB
  have hb0 := Below.refl W1.heap.size W1
  go_at_call 21
  with_reducible refine (contest_Check.calls k a0_0 _ _ l0_1 a0_2 a0_3 0 _ HR0.out HC0.out HE.out).mono ?_
  rintro x w2 ⟨rfl, hb2⟩
  obtain ⟨W2, W3, W4, W5, W6, W7, W8, r1, r2, r3, r4, r5, r6, r7, hlk, hgr⟩ := kinds_made w2 a0_3 (some q) HQ.out; have hb8 := kinds_below hb2 rfl hgr
  have qA1 := kA1 W8 hb8
  have qA2 := kA2 W8 hb8
  have qA3 := kA3 W8 hb8
  have qB0 := kB0 W8 hb8
  go_wp2_with (first | (go_at_call 23; with_reducible refine (slicesValues_calls _ _ _ _).mono ?_; rintro x w3 ⟨rfl, hw3⟩; have hb3 : Below W1.heap.size W1 w3 := (by subst hw3; exact hb8.alloc hb8.size _); have hz3 : w3.heap.size = W8.heap.size + 1 := (by subst hw3; simp); have hc3 : w3.cell? ⟨W8.heap.size, 0, none⟩ = some (.slice A1_0 l1_0.length c1_0) := (by subst hw3; exact (Boxed.new W8 _ _).cell); clear hw3) | (go_at_call 22; refine (sortedValues_calls A1_0 c1_0 l1_0 w3 W8.heap.size (Kd.C_below HR1.out hb3) (by omega) hc3 HLN.out).mono ?_; rintro x w4 ⟨v4, rfl, ho4, hb4⟩; have HO4 := Aside0.mk (R_of_nums (sorted_own ho4 HEL.out)); clear ho4; have hb5 := below_step hb3 hb4; obtain ⟨Ao4, co4, eo4⟩ := Kd.R_slice HO4.out; subst eo4; have sA2 := kA2 w4 hb5; have sB0 := kB0 w4 hb5; have sB1 := kB1 w4 hb5; have sB2 := kB2 w4 hb5) | (go_at_call 24; refine (assert_rising.calls k _ _ el l0_1.length true _ (Kd.R_reads' HO4.out).2.2 (Kd.R_reads' HO4.out).2.1 HRI.out).mono ?_; rintro x w5 ⟨rfl, ⟨nd, rfl⟩⟩; have hb6 := pw_below_drewN hb5 nd; have uB0 := kB0 _ hb6; have uB1 := kB1 _ hb6; have uB2 := kB2 _ hb6) | (go_at_call 26; refine (assert_runoff.calls k A1_0 c1_0 l1_0 A1_1 c1_1 l1_1 A1_2 c1_2 l1_2 l0_1.length r false _ (Kd.C_below HR1.out hb6) HC1.out (Kd.C_below HR2.out hb6) HC2.out (Kd.C_below HR3.out hb6) HC3.out HRO.out).mono ?_; rintro x w7 ⟨v7, rfl, hs7, hb7⟩; have HS7 := Aside0.mk hs7; have hb8b := below_step hb6 hb7; have hzz := Nat.le_trans (Nat.le_trans (Nat.le_add_right _ 2) (Nat.le_of_eq hz1.symm)) hb6.size; clear hs7))
  go_ret2
  exact ⟨rfl, below_step HW.out (by assumption)⟩
def assert_Of.f (k : Nat) (a0_0 : ByteArray) (l0_1 : List ByteArray) (a0_2 a0_3 : Int) (l1_0 : List Int) (l1_1 : List (S74)) (l1_2 : List (S148)) : Option (List (S24) × Int) :=
  (contest_Check.f k a0_0 l0_1 a0_2 a0_3).bind fun e => if e = 0 then (if kindOf a0_3 = none then some ([], 6)
    else if l1_0.length * 8 ≤ 140737488355328 then (if ((l1_0.mergeSort fun x y => decide (x ≤ y)).length : Int) = a0_2 then (assert_rising.f k (l1_0.mergeSort fun x y => decide (x ≤ y)) l0_1.length).bind fun t => if t = true then
      (if (kindOf a0_3).getD 0 = 4 then (assert_runoff.f k l1_0 l1_1 l1_2 l0_1.length).bind fun p => if p.2 = true then some (p.1, 0) else some ([], 8)
       else (assert_plain.f ((kindOf a0_3).getD 0) l1_0 l0_1.length).bind fun l => some (l, 0))
      else some ([], 8) else some ([], 8)) else none) else some ([], e)
theorem assert_Of.mono : ∀ a0 a1 a2 a3 a4 a5 a6 k, LeO (assert_Of.f k a0 a1 a2 a3 a4 a5 a6) (assert_Of.f (k + 1) a0 a1 a2 a3 a4 a5 a6) := by
  intro a0 a1 a2 a3 a4 a5 a6 k
  unfold assert_Of.f
  repeat' first
      | (with_reducible exact contest_Check.mono _ _ _ _ _)
      | (with_reducible exact assert_rising.mono _ _ _)
      | (with_reducible exact assert_runoff.mono _ _ _ _ _)
      | (with_reducible exact LeO.refl _)
      | (with_reducible refine LeO.ite ?_ ?_)
      | (with_reducible refine LeO.bind ?_ (fun _ => ?_))
set_option maxHeartbeats 8000000 in
theorem assert_Of.calls (k : Nat) (a0_0 : ByteArray) (A0_1 : Option Addr) (c0_1 : Nat) (l0_1 : List ByteArray) (a0_2 : Int) (a0_3 : Int) (A1_0 : Option Addr) (c1_0 : Nat) (l1_0 : List Int) (A1_1 : Option Addr) (c1_1 : Nat) (l1_1 : List (S74)) (A1_2 : Option Addr) (c1_2 : Nat) (l1_2 : List (S148)) (r1 : List (S24)) (r2 : Int) (w : World) (hr0_1 : Kd.C Kd.string w A0_1 l0_1.length l0_1) (hc0_1 : l0_1.length ≤ c0_1) (hr1_0 : Kd.C (Kd.int .i64) w A1_0 l1_0.length l1_0) (hc1_0 : l1_0.length ≤ c1_0) (hr1_1 : Kd.C k74 w A1_1 l1_1.length l1_1) (hc1_1 : l1_1.length ≤ c1_1) (hr1_2 : Kd.C k148 w A1_2 l1_2.length l1_2) (hc1_2 : l1_2.length ≤ c1_2) (h : assert_Of.f k a0_0 l0_1 a0_2 a0_3 l1_0 l1_1 l1_2 = some (r1, r2)) :
    Calls Try.prog 9 #[.agg #[.string a0_0, .slice A0_1 l0_1.length c0_1, .int .i64 a0_2, .int .u8 a0_3], .agg #[.slice A1_0 l1_0.length c1_0, .slice A1_1 l1_1.length c1_1, .slice A1_2 l1_2.length c1_2]] w fun e w' => ∃ v0_ : Value, e = .returned (.tuple #[v0_, .int .i64 r2]) ∧ Kd.S k24 24 w' w.heap.size (fun _ => True) v0_ r1 ∧ Below w.heap.size w w' := by
  have bad : ∀ (n : Int), ([], n) = (r1, r2) → Calls Try.prog 9 #[.agg #[.string a0_0, .slice A0_1 l0_1.length c0_1, .int .i64 a0_2, .int .u8 a0_3], .agg #[.slice A1_0 l1_0.length c1_0, .slice A1_1 l1_1.length c1_1, .slice A1_2 l1_2.length c1_2]] w (fun x w' => x = .returned (.tuple #[.slice none 0 0, .int .i64 n]) ∧ Below w.heap.size w w') → Calls Try.prog 9 #[.agg #[.string a0_0, .slice A0_1 l0_1.length c0_1, .int .i64 a0_2, .int .u8 a0_3], .agg #[.slice A1_0 l1_0.length c1_0, .slice A1_1 l1_1.length c1_1, .slice A1_2 l1_2.length c1_2]] w (fun e w' => ∃ v0_ : Value, e = .returned (.tuple #[v0_, .int .i64 r2]) ∧ Kd.S k24 24 w' w.heap.size (fun _ => True) v0_ r1 ∧ Below w.heap.size w w') := by
    intro n he hc
    injection he with e1 e2
    subst e1 e2
    refine hc.mono ?_
    rintro e w' ⟨rfl, hb⟩
    exact ⟨_, rfl, Kd.S_nil _ _ _ _ _, hb⟩
  unfold assert_Of.f at h
  obtain ⟨e, he, h⟩ := Option.bind_eq_some_iff.1 h
  by_cases h0 : e = 0
  · subst h0
    rw [if_pos rfl] at h
    cases hq : kindOf a0_3 with
    | none =>
      rw [if_pos hq] at h
      exact bad _ (Option.some.inj h) (assert_Of.nokind k a0_0 A0_1 c0_1 l0_1 a0_2 a0_3 A1_0 c1_0 l1_0 A1_1 c1_1 l1_1 A1_2 c1_2 l1_2 w hr0_1 hc0_1 hr1_0 hc1_0 hr1_1 hc1_1 hr1_2 hc1_2 he hq)
    | some q =>
      rw [if_neg (by rw [hq]; simp), hq, Option.getD_some] at h
      by_cases hln : l1_0.length * 8 ≤ 140737488355328
      · rw [if_pos hln] at h
        by_cases hne : ((l1_0.mergeSort fun x y => decide (x ≤ y)).length : Int) = a0_2
        · rw [if_pos hne] at h
          obtain ⟨t, ht, h⟩ := Option.bind_eq_some_iff.1 h
          cases t with
          | false =>
            rw [if_neg (by simp)] at h
            exact bad _ (Option.some.inj h) (assert_Of.falling k a0_0 A0_1 c0_1 l0_1 a0_2 a0_3 A1_0 c1_0 l1_0 A1_1 c1_1 l1_1 A1_2 c1_2 l1_2 w hr0_1 hc0_1 hr1_0 hc1_0 hr1_1 hc1_1 hr1_2 hc1_2 he q hq hln _ rfl hne ht)
          | true =>
            rw [if_pos rfl] at h
            by_cases h4 : q = 4
            · rw [if_pos h4] at h
              obtain ⟨⟨l, ok⟩, hro, h⟩ := Option.bind_eq_some_iff.1 h
              cases ok with
              | true =>
                rw [if_pos rfl] at h
                have h := Option.some.inj h
                injection h with e1 e2
                subst e1 e2
                exact assert_Of.runoff_true k a0_0 A0_1 c0_1 l0_1 a0_2 a0_3 A1_0 c1_0 l1_0 A1_1 c1_1 l1_1 A1_2 c1_2 l1_2 w hr0_1 hc0_1 hr1_0 hc1_0 hr1_1 hc1_1 hr1_2 hc1_2 he q hq hln _ rfl hne ht _ h4 hro
              | false =>
                rw [if_neg (by simp)] at h
                exact bad _ (Option.some.inj h) (assert_Of.runoff_false k a0_0 A0_1 c0_1 l0_1 a0_2 a0_3 A1_0 c1_0 l1_0 A1_1 c1_1 l1_1 A1_2 c1_2 l1_2 w hr0_1 hc0_1 hr1_0 hc1_0 hr1_1 hc1_1 hr1_2 hc1_2 he q hq hln _ rfl hne ht _ h4 hro)
            · rw [if_neg h4] at h
              obtain ⟨l, hpl, h⟩ := Option.bind_eq_some_iff.1 h
              have h := Option.some.inj h
              injection h with e1 e2
              subst e1 e2
              exact assert_Of.plain k a0_0 A0_1 c0_1 l0_1 a0_2 a0_3 A1_0 c1_0 l1_0 A1_1 c1_1 l1_1 A1_2 c1_2 l1_2 w hr0_1 hc0_1 hr1_0 hc1_0 hr1_1 hc1_1 hr1_2 hc1_2 he q hq hln _ rfl hne ht _ h4 hpl
        · rw [if_neg hne] at h
          exact bad _ (Option.some.inj h) (assert_Of.number k a0_0 A0_1 c0_1 l0_1 a0_2 a0_3 A1_0 c1_0 l1_0 A1_1 c1_1 l1_1 A1_2 c1_2 l1_2 w hr0_1 hc0_1 hr1_0 hc1_0 hr1_1 hc1_1 hr1_2 hc1_2 he q hq hln _ rfl hne)
      · rw [if_neg hln] at h
        cases h
  · rw [if_neg h0] at h
    exact bad _ (Option.some.inj h) (assert_Of.refused k a0_0 A0_1 c0_1 l0_1 a0_2 a0_3 A1_0 c1_0 l1_0 A1_1 c1_1 l1_1 A1_2 c1_2 l1_2 w hr0_1 hc0_1 hr1_0 hc1_0 hr1_1 hc1_1 hr1_2 hc1_2 e he h0)
/-! ### suffrageref08_Ints: function 10 -/
def suffrageref08_Ints.l0 : Nat → List Int → List Int → Int → Option (Bool)
  | 0, _, _, _ => none
  | k + 1, x0, x1, x5 => if x5 < (x0.length : Int) then (if 0 ≤ x5 then (if x5 < (x1.length : Int) then (if (rd x0 x5) = (rd x1 x5) then (suffrageref08_Ints.l0 k x0 x1 (wrap64 (x5 + 1))) else (some false)) else (none)) else (none)) else (some true)
def suffrageref08_Ints.f (k : Nat) (l0 : List Int) (l1 : List Int) : Option (Bool) := if (l0.length : Int) = (l1.length : Int) then (suffrageref08_Ints.l0 k l0 l1 0) else (some false)
theorem suffrageref08_Ints.mono_l : ∀ k, (∀ y0 y1 y2, LeO (suffrageref08_Ints.l0 k y0 y1 y2) (suffrageref08_Ints.l0 (k + 1) y0 y1 y2))
  | 0 => fun _ _ _ r h => by simp [suffrageref08_Ints.l0] at h
  | k + 1 => by
    have ih0 := suffrageref08_Ints.mono_l k
    · intro y0 y1 y2; unfold suffrageref08_Ints.l0; repeat' first
      | (with_reducible exact ih0 _ _ _)
      | (with_reducible exact LeO.refl _)
      | (with_reducible exact LeO.none _)
      | (with_reducible refine LeO.ite ?_ ?_)
      | (with_reducible refine LeO.bind ?_ (fun _ => ?_))
      | exact ih0 _ _ _
      | exact LeO.none _
      | refine LeO.ite ?_ ?_
      | refine LeO.bind ?_ (fun _ => ?_)
theorem suffrageref08_Ints.mono : ∀ a0 a1 k, LeO (suffrageref08_Ints.f k a0 a1) (suffrageref08_Ints.f (k + 1) a0 a1) := by
  intro a0 a1 k; have ih0 := suffrageref08_Ints.mono_l k; unfold suffrageref08_Ints.f
  repeat' first
      | (with_reducible exact ih0 _ _ _)
      | (with_reducible exact LeO.refl _)
      | (with_reducible exact LeO.none _)
      | (with_reducible refine LeO.ite ?_ ?_)
      | (with_reducible refine LeO.bind ?_ (fun _ => ?_))
      | exact ih0 _ _ _
      | exact LeO.none _
      | refine LeO.ite ?_ ?_
      | refine LeO.bind ?_ (fun _ => ?_)
set_option maxHeartbeats 8000000 in
set_option maxRecDepth 100000 in
theorem suffrageref08_Ints.calls (k : Nat) (A0 : Option Addr) (c0 : Nat) (l0 : List Int) (A1 : Option Addr) (c1 : Nat) (l1 : List Int) (r : Bool) (w : World) (hr0 : Kd.C (Kd.int .i64) w A0 l0.length l0) (hc0 : l0.length ≤ c0) (hr1 : Kd.C (Kd.int .i64) w A1 l1.length l1) (hc1 : l1.length ≤ c1) (h : suffrageref08_Ints.f k l0 l1 = some r) :
    Calls Try.prog 10 #[.slice A0 l0.length c0, .slice A1 l1.length c1] w fun e w' => e = .returned (.bool r) ∧ Drawn0 w w' := by
  have HR0 := Aside0.mk hr0; have HC0 := Aside0.mk hc0; clear hr0 hc0; have HR1 := Aside0.mk hr1; have HC1 := Aside0.mk hc1; clear hr1 hc1; have H : (if (l0.length : Int) = (l1.length : Int) then (suffrageref08_Ints.l0 k l0 l1 0) else (some false)) = some r := h; clear h
  by_cases c3 : (l0.length : Int) = (l1.length : Int)
  · rw [if_pos c3] at H; have c3b0 : ((l0.length : Int) == (l1.length : Int)) = true := beq_iff_eq.mpr c3; have c3b1 : ((l0.length : Int) != (l1.length : Int)) = false := bne_eq_false_iff_eq.mpr c3
    have c3b2 : (l0.length == l1.length) = true := by first | simpa using c3 | (simp at c3 ⊢; omega)
    clear c3; have H' := Aside0.mk H; clear H
    go_enter Try.func10, Try.ntmps10
    go_wp2; (repeat (go_quiet (fail); try go_wp2))
    go_loopg [5] k (fun kq v5 w' => ∃ (x5_1 : Int), v5 = .int .i64 x5_1 ∧ Aside0 (suffrageref08_Ints.l0 kq l0 l1 x5_1 = some r) ∧ Aside0 (kq ≤ k) ∧ Drawn0 w w')
    case atStart => exact ⟨(0), rl_, H', ⟨Nat.le_refl _⟩, by repeat (first | exact Drawn0.refl _ | apply Drawn0.step)⟩
    case round =>
      clear H'; (try clear c1); (try clear p2); (try clear c3); (try clear c3b0); (try clear c3b1); (try clear c3b2); obtain ⟨x5_1, rfl, HA, HK1, ⟨m1, rfl⟩⟩ := hrel
      cases gk with
      | zero => exact absurd HA.out (by simp [suffrageref08_Ints.l0])
      | succ k1 =>
        have H := HA.out; clear HA; simp only [suffrageref08_Ints.l0] at H
        by_cases c4 : x5_1 < (l0.length : Int)
        · rw [if_pos c4] at H; have c4b0 : decide (x5_1 < (l0.length : Int)) = true := decide_eq_true c4; clear c4
          by_cases c5 : 0 ≤ x5_1
          · rw [if_pos c5] at H; have c5b0 : decide (0 ≤ x5_1) = true := decide_eq_true c5; clear c5
            by_cases c6 : x5_1 < (l1.length : Int)
            · rw [if_pos c6] at H; have c6b0 : decide (x5_1 < (l1.length : Int)) = true := decide_eq_true c6; clear c6
              by_cases c7 : (rd l0 x5_1) = (rd l1 x5_1)
              · rw [if_pos c7] at H; have c7b0 : ((rd l0 x5_1) == (rd l1 x5_1)) = true := beq_iff_eq.mpr c7; have c7b1 : ((rd l0 x5_1) != (rd l1 x5_1)) = false := bne_eq_false_iff_eq.mpr c7; clear c7; have H' := Aside0.mk H; clear H; have p303 : 0 ≤ (x5_1 : Int) := of_decide_eq_true as_; have q303 : x5_1 < (l0.length : Int) := of_decide_eq_true as_; obtain ⟨ad303, e303, hx303_0⟩ := Kd.at_int HR0.out x5_1 p303 q303; cases e303; replace p303 := eq_true p303; replace q303 := eq_true q303; have p304 : 0 ≤ (x5_1 : Int) := of_decide_eq_true as_; have q304 : x5_1 < (l1.length : Int) := of_decide_eq_true as_; obtain ⟨ad304, e304, hx304_0⟩ := Kd.at_int HR1.out x5_1 p304 q304; cases e304; replace p304 := eq_true p304; replace q304 := eq_true q304; go_wp2; (repeat (go_quiet (fail); try go_wp2)); go_roundg k1
                case measure => have := HK1.out; omega
                case rel => exact ⟨(wrap64 (x5_1 + 1)), rl_, H', ⟨by have := HK1.out; omega⟩, by repeat (first | exact Drawn0.refl _ | apply Drawn0.step)⟩
              (· rw [if_neg c7] at H; have c7b0 : ((rd l0 x5_1) == (rd l1 x5_1)) = false := beq_eq_false_iff_ne.mpr c7; have c7b1 : ((rd l0 x5_1) != (rd l1 x5_1)) = true := bne_iff_ne.mpr c7; obtain rfl := Option.some.inj H; have p303 : 0 ≤ (x5_1 : Int) := of_decide_eq_true as_; have q303 : x5_1 < (l0.length : Int) := of_decide_eq_true as_; obtain ⟨ad303, e303, hx303_0⟩ := Kd.at_int HR0.out x5_1 p303 q303; cases e303; replace p303 := eq_true p303; replace q303 := eq_true q303; have p304 : 0 ≤ (x5_1 : Int) := of_decide_eq_true as_; have q304 : x5_1 < (l1.length : Int) := of_decide_eq_true as_; obtain ⟨ad304, e304, hx304_0⟩ := Kd.at_int HR1.out x5_1 p304 q304; cases e304; replace p304 := eq_true p304; replace q304 := eq_true q304; go_wp2; (repeat (go_quiet (fail); try go_wp2)); go_ret; exact ⟨by first | rfl | (simp; done) | (simp [*]; done), by repeat (first | exact Drawn0.refl _ | apply Drawn0.step)⟩)
            (· rw [if_neg c6] at H; exact absurd H (by simp))
          (· rw [if_neg c5] at H; exact absurd H (by simp))
        (· rw [if_neg c4] at H; have c4b0 : decide (x5_1 < (l0.length : Int)) = false := decide_eq_false c4; clear c4; obtain rfl := Option.some.inj H; go_wp2; (repeat (go_quiet (fail); try go_wp2)); go_ret; exact ⟨by first | rfl | (simp; done) | (simp [*]; done), by repeat (first | exact Drawn0.refl _ | apply Drawn0.step)⟩)
  · rw [if_neg c3] at H; have c3b0 : ((l0.length : Int) == (l1.length : Int)) = false := beq_eq_false_iff_ne.mpr c3; have c3b1 : ((l0.length : Int) != (l1.length : Int)) = true := bne_iff_ne.mpr c3
    have c3b2 : (l0.length == l1.length) = false := by first | simpa using c3 | (simp at c3 ⊢; omega)
    obtain rfl := Option.some.inj H
    go_enter Try.func10, Try.ntmps10
    go_wp2; (repeat (go_quiet (fail); try go_wp2)); go_ret; exact ⟨by first | rfl | (simp; done) | (simp [*]; done), by repeat (first | exact Drawn0.refl _ | apply Drawn0.step)⟩
/-! ### suffrageref41_Same: function 27 -/
def suffrageref41_Same.f (k : Nat) (a0_0 : Int) (a0_1 : Int) (a0_2 : Int) (l0_3 : List Int) (a1_0 : Int) (a1_1 : Int) (a1_2 : Int) (l1_3 : List Int) : Option (Bool) := if a0_0 = a1_0 then (if a0_1 = a1_1 then (if a0_2 = a1_2 then ((suffrageref08_Ints.f k l0_3 l1_3).bind fun t307 => (some t307)) else (some false)) else (some false)) else (some false)
theorem suffrageref41_Same.mono : ∀ a0 a1 a2 a3 a4 a5 a6 a7 k, LeO (suffrageref41_Same.f k a0 a1 a2 a3 a4 a5 a6 a7) (suffrageref41_Same.f (k + 1) a0 a1 a2 a3 a4 a5 a6 a7) := by
  intro a0 a1 a2 a3 a4 a5 a6 a7 k; unfold suffrageref41_Same.f
  repeat' first
      | (with_reducible exact suffrageref08_Ints.mono _ _ _)
      | (with_reducible exact LeO.refl _)
      | (with_reducible exact LeO.none _)
      | (with_reducible refine LeO.ite ?_ ?_)
      | (with_reducible refine LeO.bind ?_ (fun _ => ?_))
      | exact suffrageref08_Ints.mono _ _ _
      | exact LeO.none _
      | refine LeO.ite ?_ ?_
      | refine LeO.bind ?_ (fun _ => ?_)
set_option maxHeartbeats 8000000 in
set_option maxRecDepth 100000 in
theorem suffrageref41_Same.calls (k : Nat) (a0_0 : Int) (a0_1 : Int) (a0_2 : Int) (A0_3 : Option Addr) (c0_3 : Nat) (l0_3 : List Int) (a1_0 : Int) (a1_1 : Int) (a1_2 : Int) (A1_3 : Option Addr) (c1_3 : Nat) (l1_3 : List Int) (r : Bool) (w : World) (hr0_3 : Kd.C (Kd.int .i64) w A0_3 l0_3.length l0_3) (hc0_3 : l0_3.length ≤ c0_3) (hr1_3 : Kd.C (Kd.int .i64) w A1_3 l1_3.length l1_3) (hc1_3 : l1_3.length ≤ c1_3) (h : suffrageref41_Same.f k a0_0 a0_1 a0_2 l0_3 a1_0 a1_1 a1_2 l1_3 = some r) :
    Calls Try.prog 27 #[.agg #[.int .u8 a0_0, .int .i64 a0_1, .int .i64 a0_2, .slice A0_3 l0_3.length c0_3], .agg #[.int .u8 a1_0, .int .i64 a1_1, .int .i64 a1_2, .slice A1_3 l1_3.length c1_3]] w fun e w' => e = .returned (.bool r) ∧ Below w.heap.size w w' := by
  have hu24 := Try.underlying24; have HR0_3 := Aside0.mk hr0_3; have HC0_3 := Aside0.mk hc0_3; clear hr0_3 hc0_3; have HR1_3 := Aside0.mk hr1_3; have HC1_3 := Aside0.mk hc1_3; clear hr1_3 hc1_3; have HB := Aside0.mk (Below.refl w.heap.size w); have H : (if a0_0 = a1_0 then (if a0_1 = a1_1 then (if a0_2 = a1_2 then ((suffrageref08_Ints.f k l0_3 l1_3).bind fun t307 => (some t307)) else (some false)) else (some false)) else (some false)) = some r := h; clear h
  by_cases c3 : a0_0 = a1_0
  · rw [if_pos c3] at H; have c3b0 : (a0_0 == a1_0) = true := beq_iff_eq.mpr c3; have c3b1 : (a0_0 != a1_0) = false := bne_eq_false_iff_eq.mpr c3; clear c3
    by_cases c4 : a0_1 = a1_1
    · rw [if_pos c4] at H; have c4b0 : (a0_1 == a1_1) = true := beq_iff_eq.mpr c4; have c4b1 : (a0_1 != a1_1) = false := bne_eq_false_iff_eq.mpr c4; clear c4
      by_cases c5 : a0_2 = a1_2
      · rw [if_pos c5] at H; have c5b0 : (a0_2 == a1_2) = true := beq_iff_eq.mpr c5; have c5b1 : (a0_2 != a1_2) = false := bne_eq_false_iff_eq.mpr c5; clear c5; replace H := Option.bind_eq_some_iff.mp H; obtain ⟨t307, A60, H⟩ := H; replace H : (some t307) = some r := H; have A6 := Aside0.mk A60; clear A60; obtain rfl := Option.some.inj H
        go_enter Try.func27, Try.ntmps27
        go_wp2_with (first | ((with_reducible refine gate_dst (N := 2) rfl ?_); refine box_event ?hg (N := 2) ?hd (cs := #[.int .u8 a0_0, .int .i64 a0_1, .int .i64 a0_2, .slice A0_3 l0_3.length c0_3]) (t := 24) ?hr ?_; (case hd => rfl); (case hg => rfl); (case hr => first | (go_simp; done) | (go_simp; rfl)); intro gb305 hg w7 hbox hb; have n0_ := Aside0.mk (below_step bl_ hb); have n1_ := Aside0.mk (hbox); have n2_ := Aside0.mk ((by rw [hg]; exact (below_size bl_) : w.heap.size ≤ gb305)); have n3_ := Aside0.mk ((by rw [hg]; exact (below_size bl_) : w.heap.size ≤ gb305)); clear HB; have HB := n0_; have BK305 := n1_; have GW305 := n2_; have GE305 := n3_; clear n0_ n1_ n2_ n3_; clear hb hbox hg) | ((with_reducible refine gate_dst (N := 3) rfl ?_); refine box_event ?hg (N := 3) ?hd (cs := #[.int .u8 a1_0, .int .i64 a1_1, .int .i64 a1_2, .slice A1_3 l1_3.length c1_3]) (t := 24) ?hr ?_; (case hd => rfl); (case hg => rfl); (case hr => first | (go_simp; done) | (go_simp; rfl)); intro gb306 hg w8 hbox hb; have n0_ := Aside0.mk (blk_below (g := gb305) (o := .cells #[.int .u8 a0_0, .int .i64 a0_1, .int .i64 a0_2, .slice A0_3 l0_3.length c0_3] 24 (0, 0)) (by (with_reducible repeat (first | refine blk_drewN ?_ _ | refine blk_drew ?_ | refine blk_alloc ?_ _)); exact BK305.out) hb); have n1_ := Aside0.mk (below_step (by repeat (first | (with_reducible first | exact HB.out | apply below_alloc | apply pw_below_drewN | apply below_drew1 | refine below_set ?_ GE305.out) | exact HB.out)) hb); have n2_ := Aside0.mk (hbox); have n3_ := Aside0.mk ((by rw [hg]; exact (below_size (by repeat (first | (with_reducible first | exact HB.out | apply below_alloc | apply pw_below_drewN | apply below_drew1 | refine below_set ?_ GE305.out) | exact HB.out))) : w.heap.size ≤ gb306)); have n4_ := Aside0.mk ((by rw [hg]; exact (below_size (by repeat (first | (with_reducible first | exact HB.out | apply below_alloc | apply pw_below_drewN | apply below_drew1 | refine below_set ?_ GE305.out) | exact HB.out))) : w.heap.size ≤ gb306)); have n5_ := Aside0.mk ((by rw [hg]; exact Nat.ne_of_lt (blk_lt (g := gb305) (o := .cells #[.int .u8 a0_0, .int .i64 a0_1, .int .i64 a0_2, .slice A0_3 l0_3.length c0_3] 24 (0, 0)) (by (with_reducible repeat (first | refine blk_drewN ?_ _ | refine blk_drew ?_ | refine blk_alloc ?_ _)); exact BK305.out)) : gb305 ≠ gb306)); have n6_ := Aside0.mk ((by rw [hg]; exact Nat.ne_of_gt (blk_lt (g := gb305) (o := .cells #[.int .u8 a0_0, .int .i64 a0_1, .int .i64 a0_2, .slice A0_3 l0_3.length c0_3] 24 (0, 0)) (by (with_reducible repeat (first | refine blk_drewN ?_ _ | refine blk_drew ?_ | refine blk_alloc ?_ _)); exact BK305.out)) : gb306 ≠ gb305)); clear BK305; clear HB; have BK305 := n0_; have HB := n1_; have BK306 := n2_; have GW306 := n3_; have GE306 := n4_; have NB305_306 := n5_; have NB306_305 := n6_; clear n0_ n1_ n2_ n3_ n4_ n5_ n6_; clear hb hbox hg; have hnb9 := NB305_306.out; have hnc9 := NB306_305.out; have hcz10_0 : w8.cell? ⟨gb305, 0, none⟩ = some (.int .u8 a0_0) := (blk_cell BK305.out 0).trans rfl; have hcz10_1 : w8.cell? ⟨gb305, 1, none⟩ = some (.int .i64 a0_1) := (blk_cell BK305.out 1).trans rfl; have hcz10_2 : w8.cell? ⟨gb305, 2, none⟩ = some (.int .i64 a0_2) := (blk_cell BK305.out 2).trans rfl; have hcz10_3 : w8.cell? ⟨gb305, 3, none⟩ = some (.slice A0_3 l0_3.length c0_3) := (blk_cell BK305.out 3).trans rfl; have hfz10_0 := blk_frozen BK305.out 0; have hfz10_1 := blk_frozen BK305.out 1; have hfz10_2 := blk_frozen BK305.out 2; have hfz10_3 := blk_frozen BK305.out 3; have hcz11_0 : w8.cell? ⟨gb306, 0, none⟩ = some (.int .u8 a1_0) := (blk_cell BK306.out 0).trans rfl; have hcz11_1 : w8.cell? ⟨gb306, 1, none⟩ = some (.int .i64 a1_1) := (blk_cell BK306.out 1).trans rfl; have hcz11_2 : w8.cell? ⟨gb306, 2, none⟩ = some (.int .i64 a1_2) := (blk_cell BK306.out 2).trans rfl; have hcz11_3 : w8.cell? ⟨gb306, 3, none⟩ = some (.slice A1_3 l1_3.length c1_3) := (blk_cell BK306.out 3).trans rfl; have hfz11_0 := blk_frozen BK306.out 0; have hfz11_1 := blk_frozen BK306.out 1; have hfz11_2 := blk_frozen BK306.out 2; have hfz11_3 := blk_frozen BK306.out 3) | (go_at_call 10; (with_reducible refine (suffrageref08_Ints.calls k _ _ l0_3 _ _ l1_3 t307 _ ?side1 ?side2 ?side3 ?side4 A6.out).mono ?_); (case side1 => repeat (first | exact (Kd.C_below HR0_3.out HB.out) | (with_reducible refine Kd.C_alloc ?_ _) | (with_reducible refine Kd.C_drewN ?_ _) | (with_reducible refine Kd.C_drew ?_))); (case side2 => exact HC0_3.out); (case side3 => repeat (first | exact (Kd.C_below HR1_3.out HB.out) | (with_reducible refine Kd.C_alloc ?_ _) | (with_reducible refine Kd.C_drewN ?_ _) | (with_reducible refine Kd.C_drew ?_))); (case side4 => exact HC1_3.out); rintro e w' ⟨rfl, ⟨nd, rfl⟩⟩)); go_ret; exact ⟨by first | rfl | (simp [errW_none, errW_some] <;> rfl) | (simp [*, errW_none, errW_some] <;> rfl), by repeat (first | (with_reducible first | exact HB.out | apply below_alloc | apply pw_below_drewN | apply below_drew1 | refine below_set ?_ GE305.out | refine below_set ?_ GE306.out) | exact HB.out)⟩
      · rw [if_neg c5] at H; have c5b0 : (a0_2 == a1_2) = false := beq_eq_false_iff_ne.mpr c5; have c5b1 : (a0_2 != a1_2) = true := bne_iff_ne.mpr c5; obtain rfl := Option.some.inj H
        go_enter Try.func27, Try.ntmps27
        go_wp2_with (first | ((with_reducible refine gate_dst (N := 2) rfl ?_); refine box_event ?hg (N := 2) ?hd (cs := #[.int .u8 a0_0, .int .i64 a0_1, .int .i64 a0_2, .slice A0_3 l0_3.length c0_3]) (t := 24) ?hr ?_; (case hd => rfl); (case hg => rfl); (case hr => first | (go_simp; done) | (go_simp; rfl)); intro gb305 hg w12 hbox hb; have n0_ := Aside0.mk (below_step bl_ hb); have n1_ := Aside0.mk (hbox); have n2_ := Aside0.mk ((by rw [hg]; exact (below_size bl_) : w.heap.size ≤ gb305)); have n3_ := Aside0.mk ((by rw [hg]; exact (below_size bl_) : w.heap.size ≤ gb305)); clear HB; have HB := n0_; have BK305 := n1_; have GW305 := n2_; have GE305 := n3_; clear n0_ n1_ n2_ n3_; clear hb hbox hg) | ((with_reducible refine gate_dst (N := 3) rfl ?_); refine box_event ?hg (N := 3) ?hd (cs := #[.int .u8 a1_0, .int .i64 a1_1, .int .i64 a1_2, .slice A1_3 l1_3.length c1_3]) (t := 24) ?hr ?_; (case hd => rfl); (case hg => rfl); (case hr => first | (go_simp; done) | (go_simp; rfl)); intro gb306 hg w13 hbox hb; have n0_ := Aside0.mk (blk_below (g := gb305) (o := .cells #[.int .u8 a0_0, .int .i64 a0_1, .int .i64 a0_2, .slice A0_3 l0_3.length c0_3] 24 (0, 0)) (by (with_reducible repeat (first | refine blk_drewN ?_ _ | refine blk_drew ?_ | refine blk_alloc ?_ _)); exact BK305.out) hb); have n1_ := Aside0.mk (below_step (by repeat (first | (with_reducible first | exact HB.out | apply below_alloc | apply pw_below_drewN | apply below_drew1 | refine below_set ?_ GE305.out) | exact HB.out)) hb); have n2_ := Aside0.mk (hbox); have n3_ := Aside0.mk ((by rw [hg]; exact (below_size (by repeat (first | (with_reducible first | exact HB.out | apply below_alloc | apply pw_below_drewN | apply below_drew1 | refine below_set ?_ GE305.out) | exact HB.out))) : w.heap.size ≤ gb306)); have n4_ := Aside0.mk ((by rw [hg]; exact (below_size (by repeat (first | (with_reducible first | exact HB.out | apply below_alloc | apply pw_below_drewN | apply below_drew1 | refine below_set ?_ GE305.out) | exact HB.out))) : w.heap.size ≤ gb306)); have n5_ := Aside0.mk ((by rw [hg]; exact Nat.ne_of_lt (blk_lt (g := gb305) (o := .cells #[.int .u8 a0_0, .int .i64 a0_1, .int .i64 a0_2, .slice A0_3 l0_3.length c0_3] 24 (0, 0)) (by (with_reducible repeat (first | refine blk_drewN ?_ _ | refine blk_drew ?_ | refine blk_alloc ?_ _)); exact BK305.out)) : gb305 ≠ gb306)); have n6_ := Aside0.mk ((by rw [hg]; exact Nat.ne_of_gt (blk_lt (g := gb305) (o := .cells #[.int .u8 a0_0, .int .i64 a0_1, .int .i64 a0_2, .slice A0_3 l0_3.length c0_3] 24 (0, 0)) (by (with_reducible repeat (first | refine blk_drewN ?_ _ | refine blk_drew ?_ | refine blk_alloc ?_ _)); exact BK305.out)) : gb306 ≠ gb305)); clear BK305; clear HB; have BK305 := n0_; have HB := n1_; have BK306 := n2_; have GW306 := n3_; have GE306 := n4_; have NB305_306 := n5_; have NB306_305 := n6_; clear n0_ n1_ n2_ n3_ n4_ n5_ n6_; clear hb hbox hg; have hnb14 := NB305_306.out; have hnc14 := NB306_305.out; have hcz15_0 : w13.cell? ⟨gb305, 0, none⟩ = some (.int .u8 a0_0) := (blk_cell BK305.out 0).trans rfl; have hcz15_1 : w13.cell? ⟨gb305, 1, none⟩ = some (.int .i64 a0_1) := (blk_cell BK305.out 1).trans rfl; have hcz15_2 : w13.cell? ⟨gb305, 2, none⟩ = some (.int .i64 a0_2) := (blk_cell BK305.out 2).trans rfl; have hcz15_3 : w13.cell? ⟨gb305, 3, none⟩ = some (.slice A0_3 l0_3.length c0_3) := (blk_cell BK305.out 3).trans rfl; have hfz15_0 := blk_frozen BK305.out 0; have hfz15_1 := blk_frozen BK305.out 1; have hfz15_2 := blk_frozen BK305.out 2; have hfz15_3 := blk_frozen BK305.out 3; have hcz16_0 : w13.cell? ⟨gb306, 0, none⟩ = some (.int .u8 a1_0) := (blk_cell BK306.out 0).trans rfl; have hcz16_1 : w13.cell? ⟨gb306, 1, none⟩ = some (.int .i64 a1_1) := (blk_cell BK306.out 1).trans rfl; have hcz16_2 : w13.cell? ⟨gb306, 2, none⟩ = some (.int .i64 a1_2) := (blk_cell BK306.out 2).trans rfl; have hcz16_3 : w13.cell? ⟨gb306, 3, none⟩ = some (.slice A1_3 l1_3.length c1_3) := (blk_cell BK306.out 3).trans rfl; have hfz16_0 := blk_frozen BK306.out 0; have hfz16_1 := blk_frozen BK306.out 1; have hfz16_2 := blk_frozen BK306.out 2; have hfz16_3 := blk_frozen BK306.out 3)); go_ret; exact ⟨by first | rfl | (simp [errW_none, errW_some] <;> rfl) | (simp [*, errW_none, errW_some] <;> rfl), by repeat (first | (with_reducible first | exact HB.out | apply below_alloc | apply pw_below_drewN | apply below_drew1 | refine below_set ?_ GE305.out | refine below_set ?_ GE306.out) | exact HB.out)⟩
    · rw [if_neg c4] at H; have c4b0 : (a0_1 == a1_1) = false := beq_eq_false_iff_ne.mpr c4; have c4b1 : (a0_1 != a1_1) = true := bne_iff_ne.mpr c4; obtain rfl := Option.some.inj H
      go_enter Try.func27, Try.ntmps27
      go_wp2_with (first | ((with_reducible refine gate_dst (N := 2) rfl ?_); refine box_event ?hg (N := 2) ?hd (cs := #[.int .u8 a0_0, .int .i64 a0_1, .int .i64 a0_2, .slice A0_3 l0_3.length c0_3]) (t := 24) ?hr ?_; (case hd => rfl); (case hg => rfl); (case hr => first | (go_simp; done) | (go_simp; rfl)); intro gb305 hg w17 hbox hb; have n0_ := Aside0.mk (below_step bl_ hb); have n1_ := Aside0.mk (hbox); have n2_ := Aside0.mk ((by rw [hg]; exact (below_size bl_) : w.heap.size ≤ gb305)); have n3_ := Aside0.mk ((by rw [hg]; exact (below_size bl_) : w.heap.size ≤ gb305)); clear HB; have HB := n0_; have BK305 := n1_; have GW305 := n2_; have GE305 := n3_; clear n0_ n1_ n2_ n3_; clear hb hbox hg) | ((with_reducible refine gate_dst (N := 3) rfl ?_); refine box_event ?hg (N := 3) ?hd (cs := #[.int .u8 a1_0, .int .i64 a1_1, .int .i64 a1_2, .slice A1_3 l1_3.length c1_3]) (t := 24) ?hr ?_; (case hd => rfl); (case hg => rfl); (case hr => first | (go_simp; done) | (go_simp; rfl)); intro gb306 hg w18 hbox hb; have n0_ := Aside0.mk (blk_below (g := gb305) (o := .cells #[.int .u8 a0_0, .int .i64 a0_1, .int .i64 a0_2, .slice A0_3 l0_3.length c0_3] 24 (0, 0)) (by (with_reducible repeat (first | refine blk_drewN ?_ _ | refine blk_drew ?_ | refine blk_alloc ?_ _)); exact BK305.out) hb); have n1_ := Aside0.mk (below_step (by repeat (first | (with_reducible first | exact HB.out | apply below_alloc | apply pw_below_drewN | apply below_drew1 | refine below_set ?_ GE305.out) | exact HB.out)) hb); have n2_ := Aside0.mk (hbox); have n3_ := Aside0.mk ((by rw [hg]; exact (below_size (by repeat (first | (with_reducible first | exact HB.out | apply below_alloc | apply pw_below_drewN | apply below_drew1 | refine below_set ?_ GE305.out) | exact HB.out))) : w.heap.size ≤ gb306)); have n4_ := Aside0.mk ((by rw [hg]; exact (below_size (by repeat (first | (with_reducible first | exact HB.out | apply below_alloc | apply pw_below_drewN | apply below_drew1 | refine below_set ?_ GE305.out) | exact HB.out))) : w.heap.size ≤ gb306)); have n5_ := Aside0.mk ((by rw [hg]; exact Nat.ne_of_lt (blk_lt (g := gb305) (o := .cells #[.int .u8 a0_0, .int .i64 a0_1, .int .i64 a0_2, .slice A0_3 l0_3.length c0_3] 24 (0, 0)) (by (with_reducible repeat (first | refine blk_drewN ?_ _ | refine blk_drew ?_ | refine blk_alloc ?_ _)); exact BK305.out)) : gb305 ≠ gb306)); have n6_ := Aside0.mk ((by rw [hg]; exact Nat.ne_of_gt (blk_lt (g := gb305) (o := .cells #[.int .u8 a0_0, .int .i64 a0_1, .int .i64 a0_2, .slice A0_3 l0_3.length c0_3] 24 (0, 0)) (by (with_reducible repeat (first | refine blk_drewN ?_ _ | refine blk_drew ?_ | refine blk_alloc ?_ _)); exact BK305.out)) : gb306 ≠ gb305)); clear BK305; clear HB; have BK305 := n0_; have HB := n1_; have BK306 := n2_; have GW306 := n3_; have GE306 := n4_; have NB305_306 := n5_; have NB306_305 := n6_; clear n0_ n1_ n2_ n3_ n4_ n5_ n6_; clear hb hbox hg; have hnb19 := NB305_306.out; have hnc19 := NB306_305.out; have hcz20_0 : w18.cell? ⟨gb305, 0, none⟩ = some (.int .u8 a0_0) := (blk_cell BK305.out 0).trans rfl; have hcz20_1 : w18.cell? ⟨gb305, 1, none⟩ = some (.int .i64 a0_1) := (blk_cell BK305.out 1).trans rfl; have hcz20_2 : w18.cell? ⟨gb305, 2, none⟩ = some (.int .i64 a0_2) := (blk_cell BK305.out 2).trans rfl; have hcz20_3 : w18.cell? ⟨gb305, 3, none⟩ = some (.slice A0_3 l0_3.length c0_3) := (blk_cell BK305.out 3).trans rfl; have hfz20_0 := blk_frozen BK305.out 0; have hfz20_1 := blk_frozen BK305.out 1; have hfz20_2 := blk_frozen BK305.out 2; have hfz20_3 := blk_frozen BK305.out 3; have hcz21_0 : w18.cell? ⟨gb306, 0, none⟩ = some (.int .u8 a1_0) := (blk_cell BK306.out 0).trans rfl; have hcz21_1 : w18.cell? ⟨gb306, 1, none⟩ = some (.int .i64 a1_1) := (blk_cell BK306.out 1).trans rfl; have hcz21_2 : w18.cell? ⟨gb306, 2, none⟩ = some (.int .i64 a1_2) := (blk_cell BK306.out 2).trans rfl; have hcz21_3 : w18.cell? ⟨gb306, 3, none⟩ = some (.slice A1_3 l1_3.length c1_3) := (blk_cell BK306.out 3).trans rfl; have hfz21_0 := blk_frozen BK306.out 0; have hfz21_1 := blk_frozen BK306.out 1; have hfz21_2 := blk_frozen BK306.out 2; have hfz21_3 := blk_frozen BK306.out 3)); go_ret; exact ⟨by first | rfl | (simp [errW_none, errW_some] <;> rfl) | (simp [*, errW_none, errW_some] <;> rfl), by repeat (first | (with_reducible first | exact HB.out | apply below_alloc | apply pw_below_drewN | apply below_drew1 | refine below_set ?_ GE305.out | refine below_set ?_ GE306.out) | exact HB.out)⟩
  · rw [if_neg c3] at H; have c3b0 : (a0_0 == a1_0) = false := beq_eq_false_iff_ne.mpr c3; have c3b1 : (a0_0 != a1_0) = true := bne_iff_ne.mpr c3; obtain rfl := Option.some.inj H
    go_enter Try.func27, Try.ntmps27
    go_wp2_with (first | ((with_reducible refine gate_dst (N := 2) rfl ?_); refine box_event ?hg (N := 2) ?hd (cs := #[.int .u8 a0_0, .int .i64 a0_1, .int .i64 a0_2, .slice A0_3 l0_3.length c0_3]) (t := 24) ?hr ?_; (case hd => rfl); (case hg => rfl); (case hr => first | (go_simp; done) | (go_simp; rfl)); intro gb305 hg w22 hbox hb; have n0_ := Aside0.mk (below_step bl_ hb); have n1_ := Aside0.mk (hbox); have n2_ := Aside0.mk ((by rw [hg]; exact (below_size bl_) : w.heap.size ≤ gb305)); have n3_ := Aside0.mk ((by rw [hg]; exact (below_size bl_) : w.heap.size ≤ gb305)); clear HB; have HB := n0_; have BK305 := n1_; have GW305 := n2_; have GE305 := n3_; clear n0_ n1_ n2_ n3_; clear hb hbox hg) | ((with_reducible refine gate_dst (N := 3) rfl ?_); refine box_event ?hg (N := 3) ?hd (cs := #[.int .u8 a1_0, .int .i64 a1_1, .int .i64 a1_2, .slice A1_3 l1_3.length c1_3]) (t := 24) ?hr ?_; (case hd => rfl); (case hg => rfl); (case hr => first | (go_simp; done) | (go_simp; rfl)); intro gb306 hg w23 hbox hb; have n0_ := Aside0.mk (blk_below (g := gb305) (o := .cells #[.int .u8 a0_0, .int .i64 a0_1, .int .i64 a0_2, .slice A0_3 l0_3.length c0_3] 24 (0, 0)) (by (with_reducible repeat (first | refine blk_drewN ?_ _ | refine blk_drew ?_ | refine blk_alloc ?_ _)); exact BK305.out) hb); have n1_ := Aside0.mk (below_step (by repeat (first | (with_reducible first | exact HB.out | apply below_alloc | apply pw_below_drewN | apply below_drew1 | refine below_set ?_ GE305.out) | exact HB.out)) hb); have n2_ := Aside0.mk (hbox); have n3_ := Aside0.mk ((by rw [hg]; exact (below_size (by repeat (first | (with_reducible first | exact HB.out | apply below_alloc | apply pw_below_drewN | apply below_drew1 | refine below_set ?_ GE305.out) | exact HB.out))) : w.heap.size ≤ gb306)); have n4_ := Aside0.mk ((by rw [hg]; exact (below_size (by repeat (first | (with_reducible first | exact HB.out | apply below_alloc | apply pw_below_drewN | apply below_drew1 | refine below_set ?_ GE305.out) | exact HB.out))) : w.heap.size ≤ gb306)); have n5_ := Aside0.mk ((by rw [hg]; exact Nat.ne_of_lt (blk_lt (g := gb305) (o := .cells #[.int .u8 a0_0, .int .i64 a0_1, .int .i64 a0_2, .slice A0_3 l0_3.length c0_3] 24 (0, 0)) (by (with_reducible repeat (first | refine blk_drewN ?_ _ | refine blk_drew ?_ | refine blk_alloc ?_ _)); exact BK305.out)) : gb305 ≠ gb306)); have n6_ := Aside0.mk ((by rw [hg]; exact Nat.ne_of_gt (blk_lt (g := gb305) (o := .cells #[.int .u8 a0_0, .int .i64 a0_1, .int .i64 a0_2, .slice A0_3 l0_3.length c0_3] 24 (0, 0)) (by (with_reducible repeat (first | refine blk_drewN ?_ _ | refine blk_drew ?_ | refine blk_alloc ?_ _)); exact BK305.out)) : gb306 ≠ gb305)); clear BK305; clear HB; have BK305 := n0_; have HB := n1_; have BK306 := n2_; have GW306 := n3_; have GE306 := n4_; have NB305_306 := n5_; have NB306_305 := n6_; clear n0_ n1_ n2_ n3_ n4_ n5_ n6_; clear hb hbox hg; have hnb24 := NB305_306.out; have hnc24 := NB306_305.out; have hcz25_0 : w23.cell? ⟨gb305, 0, none⟩ = some (.int .u8 a0_0) := (blk_cell BK305.out 0).trans rfl; have hcz25_1 : w23.cell? ⟨gb305, 1, none⟩ = some (.int .i64 a0_1) := (blk_cell BK305.out 1).trans rfl; have hcz25_2 : w23.cell? ⟨gb305, 2, none⟩ = some (.int .i64 a0_2) := (blk_cell BK305.out 2).trans rfl; have hcz25_3 : w23.cell? ⟨gb305, 3, none⟩ = some (.slice A0_3 l0_3.length c0_3) := (blk_cell BK305.out 3).trans rfl; have hfz25_0 := blk_frozen BK305.out 0; have hfz25_1 := blk_frozen BK305.out 1; have hfz25_2 := blk_frozen BK305.out 2; have hfz25_3 := blk_frozen BK305.out 3; have hcz26_0 : w23.cell? ⟨gb306, 0, none⟩ = some (.int .u8 a1_0) := (blk_cell BK306.out 0).trans rfl; have hcz26_1 : w23.cell? ⟨gb306, 1, none⟩ = some (.int .i64 a1_1) := (blk_cell BK306.out 1).trans rfl; have hcz26_2 : w23.cell? ⟨gb306, 2, none⟩ = some (.int .i64 a1_2) := (blk_cell BK306.out 2).trans rfl; have hcz26_3 : w23.cell? ⟨gb306, 3, none⟩ = some (.slice A1_3 l1_3.length c1_3) := (blk_cell BK306.out 3).trans rfl; have hfz26_0 := blk_frozen BK306.out 0; have hfz26_1 := blk_frozen BK306.out 1; have hfz26_2 := blk_frozen BK306.out 2; have hfz26_3 := blk_frozen BK306.out 3)); go_ret; exact ⟨by first | rfl | (simp [errW_none, errW_some] <;> rfl) | (simp [*, errW_none, errW_some] <;> rfl), by repeat (first | (with_reducible first | exact HB.out | apply below_alloc | apply pw_below_drewN | apply below_drew1 | refine below_set ?_ GE305.out | refine below_set ?_ GE306.out) | exact HB.out)⟩

end Go.Proofs.Ytegdcoamafcfeaa.Pr
