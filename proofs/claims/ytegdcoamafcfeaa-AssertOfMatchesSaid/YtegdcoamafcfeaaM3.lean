-- Written by a program of this session (the kit's print, many functions in one namespace). Not trusted: Lean checks it.
import Derived.Test.YtegdcoamafcfeaaM0
import Derived.Test.YtegdcoamafcfeaaM1
import Derived.Test.YtegdcoamafcfeaaM2
namespace Go.Proofs.Ytegdcoamafcfeaa.Pr
open Go.RowKit Go.Proofs.YtegdcoamafcfeaaW.PrintWords Go.Proofs.YtegdcoamafcfeaaW.PrintLast
set_option linter.unusedVariables false
set_option linter.unusedSimpArgs false
/-! ### assert_Value: function 7 (by hand) -/
def clo (f : Nat) (g : Nat) : Value := .func (.func f) #[] #[.pointer (some ⟨g, 0, none⟩)]
def valuesMap (g : Nat) : Obj := .map #[⟨.int .u8 1, clo 37 g, 0⟩, ⟨.int .u8 2, clo 39 g, 1⟩, ⟨.int .u8 3, clo 41 g, 2⟩, ⟨.int .u8 4, clo 43 g, 3⟩, ⟨.int .u8 5, clo 45 g, 4⟩] 5
set_option maxHeartbeats 1000000 in
set_option maxRecDepth 100000 in
theorem values_calls (a0 a1 a2 : Int) (A : Option Addr) (n c : Nat) (w : World) :
    Calls Try.prog 20 #[.agg #[.int .u8 a0, .int .i64 a1, .int .i64 a2, .slice A n c]] w fun e w' => e = .returned (.map (some (w.heap.size + 1))) ∧ w'.heap[w.heap.size + 1]? = some (valuesMap w.heap.size) ∧
      w'.heap[w.heap.size]? = some (.cells #[.int .u8 a0, .int .i64 a1, .int .i64 a2, .slice A n c] 24 (0, 0)) ∧ Below w.heap.size w w' := by
  have hW : ((w.alloc (.cells #[.int .u8 a0, .int .i64 a1, .int .i64 a2, .slice A n c] 24)).alloc (.map #[] 0)).heap[w.heap.size + 1]? = some (.map #[] 0) := heap_new_at (by simp) _
  have hb0 : ((w.alloc (.cells #[.int .u8 a0, .int .i64 a1, .int .i64 a2, .slice A n c] 24)).alloc (.map #[] 0)).heap[w.heap.size]? = some (.cells #[.int .u8 a0, .int .i64 a1, .int .i64 a2, .slice A n c] 24 (0, 0)) := by
    rw [Below.heap_alloc _ _ _ (by rw [World.size_alloc]; omega)]
    exact heap_alloc_new w _
  obtain ⟨W1, r1, m1, g1⟩ := ins_new (P := Try.prog) (t := 55) Try.underlying55 Try.underlying5 hW 1 (clo 37 w.heap.size) rfl
  obtain ⟨W2, r2, m2, g2⟩ := ins_new (P := Try.prog) (t := 55) Try.underlying55 Try.underlying5 m1 2 (clo 39 w.heap.size) rfl
  obtain ⟨W3, r3, m3, g3⟩ := ins_new (P := Try.prog) (t := 55) Try.underlying55 Try.underlying5 m2 3 (clo 41 w.heap.size) rfl
  obtain ⟨W4, r4, m4, g4⟩ := ins_new (P := Try.prog) (t := 55) Try.underlying55 Try.underlying5 m3 4 (clo 43 w.heap.size) rfl
  obtain ⟨W5, r5, m5, g5⟩ := ins_new (P := Try.prog) (t := 55) Try.underlying55 Try.underlying5 m4 5 (clo 45 w.heap.size) rfl
  unfold clo at r1 r2 r3 r4 r5
  have fin : W5.heap[w.heap.size + 1]? = some (valuesMap w.heap.size) ∧ W5.heap[w.heap.size]? = some (.cells #[.int .u8 a0, .int .i64 a1, .int .i64 a2, .slice A n c] 24 (0, 0)) ∧ Below w.heap.size w W5 := by
    refine ⟨m5, ?_, ?_⟩
    · have hg := (((g1.trans g2).trans g3).trans g4).trans g5
      rw [hg.block w.heap.size (by rw [World.size_alloc, World.size_alloc]; omega) (by intro h; injection h with h; omega), hb0]
    · have hg := (((g1.trans g2).trans g3).trans g4).trans g5
      exact ((((Below.refl _ _).alloc (Nat.le_refl _) _).alloc (by rw [World.size_alloc]; omega) _).grown hg (by rw [World.size_alloc, World.size_alloc]; omega) (fun k e => by cases e; omega))
  have FIN := Aside0.mk fin
  clear fin m1 m2 m3 m4 m5 g1 g2 g3 g4 g5 hW hb0
  have hmm := @run_makeMap Try.prog
  go_enter Try.func20, Try.ntmps20
  go_wp2
  go_ret
  exact ⟨rfl, FIN.out⟩
set_option maxHeartbeats 4000000 in
set_option maxRecDepth 100000 in
/-- The first of the ballot that is left: for the winner, or for the loser. -/
theorem values4_calls (k : Nat) (b0 : Int) (B : Option Addr) (cb : Nat) (l : List Int) (a0 a1 a2 : Int) (A : Option Addr) (c : Nat) (left : List Int) (g : Nat) (n : Int) (ok : Bool) (r : Int) (w : World)
    (hg : w.heap[g]? = some (.cells #[.int .u8 a0, .int .i64 a1, .int .i64 a2, .slice A left.length c] 24 (0, 0)))
    (hl : Kd.C (Kd.int .i64) w B l.length l) (hcl : l.length ≤ cb) (hr : Kd.C (Kd.int .i64) w A left.length left) (hcr : left.length ≤ c) (h : assert_first.f k l left = some (n, ok)) (hs : (if ok = true then assert_side.f k (n == a1) (n == a2) else assert_side.f k false false) = some r) :
    Calls Try.prog 43 #[.agg #[.int .u8 b0, .slice B l.length cb], .pointer (some ⟨g, 0, none⟩)] w fun e w' => e = .returned (.int .i64 r) ∧ Below w.heap.size w w' := by
  have hm := Kd.C_max hl
  have hg' := blk_box hg (.cells #[.int .u8 b0, .slice B l.length cb] 26)
  have hc1 := (blk_cell hg' 1).trans rfl
  have hc2 := (blk_cell hg' 2).trans rfl
  have hc3 := (blk_cell hg' 3).trans rfl
  have HL := Aside0.mk hl
  have HCL := Aside0.mk hcl
  have HR := Aside0.mk hr
  have HCR := Aside0.mk hcr
  clear hl hcl hr hcr hg hg'
  have HH := Aside0.mk h
  clear h
  cases ok with
  | true =>
    have HS := Aside0.mk ((if_pos rfl).symm.trans hs)
    clear hs
    go_enter Try.func43, Try.ntmps43
    go_wp2_with (first | (go_at_call 44; refine (assert_first.calls k _ _ l _ _ left n true _ (Kd.C_alloc HL.out _) HCL.out (Kd.C_alloc HR.out _) HCR.out HH.out).mono ?_; rintro e w' ⟨rfl, ⟨nd, rfl⟩⟩) | (go_at_call 38; refine (assert_side.calls k (n == a1) (n == a2) r _ HS.out).mono ?_; rintro e w' ⟨rfl, ⟨nd2, rfl⟩⟩))
    go_ret
    exact ⟨rfl, by repeat (first | exact Below.refl _ _ | apply below_alloc | apply pw_below_drewN)⟩
  | false =>
    have HS := Aside0.mk ((if_neg (by simp)).symm.trans hs)
    clear hs
    go_enter Try.func43, Try.ntmps43
    go_wp2_with (first | (go_at_call 44; refine (assert_first.calls k _ _ l _ _ left n false _ (Kd.C_alloc HL.out _) HCL.out (Kd.C_alloc HR.out _) HCR.out HH.out).mono ?_; rintro e w' ⟨rfl, ⟨nd, rfl⟩⟩) | (go_at_call 38; refine (assert_side.calls k false false r _ HS.out).mono ?_; rintro e w' ⟨rfl, ⟨nd2, rfl⟩⟩))
    go_ret
    exact ⟨rfl, by repeat (first | exact Below.refl _ _ | apply below_alloc | apply pw_below_drewN)⟩
set_option maxHeartbeats 4000000 in
set_option maxRecDepth 100000 in
/-- The first of the ballot that is left: for the winner, or for another one. -/
theorem values5_calls (k : Nat) (b0 : Int) (B : Option Addr) (cb : Nat) (l : List Int) (a0 a1 a2 : Int) (A : Option Addr) (c : Nat) (left : List Int) (g : Nat) (n : Int) (ok : Bool) (r : Int) (w : World)
    (hg : w.heap[g]? = some (.cells #[.int .u8 a0, .int .i64 a1, .int .i64 a2, .slice A left.length c] 24 (0, 0)))
    (hl : Kd.C (Kd.int .i64) w B l.length l) (hcl : l.length ≤ cb) (hr : Kd.C (Kd.int .i64) w A left.length left) (hcr : left.length ≤ c) (h : assert_first.f k l left = some (n, ok)) (hs : (if ok = true then assert_side.f k (n == a1) (n != a1) else assert_side.f k false false) = some r) :
    Calls Try.prog 45 #[.agg #[.int .u8 b0, .slice B l.length cb], .pointer (some ⟨g, 0, none⟩)] w fun e w' => e = .returned (.int .i64 r) ∧ Below w.heap.size w w' := by
  have hm := Kd.C_max hl
  have hg' := blk_box hg (.cells #[.int .u8 b0, .slice B l.length cb] 26)
  have hc1 := (blk_cell hg' 1).trans rfl
  have hc2 := (blk_cell hg' 2).trans rfl
  have hc3 := (blk_cell hg' 3).trans rfl
  have HL := Aside0.mk hl
  have HCL := Aside0.mk hcl
  have HR := Aside0.mk hr
  have HCR := Aside0.mk hcr
  clear hl hcl hr hcr hg hg'
  have HH := Aside0.mk h
  clear h
  cases ok with
  | true =>
    have HS := Aside0.mk ((if_pos rfl).symm.trans hs)
    clear hs
    go_enter Try.func45, Try.ntmps45
    go_wp2_with (first | (go_at_call 44; refine (assert_first.calls k _ _ l _ _ left n true _ (Kd.C_alloc HL.out _) HCL.out (Kd.C_alloc HR.out _) HCR.out HH.out).mono ?_; rintro e w' ⟨rfl, ⟨nd, rfl⟩⟩) | (go_at_call 38; refine (assert_side.calls k (n == a1) (n != a1) r _ HS.out).mono ?_; rintro e w' ⟨rfl, ⟨nd2, rfl⟩⟩))
    go_ret
    exact ⟨rfl, by repeat (first | exact Below.refl _ _ | apply below_alloc | apply pw_below_drewN)⟩
  | false =>
    have HS := Aside0.mk ((if_neg (by simp)).symm.trans hs)
    clear hs
    go_enter Try.func45, Try.ntmps45
    go_wp2_with (first | (go_at_call 44; refine (assert_first.calls k _ _ l _ _ left n false _ (Kd.C_alloc HL.out _) HCL.out (Kd.C_alloc HR.out _) HCR.out HH.out).mono ?_; rintro e w' ⟨rfl, ⟨nd, rfl⟩⟩) | (go_at_call 38; refine (assert_side.calls k false false r _ HS.out).mono ?_; rintro e w' ⟨rfl, ⟨nd2, rfl⟩⟩))
    go_ret
    exact ⟨rfl, by repeat (first | exact Below.refl _ _ | apply below_alloc | apply pw_below_drewN)⟩
set_option maxHeartbeats 4000000 in
set_option maxRecDepth 100000 in
/-- Is the winner marked, is the loser? -/
theorem values2_calls (k : Nat) (b0 : Int) (B : Option Addr) (cb : Nat) (l : List Int) (a0 a1 a2 : Int) (A : Option Addr) (c : Nat) (left : List Int) (g : Nat) (x y : Bool) (r : Int) (w : World)
    (hg : w.heap[g]? = some (.cells #[.int .u8 a0, .int .i64 a1, .int .i64 a2, .slice A left.length c] 24 (0, 0)))
    (hl : Kd.C (Kd.int .i64) w B l.length l) (hcl : l.length ≤ cb) (hx : slices_Contains_int_int.f k l a1 = some x) (hy : slices_Contains_int_int.f k l a2 = some y) (hs : assert_side.f k x y = some r) :
    Calls Try.prog 39 #[.agg #[.int .u8 b0, .slice B l.length cb], .pointer (some ⟨g, 0, none⟩)] w fun e w' => e = .returned (.int .i64 r) ∧ Below w.heap.size w w' := by
  have hm := Kd.C_max hl
  have hg' := blk_box hg (.cells #[.int .u8 b0, .slice B l.length cb] 26)
  have hc1 := (blk_cell hg' 1).trans rfl
  have hc2 := (blk_cell hg' 2).trans rfl
  have HL := Aside0.mk hl
  have HCL := Aside0.mk hcl
  clear hl hcl hg hg'
  have HX := Aside0.mk hx
  have HY := Aside0.mk hy
  have HS := Aside0.mk hs
  clear hx hy hs
  go_enter Try.func39, Try.ntmps39
  go_wp2
  go_quiet (first | (go_at_call 40; with_reducible refine quiet0 (slices_Contains_int_int.calls k _ _ l a1 x _ (Kd.C_drewN (Kd.C_alloc HL.out _) _) HCL.out HX.out)) | (go_at_call 40; with_reducible refine quiet0 (slices_Contains_int_int.calls k _ _ l a2 y _ (Kd.C_drewN (Kd.C_alloc HL.out _) _) HCL.out HY.out)) | (go_at_call 38; with_reducible refine quiet0 (assert_side.calls k x y r _ HS.out)))
  go_wp2
  go_ret
  exact ⟨rfl, by repeat (first | exact Below.refl _ _ | apply below_alloc | apply pw_below_drewN)⟩
set_option maxHeartbeats 4000000 in
set_option maxRecDepth 100000 in
/-- Is the only mark the winner, or the loser? -/
theorem values1_calls (k : Nat) (b0 : Int) (B : Option Addr) (cb : Nat) (l : List Int) (a0 a1 a2 : Int) (A : Option Addr) (c : Nat) (left : List Int) (g : Nat) (r : Int) (w : World)
    (hg : w.heap[g]? = some (.cells #[.int .u8 a0, .int .i64 a1, .int .i64 a2, .slice A left.length c] 24 (0, 0)))
    (hl : Kd.C (Kd.int .i64) w B l.length l) (hcl : l.length ≤ cb) (hs : (if (l.length : Int) = 1 then assert_side.f k (rd l 0 == a1) (rd l 0 == a2) else assert_side.f k false false) = some r) :
    Calls Try.prog 37 #[.agg #[.int .u8 b0, .slice B l.length cb], .pointer (some ⟨g, 0, none⟩)] w fun e w' => e = .returned (.int .i64 r) ∧ Below w.heap.size w w' := by
  have hm := Kd.C_max hl
  have hg' := blk_box hg (.cells #[.int .u8 b0, .slice B l.length cb] 26)
  have hc1 := (blk_cell hg' 1).trans rfl
  have hc2 := (blk_cell hg' 2).trans rfl
  have HL := Aside0.mk hl
  have HCL := Aside0.mk hcl
  clear hl hcl hg hg'
  by_cases h1 : (l.length : Int) = 1
  · have HS := Aside0.mk ((if_pos h1).symm.trans hs)
    obtain ⟨ad, e1, hx⟩ := Kd.at_int HL.out 0 (by omega) (by omega)
    cases e1
    have hx' : (w.alloc (.cells #[.int .u8 b0, .slice (some ad) l.length cb] 26)).cell? ad = some (.int .i64 (rd l 0)) := pw_cell_below (below_alloc (Below.refl _ _) _) hx
    have hn : ((l.length : Int) == 1) = true := beq_iff_eq.mpr h1
    have hn0 : (0 : Int) < l.length := by omega
    have hn2 : 0 < l.length := by omega
    clear h1 hs hx
    go_enter Try.func37, Try.ntmps37
    go_wp2
    go_quiet (first | (go_at_call 38; with_reducible refine quiet0 (assert_side.calls k (rd l 0 == a1) (rd l 0 == a2) r _ HS.out)))
    go_wp2
    go_ret
    exact ⟨rfl, by repeat (first | exact Below.refl _ _ | apply below_alloc | apply pw_below_drewN)⟩
  · have HS := Aside0.mk ((if_neg h1).symm.trans hs)
    have hn : ((l.length : Int) == 1) = false := beq_eq_false_iff_ne.mpr h1
    clear h1 hs
    go_enter Try.func37, Try.ntmps37
    go_wp2
    go_quiet (first | (go_at_call 38; with_reducible refine quiet0 (assert_side.calls k false false r _ HS.out)))
    go_wp2
    go_ret
    exact ⟨rfl, by repeat (first | exact Below.refl _ _ | apply below_alloc | apply pw_below_drewN)⟩
set_option maxHeartbeats 4000000 in
set_option maxRecDepth 100000 in
/-- Is the winner ranked ahead, is the loser? -/
theorem values3_calls (k : Nat) (b0 : Int) (B : Option Addr) (cb : Nat) (l : List Int) (a0 a1 a2 : Int) (A : Option Addr) (c : Nat) (left : List Int) (g : Nat) (x y : Bool) (r : Int) (w : World)
    (hg : w.heap[g]? = some (.cells #[.int .u8 a0, .int .i64 a1, .int .i64 a2, .slice A left.length c] 24 (0, 0)))
    (hl : Kd.C (Kd.int .i64) w B l.length l) (hcl : l.length ≤ cb) (hx : ballot_Prefers.f k b0 l a1 a2 = some x) (hy : ballot_Prefers.f k b0 l a2 a1 = some y) (hs : assert_side.f k x y = some r) :
    Calls Try.prog 41 #[.agg #[.int .u8 b0, .slice B l.length cb], .pointer (some ⟨g, 0, none⟩)] w fun e w' => e = .returned (.int .i64 r) ∧ Below w.heap.size w w' := by
  have hm := Kd.C_max hl
  have hg' := blk_box hg (.cells #[.int .u8 b0, .slice B l.length cb] 26)
  have hbx := heap_alloc_new w (.cells #[.int .u8 b0, .slice B l.length cb] 26)
  have HL := Aside0.mk (Kd.C_alloc hl (.cells #[.int .u8 b0, .slice B l.length cb] 26))
  have HCL := Aside0.mk hcl
  have HX := Aside0.mk hx
  have HY := Aside0.mk hy
  have HS := Aside0.mk hs
  have HW := Aside0.mk (below_box (w := w) (.cells #[.int .u8 b0, .slice B l.length cb] 26))
  clear hx hy hs hl hcl hg
  go_enter Try.func41, Try.ntmps41
  go_wp2
  generalize hW1 : w.alloc (.cells #[.int .u8 b0, .slice B l.length cb] 26) = W1 at *
  have k1 : ∀ W, Below W1.heap.size W1 W → W.cell? ⟨g, 1, none⟩ = some (.int .i64 a1) := fun W hb => (blk_cell (blk_later hg' hb) 1).trans rfl
  have k2 : ∀ W, Below W1.heap.size W1 W → W.cell? ⟨g, 2, none⟩ = some (.int .i64 a2) := fun W hb => (blk_cell (blk_later hg' hb) 2).trans rfl
  have k3 : ∀ W, Below W1.heap.size W1 W → W.cell? ⟨w.heap.size, 0, none⟩ = some (.int .u8 b0) := fun W hb => (blk_cell (blk_later hbx hb) 0).trans rfl
  have k4 : ∀ W, Below W1.heap.size W1 W → W.cell? ⟨w.heap.size, 1, none⟩ = some (.slice B l.length cb) := fun W hb => (blk_cell (blk_later hbx hb) 1).trans rfl
  clear hW1 hg' hbx
  go_region_held3 (fun W => Below W1.heap.size W1 W) (first | assumption | exact (Below.refl _ _).drew | exact below_step (by assumption) (by assumption) | exact Below.drew (by assumption)) (first | (go_at_call 42; with_reducible refine (ballot_Prefers.calls k b0 _ _ l a1 a2 x _ (Kd.C_below HL.out (by assumption)) HCL.out HX.out).mono ?_; rintro e w' ⟨rfl, hb⟩) | (go_at_call 42; with_reducible refine (ballot_Prefers.calls k b0 _ _ l a2 a1 y _ (Kd.C_below HL.out (by assumption)) HCL.out HY.out).mono ?_; rintro e w' ⟨rfl, hb⟩) | (go_at_call 38; with_reducible refine (assert_side.calls k x y r _ HS.out).mono ?_; rintro e w' ⟨rfl, hb⟩; have hb := hb.below))
  go_wp2
  go_ret
  exact ⟨rfl, below_step HW.out (by assumption)⟩

/-- What a ballot is worth, by the assertion's kind. -/
def assert_worth.f (k : Nat) (a0 a1 a2 : Int) (left : List Int) (b0 : Int) (l : List Int) : Option Int :=
  if a0 = 1 then (if (l.length : Int) = 1 then assert_side.f k (rd l 0 == a1) (rd l 0 == a2) else assert_side.f k false false)
  else if a0 = 2 then (slices_Contains_int_int.f k l a1).bind fun x => (slices_Contains_int_int.f k l a2).bind fun y => assert_side.f k x y
  else if a0 = 3 then (ballot_Prefers.f k b0 l a1 a2).bind fun x => (ballot_Prefers.f k b0 l a2 a1).bind fun y => assert_side.f k x y
  else if a0 = 4 then (assert_first.f k l left).bind fun p => if p.2 = true then assert_side.f k (p.1 == a1) (p.1 == a2) else assert_side.f k false false
  else if a0 = 5 then (assert_first.f k l left).bind fun p => if p.2 = true then assert_side.f k (p.1 == a1) (p.1 != a1) else assert_side.f k false false
  else none
theorem assert_worth.mono : ∀ a0 a1 a2 a3 a4 a5 k, LeO (assert_worth.f k a0 a1 a2 a3 a4 a5) (assert_worth.f (k + 1) a0 a1 a2 a3 a4 a5) := by
  intro a0 a1 a2 a3 a4 a5 k
  unfold assert_worth.f
  repeat' first
      | (with_reducible exact assert_side.mono _ _ _)
      | (with_reducible exact slices_Contains_int_int.mono _ _ _)
      | (with_reducible exact ballot_Prefers.mono _ _ _ _ _)
      | (with_reducible exact assert_first.mono _ _ _)
      | (with_reducible exact LeO.none _)
      | (with_reducible refine LeO.ite ?_ ?_)
      | (with_reducible refine LeO.bind ?_ (fun _ => ?_))
def assert_Value.f (k : Nat) (a0_0 : Int) (a0_1 : Int) (a0_2 : Int) (l0_3 : List Int) (a1_0 : Int) (l1_1 : List Int) (a2 : Int) : Option (Int × Int) :=
  (assert_Check.f k a0_0 a0_1 a0_2 l0_3 a2).bind fun e => if e = 0 then
    (ballot_Check.f k a1_0 l1_1 a2).bind fun t => if t = 0 then
      (assert_kind.f a0_0 a0_1 a0_2 l0_3).bind fun q => if a1_0 = q then (assert_worth.f k a0_0 a0_1 a0_2 l0_3 a1_0 l1_1).bind fun n => some (n, 0) else some (0, 8)
    else some (0, 8)
  else some (0, e)
theorem assert_Value.mono : ∀ a0 a1 a2 a3 a4 a5 a6 k, LeO (assert_Value.f k a0 a1 a2 a3 a4 a5 a6) (assert_Value.f (k + 1) a0 a1 a2 a3 a4 a5 a6) := by
  intro a0 a1 a2 a3 a4 a5 a6 k
  unfold assert_Value.f
  repeat' first
      | (with_reducible exact assert_Check.mono _ _ _ _ _ _)
      | (with_reducible exact ballot_Check.mono _ _ _ _)
      | (with_reducible exact assert_worth.mono _ _ _ _ _ _ _)
      | (with_reducible exact LeO.refl _)
      | (with_reducible refine LeO.ite ?_ ?_)
      | (with_reducible refine LeO.bind ?_ (fun _ => ?_))
set_option maxHeartbeats 8000000 in
set_option maxRecDepth 100000 in
theorem assert_Value.refused (k : Nat) (a0_0 a0_1 a0_2 a1_0 : Int) (A0_3 : Option Addr) (c0_3 : Nat) (l0_3 : List Int) (A1_1 : Option Addr) (c1_1 : Nat) (l1_1 : List Int) (a2 : Int) (w : World) (hr0_3 : Kd.C (Kd.int .i64) w A0_3 l0_3.length l0_3) (hc0_3 : l0_3.length ≤ c0_3) (hr1_1 : Kd.C (Kd.int .i64) w A1_1 l1_1.length l1_1) (hc1_1 : l1_1.length ≤ c1_1) (e : Int) (he : assert_Check.f k a0_0 a0_1 a0_2 l0_3 a2 = some e) (h0 : ¬ e = 0) :
    Calls Try.prog 7 #[.agg #[.int .u8 a0_0, .int .i64 a0_1, .int .i64 a0_2, .slice A0_3 l0_3.length c0_3], .agg #[.int .u8 a1_0, .slice A1_1 l1_1.length c1_1], .int .i64 a2] w fun x w' => x = .returned (.tuple #[.int .i64 0, .int .i64 e]) ∧ Below w.heap.size w w' := by
  have HE := Aside0.mk he
  have h0b : (e != 0) = true := bne_iff_ne.mpr h0
  clear he h0
  have hm0 := Kd.C_max hr0_3
  have hm1 := Kd.C_max hr1_1
  have HR0 := Aside0.mk (Kd.C_alloc (Kd.C_alloc hr0_3 (.cells #[.int .u8 a0_0, .int .i64 a0_1, .int .i64 a0_2, .slice A0_3 l0_3.length c0_3] 24)) (.cells #[.int .u8 a1_0, .slice A1_1 l1_1.length c1_1] 26))
  have HR1 := Aside0.mk (Kd.C_alloc (Kd.C_alloc hr1_1 (.cells #[.int .u8 a0_0, .int .i64 a0_1, .int .i64 a0_2, .slice A0_3 l0_3.length c0_3] 24)) (.cells #[.int .u8 a1_0, .slice A1_1 l1_1.length c1_1] 26))
  have HC0 := Aside0.mk hc0_3
  have HC1 := Aside0.mk hc1_1
  have hgA := blk_box (heap_alloc_new w (.cells #[.int .u8 a0_0, .int .i64 a0_1, .int .i64 a0_2, .slice A0_3 l0_3.length c0_3] 24)) (.cells #[.int .u8 a1_0, .slice A1_1 l1_1.length c1_1] 26)
  have hgB := heap_new_at (b := w.heap.size + 1) (World.size_alloc w (.cells #[.int .u8 a0_0, .int .i64 a0_1, .int .i64 a0_2, .slice A0_3 l0_3.length c0_3] 24)) (.cells #[.int .u8 a1_0, .slice A1_1 l1_1.length c1_1] 26)
  have HW := Aside0.mk (below_alloc (below_box (w := w) (.cells #[.int .u8 a0_0, .int .i64 a0_1, .int .i64 a0_2, .slice A0_3 l0_3.length c0_3] 24)) (.cells #[.int .u8 a1_0, .slice A1_1 l1_1.length c1_1] 26))
  clear hr0_3 hc0_3 hr1_1 hc1_1
  go_enter Try.func7, Try.ntmps7
  go_wp2_with fail
  generalize hW1 : (w.alloc (.cells #[.int .u8 a0_0, .int .i64 a0_1, .int .i64 a0_2, .slice A0_3 l0_3.length c0_3] 24)).alloc (.cells #[.int .u8 a1_0, .slice A1_1 l1_1.length c1_1] 26) = W1 at *
  have kA0 : ∀ W, Below W1.heap.size W1 W → W.cell? ⟨w.heap.size, 0, none⟩ = some (.int .u8 a0_0) := fun W hb => (blk_cell (blk_later hgA hb) 0).trans rfl
  have kA1 : ∀ W, Below W1.heap.size W1 W → W.cell? ⟨w.heap.size, 1, none⟩ = some (.int .i64 a0_1) := fun W hb => (blk_cell (blk_later hgA hb) 1).trans rfl
  have kA2 : ∀ W, Below W1.heap.size W1 W → W.cell? ⟨w.heap.size, 2, none⟩ = some (.int .i64 a0_2) := fun W hb => (blk_cell (blk_later hgA hb) 2).trans rfl
  have kA3 : ∀ W, Below W1.heap.size W1 W → W.cell? ⟨w.heap.size, 3, none⟩ = some (.slice A0_3 l0_3.length c0_3) := fun W hb => (blk_cell (blk_later hgA hb) 3).trans rfl
  have kB0 : ∀ W, Below W1.heap.size W1 W → W.cell? ⟨w.heap.size + 1, 0, none⟩ = some (.int .u8 a1_0) := fun W hb => (blk_cell (blk_later hgB hb) 0).trans rfl
  have kB1 : ∀ W, Below W1.heap.size W1 W → W.cell? ⟨w.heap.size + 1, 1, none⟩ = some (.slice A1_1 l1_1.length c1_1) := fun W hb => (blk_cell (blk_later hgB hb) 1).trans rfl
  have hb0 := Below.refl W1.heap.size W1
  go_wp2_with (first | (go_at_call 12; with_reducible refine (assert_Check.calls k a0_0 a0_1 a0_2 _ _ l0_3 a2 e _ HR0.out HC0.out HE.out).mono ?_; rintro x w' ⟨rfl, hb⟩))
  go_ret2
  exact ⟨rfl, below_step HW.out (by assumption)⟩
set_option maxHeartbeats 8000000 in
set_option maxRecDepth 100000 in
theorem assert_Value.badballot (k : Nat) (a0_0 a0_1 a0_2 a1_0 : Int) (A0_3 : Option Addr) (c0_3 : Nat) (l0_3 : List Int) (A1_1 : Option Addr) (c1_1 : Nat) (l1_1 : List Int) (a2 : Int) (w : World) (hr0_3 : Kd.C (Kd.int .i64) w A0_3 l0_3.length l0_3) (hc0_3 : l0_3.length ≤ c0_3) (hr1_1 : Kd.C (Kd.int .i64) w A1_1 l1_1.length l1_1) (hc1_1 : l1_1.length ≤ c1_1) (he : assert_Check.f k a0_0 a0_1 a0_2 l0_3 a2 = some 0) (t : Int) (ht : ballot_Check.f k a1_0 l1_1 a2 = some t) (h0 : ¬ t = 0) :
    Calls Try.prog 7 #[.agg #[.int .u8 a0_0, .int .i64 a0_1, .int .i64 a0_2, .slice A0_3 l0_3.length c0_3], .agg #[.int .u8 a1_0, .slice A1_1 l1_1.length c1_1], .int .i64 a2] w fun x w' => x = .returned (.tuple #[.int .i64 0, .int .i64 8]) ∧ Below w.heap.size w w' := by
  have HE := Aside0.mk he
  have HT := Aside0.mk ht
  have h0b : (t != 0) = true := bne_iff_ne.mpr h0
  clear he ht h0
  have hm0 := Kd.C_max hr0_3
  have hm1 := Kd.C_max hr1_1
  have HR0 := Aside0.mk (Kd.C_alloc (Kd.C_alloc hr0_3 (.cells #[.int .u8 a0_0, .int .i64 a0_1, .int .i64 a0_2, .slice A0_3 l0_3.length c0_3] 24)) (.cells #[.int .u8 a1_0, .slice A1_1 l1_1.length c1_1] 26))
  have HR1 := Aside0.mk (Kd.C_alloc (Kd.C_alloc hr1_1 (.cells #[.int .u8 a0_0, .int .i64 a0_1, .int .i64 a0_2, .slice A0_3 l0_3.length c0_3] 24)) (.cells #[.int .u8 a1_0, .slice A1_1 l1_1.length c1_1] 26))
  have HC0 := Aside0.mk hc0_3
  have HC1 := Aside0.mk hc1_1
  have hgA := blk_box (heap_alloc_new w (.cells #[.int .u8 a0_0, .int .i64 a0_1, .int .i64 a0_2, .slice A0_3 l0_3.length c0_3] 24)) (.cells #[.int .u8 a1_0, .slice A1_1 l1_1.length c1_1] 26)
  have hgB := heap_new_at (b := w.heap.size + 1) (World.size_alloc w (.cells #[.int .u8 a0_0, .int .i64 a0_1, .int .i64 a0_2, .slice A0_3 l0_3.length c0_3] 24)) (.cells #[.int .u8 a1_0, .slice A1_1 l1_1.length c1_1] 26)
  have HW := Aside0.mk (below_alloc (below_box (w := w) (.cells #[.int .u8 a0_0, .int .i64 a0_1, .int .i64 a0_2, .slice A0_3 l0_3.length c0_3] 24)) (.cells #[.int .u8 a1_0, .slice A1_1 l1_1.length c1_1] 26))
  clear hr0_3 hc0_3 hr1_1 hc1_1
  go_enter Try.func7, Try.ntmps7
  go_wp2_with fail
  generalize hW1 : (w.alloc (.cells #[.int .u8 a0_0, .int .i64 a0_1, .int .i64 a0_2, .slice A0_3 l0_3.length c0_3] 24)).alloc (.cells #[.int .u8 a1_0, .slice A1_1 l1_1.length c1_1] 26) = W1 at *
  have kA0 : ∀ W, Below W1.heap.size W1 W → W.cell? ⟨w.heap.size, 0, none⟩ = some (.int .u8 a0_0) := fun W hb => (blk_cell (blk_later hgA hb) 0).trans rfl
  have kA1 : ∀ W, Below W1.heap.size W1 W → W.cell? ⟨w.heap.size, 1, none⟩ = some (.int .i64 a0_1) := fun W hb => (blk_cell (blk_later hgA hb) 1).trans rfl
  have kA2 : ∀ W, Below W1.heap.size W1 W → W.cell? ⟨w.heap.size, 2, none⟩ = some (.int .i64 a0_2) := fun W hb => (blk_cell (blk_later hgA hb) 2).trans rfl
  have kA3 : ∀ W, Below W1.heap.size W1 W → W.cell? ⟨w.heap.size, 3, none⟩ = some (.slice A0_3 l0_3.length c0_3) := fun W hb => (blk_cell (blk_later hgA hb) 3).trans rfl
  have kB0 : ∀ W, Below W1.heap.size W1 W → W.cell? ⟨w.heap.size + 1, 0, none⟩ = some (.int .u8 a1_0) := fun W hb => (blk_cell (blk_later hgB hb) 0).trans rfl
  have kB1 : ∀ W, Below W1.heap.size W1 W → W.cell? ⟨w.heap.size + 1, 1, none⟩ = some (.slice A1_1 l1_1.length c1_1) := fun W hb => (blk_cell (blk_later hgB hb) 1).trans rfl
  have hb0 := Below.refl W1.heap.size W1
  go_wp2_with (first | (go_at_call 12; with_reducible refine (assert_Check.calls k a0_0 a0_1 a0_2 _ _ l0_3 a2 0 _ HR0.out HC0.out HE.out).mono ?_; rintro x w' ⟨rfl, hb⟩))
  refine Go.Flow2.region_flow' (fun W => Below W1.heap.size W1 W) (fun i v _ => match i with
    | 0 => v = .agg #[.int .u8 a1_0, .slice A1_1 l1_1.length c1_1] | 1 => v = .int .i64 a2 | 2 => v = .int .i64 t | 3 => v = .bool true | 4 => v = .bool true | 10 => v = .bool true | _ => True) (fun _ _ => True)
    rfl (by kernel_rfl) (fun _ => trivial) (fun _ _ _ _ h _ => h) (Below.drew (by assumption)) ?_ ?_
  · refine ⟨?_, ?_, ?_, ?_, ?_, ?_, ?_, ?_, ?_, ?_, ?_, True.intro⟩
    all_goals intro vs w3 hS hd
    all_goals simp only [Go.Flow2.bound, List.filter_cons, List.filter_nil, Region.binds, reduceCtorEq, beq_iff_eq, if_true, if_false, ↓reduceIte, Go.Flow2.Deps, and_true] at hd
    all_goals simp only [Go.Flow2.fillFrom, Act.put, List.setIfInBounds_toArray, List.set_cons_succ, List.set_cons_zero, Nat.reduceAdd]
    · refine Go.Flow2.wants rfl ?_
      go_simp
    · refine Go.Flow2.wants rfl ?_
      go_simp
    · refine Go.Flow2.wants rfl ?_
      obtain ⟨h0, h1⟩ := hd
      go_simp
      refine (ballot_Check.calls k a1_0 _ _ l1_1 a2 t _ (Kd.C_below HR1.out hS) HC1.out HT.out).mono ?_
      rintro e w4 ⟨rfl, hb4⟩
      exact ⟨rfl, below_step hS hb4⟩
    · refine Go.Flow2.wants rfl ?_
      go_simp
    · refine Go.Flow2.wants rfl ?_
      go_simp
    · exact Go.Flow2.unwanted (by simp [Region.wanted, yielded, hd]) trivial
    · exact Go.Flow2.unwanted (by simp [Region.wanted, yielded, hd]) trivial
    · exact Go.Flow2.unwanted (by simp [Region.wanted, yielded, hd]) trivial
    · exact Go.Flow2.unwanted (by simp [Region.wanted, yielded, hd]) trivial
    · exact Go.Flow2.unwanted (by simp [Region.wanted, yielded, hd]) trivial
    · refine Go.Flow2.wants rfl ?_
      go_simp
  · intro vs w3 hS hd
    simp only [Go.Flow2.fillFrom, Act.put, List.setIfInBounds_toArray, List.set_cons_succ, List.set_cons_zero, Nat.reduceAdd]
    simp only [Go.Flow2.Ends, Nat.reduceAdd] at hd
    simp only [hd]
    clear hd
    go_wp2
    go_ret2
    exact ⟨rfl, below_step HW.out hS⟩
set_option maxHeartbeats 8000000 in
set_option maxRecDepth 100000 in
theorem assert_Value.otherkind (k : Nat) (a0_0 a0_1 a0_2 a1_0 : Int) (A0_3 : Option Addr) (c0_3 : Nat) (l0_3 : List Int) (A1_1 : Option Addr) (c1_1 : Nat) (l1_1 : List Int) (a2 : Int) (w : World) (hr0_3 : Kd.C (Kd.int .i64) w A0_3 l0_3.length l0_3) (hc0_3 : l0_3.length ≤ c0_3) (hr1_1 : Kd.C (Kd.int .i64) w A1_1 l1_1.length l1_1) (hc1_1 : l1_1.length ≤ c1_1) (he : assert_Check.f k a0_0 a0_1 a0_2 l0_3 a2 = some 0) (ht : ballot_Check.f k a1_0 l1_1 a2 = some 0) (q : Int) (hq : assert_kind.f a0_0 a0_1 a0_2 l0_3 = some q) (h0 : ¬ a1_0 = q) :
    Calls Try.prog 7 #[.agg #[.int .u8 a0_0, .int .i64 a0_1, .int .i64 a0_2, .slice A0_3 l0_3.length c0_3], .agg #[.int .u8 a1_0, .slice A1_1 l1_1.length c1_1], .int .i64 a2] w fun x w' => x = .returned (.tuple #[.int .i64 0, .int .i64 8]) ∧ Below w.heap.size w w' := by
  have HE := Aside0.mk he
  have HT := Aside0.mk ht
  have HK := Aside0.mk hq
  have h0b : (a1_0 != q) = true := bne_iff_ne.mpr h0
  clear he ht hq h0
  have hm0 := Kd.C_max hr0_3
  have hm1 := Kd.C_max hr1_1
  have HR0 := Aside0.mk (Kd.C_alloc (Kd.C_alloc hr0_3 (.cells #[.int .u8 a0_0, .int .i64 a0_1, .int .i64 a0_2, .slice A0_3 l0_3.length c0_3] 24)) (.cells #[.int .u8 a1_0, .slice A1_1 l1_1.length c1_1] 26))
  have HR1 := Aside0.mk (Kd.C_alloc (Kd.C_alloc hr1_1 (.cells #[.int .u8 a0_0, .int .i64 a0_1, .int .i64 a0_2, .slice A0_3 l0_3.length c0_3] 24)) (.cells #[.int .u8 a1_0, .slice A1_1 l1_1.length c1_1] 26))
  have HC0 := Aside0.mk hc0_3
  have HC1 := Aside0.mk hc1_1
  have hgA := blk_box (heap_alloc_new w (.cells #[.int .u8 a0_0, .int .i64 a0_1, .int .i64 a0_2, .slice A0_3 l0_3.length c0_3] 24)) (.cells #[.int .u8 a1_0, .slice A1_1 l1_1.length c1_1] 26)
  have hgB := heap_new_at (b := w.heap.size + 1) (World.size_alloc w (.cells #[.int .u8 a0_0, .int .i64 a0_1, .int .i64 a0_2, .slice A0_3 l0_3.length c0_3] 24)) (.cells #[.int .u8 a1_0, .slice A1_1 l1_1.length c1_1] 26)
  have HW := Aside0.mk (below_alloc (below_box (w := w) (.cells #[.int .u8 a0_0, .int .i64 a0_1, .int .i64 a0_2, .slice A0_3 l0_3.length c0_3] 24)) (.cells #[.int .u8 a1_0, .slice A1_1 l1_1.length c1_1] 26))
  clear hr0_3 hc0_3 hr1_1 hc1_1
  go_enter Try.func7, Try.ntmps7
  go_wp2_with fail
  generalize hW1 : (w.alloc (.cells #[.int .u8 a0_0, .int .i64 a0_1, .int .i64 a0_2, .slice A0_3 l0_3.length c0_3] 24)).alloc (.cells #[.int .u8 a1_0, .slice A1_1 l1_1.length c1_1] 26) = W1 at *
  have kA0 : ∀ W, Below W1.heap.size W1 W → W.cell? ⟨w.heap.size, 0, none⟩ = some (.int .u8 a0_0) := fun W hb => (blk_cell (blk_later hgA hb) 0).trans rfl
  have kA1 : ∀ W, Below W1.heap.size W1 W → W.cell? ⟨w.heap.size, 1, none⟩ = some (.int .i64 a0_1) := fun W hb => (blk_cell (blk_later hgA hb) 1).trans rfl
  have kA2 : ∀ W, Below W1.heap.size W1 W → W.cell? ⟨w.heap.size, 2, none⟩ = some (.int .i64 a0_2) := fun W hb => (blk_cell (blk_later hgA hb) 2).trans rfl
  have kA3 : ∀ W, Below W1.heap.size W1 W → W.cell? ⟨w.heap.size, 3, none⟩ = some (.slice A0_3 l0_3.length c0_3) := fun W hb => (blk_cell (blk_later hgA hb) 3).trans rfl
  have kB0 : ∀ W, Below W1.heap.size W1 W → W.cell? ⟨w.heap.size + 1, 0, none⟩ = some (.int .u8 a1_0) := fun W hb => (blk_cell (blk_later hgB hb) 0).trans rfl
  have kB1 : ∀ W, Below W1.heap.size W1 W → W.cell? ⟨w.heap.size + 1, 1, none⟩ = some (.slice A1_1 l1_1.length c1_1) := fun W hb => (blk_cell (blk_later hgB hb) 1).trans rfl
  have hb0 := Below.refl W1.heap.size W1
  go_wp2_with (first | (go_at_call 12; with_reducible refine (assert_Check.calls k a0_0 a0_1 a0_2 _ _ l0_3 a2 0 _ HR0.out HC0.out HE.out).mono ?_; rintro x w' ⟨rfl, hb⟩))
  go_region_held3 (fun W => Below W1.heap.size W1 W) (first | assumption | exact (Below.refl _ _).drew | exact below_step (by assumption) (by assumption) | exact Below.drew (by assumption)) (first | (go_at_call 18; with_reducible refine (ballot_Check.calls k a1_0 _ _ l1_1 a2 0 _ (Kd.C_below HR1.out (by assumption)) HC1.out HT.out).mono ?_; rintro x w' ⟨rfl, hb⟩) | (go_at_call 19; with_reducible refine (assert_kind.calls a0_0 a0_1 a0_2 _ _ l0_3 q _ (Kd.C_below HR0.out (by assumption)) HC0.out HK.out).mono ?_; rintro x w' ⟨rfl, hb⟩))
  go_wp2
  go_ret2
  exact ⟨rfl, below_step HW.out (by assumption)⟩
set_option maxHeartbeats 8000000 in
set_option maxRecDepth 100000 in
theorem assert_Value.worth1 (k : Nat) (a0_1 a0_2 a1_0 : Int) (A0_3 : Option Addr) (c0_3 : Nat) (l0_3 : List Int) (A1_1 : Option Addr) (c1_1 : Nat) (l1_1 : List Int) (a2 : Int) (w : World) (hr0_3 : Kd.C (Kd.int .i64) w A0_3 l0_3.length l0_3) (hc0_3 : l0_3.length ≤ c0_3) (hr1_1 : Kd.C (Kd.int .i64) w A1_1 l1_1.length l1_1) (hc1_1 : l1_1.length ≤ c1_1) (he : assert_Check.f k 1 a0_1 a0_2 l0_3 a2 = some 0) (ht : ballot_Check.f k a1_0 l1_1 a2 = some 0) (hq : assert_kind.f 1 a0_1 a0_2 l0_3 = some a1_0) (r : Int) (hs : (if (l1_1.length : Int) = 1 then assert_side.f k (rd l1_1 0 == a0_1) (rd l1_1 0 == a0_2) else assert_side.f k false false) = some r) :
    Calls Try.prog 7 #[.agg #[.int .u8 1, .int .i64 a0_1, .int .i64 a0_2, .slice A0_3 l0_3.length c0_3], .agg #[.int .u8 a1_0, .slice A1_1 l1_1.length c1_1], .int .i64 a2] w fun x w' => x = .returned (.tuple #[.int .i64 r, .int .i64 0]) ∧ Below w.heap.size w w' := by
  have HE := Aside0.mk he
  have HT := Aside0.mk ht
  have HK := Aside0.mk hq
  have HS := Aside0.mk hs
  have h0b : (a1_0 != a1_0) = false := by simp
  clear he ht hq hs
  have hm0 := Kd.C_max hr0_3
  have hm1 := Kd.C_max hr1_1
  have HR0 := Aside0.mk (Kd.C_alloc (Kd.C_alloc hr0_3 (.cells #[.int .u8 1, .int .i64 a0_1, .int .i64 a0_2, .slice A0_3 l0_3.length c0_3] 24)) (.cells #[.int .u8 a1_0, .slice A1_1 l1_1.length c1_1] 26))
  have HR1 := Aside0.mk (Kd.C_alloc (Kd.C_alloc hr1_1 (.cells #[.int .u8 1, .int .i64 a0_1, .int .i64 a0_2, .slice A0_3 l0_3.length c0_3] 24)) (.cells #[.int .u8 a1_0, .slice A1_1 l1_1.length c1_1] 26))
  have HC0 := Aside0.mk hc0_3
  have HC1 := Aside0.mk hc1_1
  have hgA := blk_box (heap_alloc_new w (.cells #[.int .u8 1, .int .i64 a0_1, .int .i64 a0_2, .slice A0_3 l0_3.length c0_3] 24)) (.cells #[.int .u8 a1_0, .slice A1_1 l1_1.length c1_1] 26)
  have hgB := heap_new_at (b := w.heap.size + 1) (World.size_alloc w (.cells #[.int .u8 1, .int .i64 a0_1, .int .i64 a0_2, .slice A0_3 l0_3.length c0_3] 24)) (.cells #[.int .u8 a1_0, .slice A1_1 l1_1.length c1_1] 26)
  have HW := Aside0.mk (below_alloc (below_box (w := w) (.cells #[.int .u8 1, .int .i64 a0_1, .int .i64 a0_2, .slice A0_3 l0_3.length c0_3] 24)) (.cells #[.int .u8 a1_0, .slice A1_1 l1_1.length c1_1] 26))
  clear hr0_3 hc0_3 hr1_1 hc1_1
  go_enter Try.func7, Try.ntmps7
  go_wp2_with fail
  generalize hW1 : (w.alloc (.cells #[.int .u8 1, .int .i64 a0_1, .int .i64 a0_2, .slice A0_3 l0_3.length c0_3] 24)).alloc (.cells #[.int .u8 a1_0, .slice A1_1 l1_1.length c1_1] 26) = W1 at *
  have kA0 : ∀ W, Below W1.heap.size W1 W → W.cell? ⟨w.heap.size, 0, none⟩ = some (.int .u8 1) := fun W hb => (blk_cell (blk_later hgA hb) 0).trans rfl
  have kA1 : ∀ W, Below W1.heap.size W1 W → W.cell? ⟨w.heap.size, 1, none⟩ = some (.int .i64 a0_1) := fun W hb => (blk_cell (blk_later hgA hb) 1).trans rfl
  have kA2 : ∀ W, Below W1.heap.size W1 W → W.cell? ⟨w.heap.size, 2, none⟩ = some (.int .i64 a0_2) := fun W hb => (blk_cell (blk_later hgA hb) 2).trans rfl
  have kA3 : ∀ W, Below W1.heap.size W1 W → W.cell? ⟨w.heap.size, 3, none⟩ = some (.slice A0_3 l0_3.length c0_3) := fun W hb => (blk_cell (blk_later hgA hb) 3).trans rfl
  have kB0 : ∀ W, Below W1.heap.size W1 W → W.cell? ⟨w.heap.size + 1, 0, none⟩ = some (.int .u8 a1_0) := fun W hb => (blk_cell (blk_later hgB hb) 0).trans rfl
  have kB1 : ∀ W, Below W1.heap.size W1 W → W.cell? ⟨w.heap.size + 1, 1, none⟩ = some (.slice A1_1 l1_1.length c1_1) := fun W hb => (blk_cell (blk_later hgB hb) 1).trans rfl
  have hb0 := Below.refl W1.heap.size W1
  go_wp2_with (first | (go_at_call 12; with_reducible refine (assert_Check.calls k 1 a0_1 a0_2 _ _ l0_3 a2 0 _ HR0.out HC0.out HE.out).mono ?_; rintro x w' ⟨rfl, hb⟩))
  go_region_held3 (fun W => Below W1.heap.size W1 W) (first | assumption | exact (Below.refl _ _).drew | exact below_step (by assumption) (by assumption) | exact Below.drew (by assumption)) (first | (go_at_call 18; with_reducible refine (ballot_Check.calls k a1_0 _ _ l1_1 a2 0 _ (Kd.C_below HR1.out (by assumption)) HC1.out HT.out).mono ?_; rintro x w' ⟨rfl, hb⟩) | (go_at_call 19; with_reducible refine (assert_kind.calls 1 a0_1 a0_2 _ _ l0_3 a1_0 _ (Kd.C_below HR0.out (by assumption)) HC0.out HK.out).mono ?_; rintro x w' ⟨rfl, hb⟩))
  go_wp2
  go_region_held3 (fun W => Below W1.heap.size W1 W) (first | assumption | exact (Below.refl _ _).drew | exact below_step (by assumption) (by assumption) | exact Below.drew (by assumption)) (first | (go_at_call 20; with_reducible refine (values_calls 1 a0_1 a0_2 _ _ _ _).mono ?_; rintro x w' ⟨rfl, hmap, hbox, hb⟩; have hlk := look_hit (P := Try.prog) (t := 55) Try.underlying55 Try.underlying5 hmap 1 0 _ rfl false; rw [if_neg (by simp)] at hlk; unfold clo at hlk; dsimp only at hlk; simp only [drew_heap] at hlk hbox) | (go_at_call 37; with_reducible refine (values1_calls k a1_0 _ _ l1_1 1 a0_1 a0_2 _ _ l0_3 _ r _ hbox (Kd.C_below HR1.out (by assumption)) HC1.out HS.out).mono ?_; rintro x w' ⟨rfl, hb⟩))
  go_wp2
  go_ret2
  exact ⟨rfl, below_step HW.out (by assumption)⟩
set_option maxHeartbeats 8000000 in
set_option maxRecDepth 100000 in
theorem assert_Value.worth2 (k : Nat) (a0_1 a0_2 a1_0 : Int) (A0_3 : Option Addr) (c0_3 : Nat) (l0_3 : List Int) (A1_1 : Option Addr) (c1_1 : Nat) (l1_1 : List Int) (a2 : Int) (w : World) (hr0_3 : Kd.C (Kd.int .i64) w A0_3 l0_3.length l0_3) (hc0_3 : l0_3.length ≤ c0_3) (hr1_1 : Kd.C (Kd.int .i64) w A1_1 l1_1.length l1_1) (hc1_1 : l1_1.length ≤ c1_1) (he : assert_Check.f k 2 a0_1 a0_2 l0_3 a2 = some 0) (ht : ballot_Check.f k a1_0 l1_1 a2 = some 0) (hq : assert_kind.f 2 a0_1 a0_2 l0_3 = some a1_0) (r : Int) (x y : Bool) (hx : slices_Contains_int_int.f k l1_1 a0_1 = some x) (hy : slices_Contains_int_int.f k l1_1 a0_2 = some y) (hs : assert_side.f k x y = some r) :
    Calls Try.prog 7 #[.agg #[.int .u8 2, .int .i64 a0_1, .int .i64 a0_2, .slice A0_3 l0_3.length c0_3], .agg #[.int .u8 a1_0, .slice A1_1 l1_1.length c1_1], .int .i64 a2] w fun x w' => x = .returned (.tuple #[.int .i64 r, .int .i64 0]) ∧ Below w.heap.size w w' := by
  have HE := Aside0.mk he
  have HT := Aside0.mk ht
  have HK := Aside0.mk hq
  have HS := Aside0.mk hs
  have HX := Aside0.mk hx
  have HY := Aside0.mk hy
  have h0b : (a1_0 != a1_0) = false := by simp
  clear he ht hq hs hx hy
  have hm0 := Kd.C_max hr0_3
  have hm1 := Kd.C_max hr1_1
  have HR0 := Aside0.mk (Kd.C_alloc (Kd.C_alloc hr0_3 (.cells #[.int .u8 2, .int .i64 a0_1, .int .i64 a0_2, .slice A0_3 l0_3.length c0_3] 24)) (.cells #[.int .u8 a1_0, .slice A1_1 l1_1.length c1_1] 26))
  have HR1 := Aside0.mk (Kd.C_alloc (Kd.C_alloc hr1_1 (.cells #[.int .u8 2, .int .i64 a0_1, .int .i64 a0_2, .slice A0_3 l0_3.length c0_3] 24)) (.cells #[.int .u8 a1_0, .slice A1_1 l1_1.length c1_1] 26))
  have HC0 := Aside0.mk hc0_3
  have HC1 := Aside0.mk hc1_1
  have hgA := blk_box (heap_alloc_new w (.cells #[.int .u8 2, .int .i64 a0_1, .int .i64 a0_2, .slice A0_3 l0_3.length c0_3] 24)) (.cells #[.int .u8 a1_0, .slice A1_1 l1_1.length c1_1] 26)
  have hgB := heap_new_at (b := w.heap.size + 1) (World.size_alloc w (.cells #[.int .u8 2, .int .i64 a0_1, .int .i64 a0_2, .slice A0_3 l0_3.length c0_3] 24)) (.cells #[.int .u8 a1_0, .slice A1_1 l1_1.length c1_1] 26)
  have HW := Aside0.mk (below_alloc (below_box (w := w) (.cells #[.int .u8 2, .int .i64 a0_1, .int .i64 a0_2, .slice A0_3 l0_3.length c0_3] 24)) (.cells #[.int .u8 a1_0, .slice A1_1 l1_1.length c1_1] 26))
  clear hr0_3 hc0_3 hr1_1 hc1_1
  go_enter Try.func7, Try.ntmps7
  go_wp2_with fail
  generalize hW1 : (w.alloc (.cells #[.int .u8 2, .int .i64 a0_1, .int .i64 a0_2, .slice A0_3 l0_3.length c0_3] 24)).alloc (.cells #[.int .u8 a1_0, .slice A1_1 l1_1.length c1_1] 26) = W1 at *
  have kA0 : ∀ W, Below W1.heap.size W1 W → W.cell? ⟨w.heap.size, 0, none⟩ = some (.int .u8 2) := fun W hb => (blk_cell (blk_later hgA hb) 0).trans rfl
  have kA1 : ∀ W, Below W1.heap.size W1 W → W.cell? ⟨w.heap.size, 1, none⟩ = some (.int .i64 a0_1) := fun W hb => (blk_cell (blk_later hgA hb) 1).trans rfl
  have kA2 : ∀ W, Below W1.heap.size W1 W → W.cell? ⟨w.heap.size, 2, none⟩ = some (.int .i64 a0_2) := fun W hb => (blk_cell (blk_later hgA hb) 2).trans rfl
  have kA3 : ∀ W, Below W1.heap.size W1 W → W.cell? ⟨w.heap.size, 3, none⟩ = some (.slice A0_3 l0_3.length c0_3) := fun W hb => (blk_cell (blk_later hgA hb) 3).trans rfl
  have kB0 : ∀ W, Below W1.heap.size W1 W → W.cell? ⟨w.heap.size + 1, 0, none⟩ = some (.int .u8 a1_0) := fun W hb => (blk_cell (blk_later hgB hb) 0).trans rfl
  have kB1 : ∀ W, Below W1.heap.size W1 W → W.cell? ⟨w.heap.size + 1, 1, none⟩ = some (.slice A1_1 l1_1.length c1_1) := fun W hb => (blk_cell (blk_later hgB hb) 1).trans rfl
  have hb0 := Below.refl W1.heap.size W1
  go_wp2_with (first | (go_at_call 12; with_reducible refine (assert_Check.calls k 2 a0_1 a0_2 _ _ l0_3 a2 0 _ HR0.out HC0.out HE.out).mono ?_; rintro x w' ⟨rfl, hb⟩))
  go_region_held3 (fun W => Below W1.heap.size W1 W) (first | assumption | exact (Below.refl _ _).drew | exact below_step (by assumption) (by assumption) | exact Below.drew (by assumption)) (first | (go_at_call 18; with_reducible refine (ballot_Check.calls k a1_0 _ _ l1_1 a2 0 _ (Kd.C_below HR1.out (by assumption)) HC1.out HT.out).mono ?_; rintro x w' ⟨rfl, hb⟩) | (go_at_call 19; with_reducible refine (assert_kind.calls 2 a0_1 a0_2 _ _ l0_3 a1_0 _ (Kd.C_below HR0.out (by assumption)) HC0.out HK.out).mono ?_; rintro x w' ⟨rfl, hb⟩))
  go_wp2
  go_region_held3 (fun W => Below W1.heap.size W1 W) (first | assumption | exact (Below.refl _ _).drew | exact below_step (by assumption) (by assumption) | exact Below.drew (by assumption)) (first | (go_at_call 20; with_reducible refine (values_calls 2 a0_1 a0_2 _ _ _ _).mono ?_; rintro x w' ⟨rfl, hmap, hbox, hb⟩; have hlk := look_hit (P := Try.prog) (t := 55) Try.underlying55 Try.underlying5 hmap 2 1 _ rfl false; rw [if_neg (by simp)] at hlk; unfold clo at hlk; dsimp only at hlk; simp only [drew_heap] at hlk hbox) | (go_at_call 39; with_reducible refine (values2_calls k a1_0 _ _ l1_1 2 a0_1 a0_2 _ _ l0_3 _ x y r _ hbox (Kd.C_below HR1.out (by assumption)) HC1.out HX.out HY.out HS.out).mono ?_; rintro x w' ⟨rfl, hb⟩))
  go_wp2
  go_ret2
  exact ⟨rfl, below_step HW.out (by assumption)⟩
set_option maxHeartbeats 8000000 in
set_option maxRecDepth 100000 in
theorem assert_Value.worth3 (k : Nat) (a0_1 a0_2 a1_0 : Int) (A0_3 : Option Addr) (c0_3 : Nat) (l0_3 : List Int) (A1_1 : Option Addr) (c1_1 : Nat) (l1_1 : List Int) (a2 : Int) (w : World) (hr0_3 : Kd.C (Kd.int .i64) w A0_3 l0_3.length l0_3) (hc0_3 : l0_3.length ≤ c0_3) (hr1_1 : Kd.C (Kd.int .i64) w A1_1 l1_1.length l1_1) (hc1_1 : l1_1.length ≤ c1_1) (he : assert_Check.f k 3 a0_1 a0_2 l0_3 a2 = some 0) (ht : ballot_Check.f k a1_0 l1_1 a2 = some 0) (hq : assert_kind.f 3 a0_1 a0_2 l0_3 = some a1_0) (r : Int) (x y : Bool) (hx : ballot_Prefers.f k a1_0 l1_1 a0_1 a0_2 = some x) (hy : ballot_Prefers.f k a1_0 l1_1 a0_2 a0_1 = some y) (hs : assert_side.f k x y = some r) :
    Calls Try.prog 7 #[.agg #[.int .u8 3, .int .i64 a0_1, .int .i64 a0_2, .slice A0_3 l0_3.length c0_3], .agg #[.int .u8 a1_0, .slice A1_1 l1_1.length c1_1], .int .i64 a2] w fun x w' => x = .returned (.tuple #[.int .i64 r, .int .i64 0]) ∧ Below w.heap.size w w' := by
  have HE := Aside0.mk he
  have HT := Aside0.mk ht
  have HK := Aside0.mk hq
  have HS := Aside0.mk hs
  have HX := Aside0.mk hx
  have HY := Aside0.mk hy
  have h0b : (a1_0 != a1_0) = false := by simp
  clear he ht hq hs hx hy
  have hm0 := Kd.C_max hr0_3
  have hm1 := Kd.C_max hr1_1
  have HR0 := Aside0.mk (Kd.C_alloc (Kd.C_alloc hr0_3 (.cells #[.int .u8 3, .int .i64 a0_1, .int .i64 a0_2, .slice A0_3 l0_3.length c0_3] 24)) (.cells #[.int .u8 a1_0, .slice A1_1 l1_1.length c1_1] 26))
  have HR1 := Aside0.mk (Kd.C_alloc (Kd.C_alloc hr1_1 (.cells #[.int .u8 3, .int .i64 a0_1, .int .i64 a0_2, .slice A0_3 l0_3.length c0_3] 24)) (.cells #[.int .u8 a1_0, .slice A1_1 l1_1.length c1_1] 26))
  have HC0 := Aside0.mk hc0_3
  have HC1 := Aside0.mk hc1_1
  have hgA := blk_box (heap_alloc_new w (.cells #[.int .u8 3, .int .i64 a0_1, .int .i64 a0_2, .slice A0_3 l0_3.length c0_3] 24)) (.cells #[.int .u8 a1_0, .slice A1_1 l1_1.length c1_1] 26)
  have hgB := heap_new_at (b := w.heap.size + 1) (World.size_alloc w (.cells #[.int .u8 3, .int .i64 a0_1, .int .i64 a0_2, .slice A0_3 l0_3.length c0_3] 24)) (.cells #[.int .u8 a1_0, .slice A1_1 l1_1.length c1_1] 26)
  have HW := Aside0.mk (below_alloc (below_box (w := w) (.cells #[.int .u8 3, .int .i64 a0_1, .int .i64 a0_2, .slice A0_3 l0_3.length c0_3] 24)) (.cells #[.int .u8 a1_0, .slice A1_1 l1_1.length c1_1] 26))
  clear hr0_3 hc0_3 hr1_1 hc1_1
  go_enter Try.func7, Try.ntmps7
  go_wp2_with fail
  generalize hW1 : (w.alloc (.cells #[.int .u8 3, .int .i64 a0_1, .int .i64 a0_2, .slice A0_3 l0_3.length c0_3] 24)).alloc (.cells #[.int .u8 a1_0, .slice A1_1 l1_1.length c1_1] 26) = W1 at *
  have kA0 : ∀ W, Below W1.heap.size W1 W → W.cell? ⟨w.heap.size, 0, none⟩ = some (.int .u8 3) := fun W hb => (blk_cell (blk_later hgA hb) 0).trans rfl
  have kA1 : ∀ W, Below W1.heap.size W1 W → W.cell? ⟨w.heap.size, 1, none⟩ = some (.int .i64 a0_1) := fun W hb => (blk_cell (blk_later hgA hb) 1).trans rfl
  have kA2 : ∀ W, Below W1.heap.size W1 W → W.cell? ⟨w.heap.size, 2, none⟩ = some (.int .i64 a0_2) := fun W hb => (blk_cell (blk_later hgA hb) 2).trans rfl
  have kA3 : ∀ W, Below W1.heap.size W1 W → W.cell? ⟨w.heap.size, 3, none⟩ = some (.slice A0_3 l0_3.length c0_3) := fun W hb => (blk_cell (blk_later hgA hb) 3).trans rfl
  have kB0 : ∀ W, Below W1.heap.size W1 W → W.cell? ⟨w.heap.size + 1, 0, none⟩ = some (.int .u8 a1_0) := fun W hb => (blk_cell (blk_later hgB hb) 0).trans rfl
  have kB1 : ∀ W, Below W1.heap.size W1 W → W.cell? ⟨w.heap.size + 1, 1, none⟩ = some (.slice A1_1 l1_1.length c1_1) := fun W hb => (blk_cell (blk_later hgB hb) 1).trans rfl
  have hb0 := Below.refl W1.heap.size W1
  go_wp2_with (first | (go_at_call 12; with_reducible refine (assert_Check.calls k 3 a0_1 a0_2 _ _ l0_3 a2 0 _ HR0.out HC0.out HE.out).mono ?_; rintro x w' ⟨rfl, hb⟩))
  go_region_held3 (fun W => Below W1.heap.size W1 W) (first | assumption | exact (Below.refl _ _).drew | exact below_step (by assumption) (by assumption) | exact Below.drew (by assumption)) (first | (go_at_call 18; with_reducible refine (ballot_Check.calls k a1_0 _ _ l1_1 a2 0 _ (Kd.C_below HR1.out (by assumption)) HC1.out HT.out).mono ?_; rintro x w' ⟨rfl, hb⟩) | (go_at_call 19; with_reducible refine (assert_kind.calls 3 a0_1 a0_2 _ _ l0_3 a1_0 _ (Kd.C_below HR0.out (by assumption)) HC0.out HK.out).mono ?_; rintro x w' ⟨rfl, hb⟩))
  go_wp2
  go_region_held3 (fun W => Below W1.heap.size W1 W) (first | assumption | exact (Below.refl _ _).drew | exact below_step (by assumption) (by assumption) | exact Below.drew (by assumption)) (first | (go_at_call 20; with_reducible refine (values_calls 3 a0_1 a0_2 _ _ _ _).mono ?_; rintro x w' ⟨rfl, hmap, hbox, hb⟩; have hlk := look_hit (P := Try.prog) (t := 55) Try.underlying55 Try.underlying5 hmap 3 2 _ rfl false; rw [if_neg (by simp)] at hlk; unfold clo at hlk; dsimp only at hlk; simp only [drew_heap] at hlk hbox) | (go_at_call 41; with_reducible refine (values3_calls k a1_0 _ _ l1_1 3 a0_1 a0_2 _ _ l0_3 _ x y r _ hbox (Kd.C_below HR1.out (by assumption)) HC1.out HX.out HY.out HS.out).mono ?_; rintro x w' ⟨rfl, hb⟩))
  go_wp2
  go_ret2
  exact ⟨rfl, below_step HW.out (by assumption)⟩
set_option maxHeartbeats 8000000 in
set_option maxRecDepth 100000 in
theorem assert_Value.worth4 (k : Nat) (a0_1 a0_2 a1_0 : Int) (A0_3 : Option Addr) (c0_3 : Nat) (l0_3 : List Int) (A1_1 : Option Addr) (c1_1 : Nat) (l1_1 : List Int) (a2 : Int) (w : World) (hr0_3 : Kd.C (Kd.int .i64) w A0_3 l0_3.length l0_3) (hc0_3 : l0_3.length ≤ c0_3) (hr1_1 : Kd.C (Kd.int .i64) w A1_1 l1_1.length l1_1) (hc1_1 : l1_1.length ≤ c1_1) (he : assert_Check.f k 4 a0_1 a0_2 l0_3 a2 = some 0) (ht : ballot_Check.f k a1_0 l1_1 a2 = some 0) (hq : assert_kind.f 4 a0_1 a0_2 l0_3 = some a1_0) (r : Int) (n : Int) (ok : Bool) (hx : assert_first.f k l1_1 l0_3 = some (n, ok)) (hs : (if ok = true then assert_side.f k (n == a0_1) (n == a0_2) else assert_side.f k false false) = some r) :
    Calls Try.prog 7 #[.agg #[.int .u8 4, .int .i64 a0_1, .int .i64 a0_2, .slice A0_3 l0_3.length c0_3], .agg #[.int .u8 a1_0, .slice A1_1 l1_1.length c1_1], .int .i64 a2] w fun x w' => x = .returned (.tuple #[.int .i64 r, .int .i64 0]) ∧ Below w.heap.size w w' := by
  have HE := Aside0.mk he
  have HT := Aside0.mk ht
  have HK := Aside0.mk hq
  have HS := Aside0.mk hs
  have HX := Aside0.mk hx
  have h0b : (a1_0 != a1_0) = false := by simp
  clear he ht hq hs hx
  have hm0 := Kd.C_max hr0_3
  have hm1 := Kd.C_max hr1_1
  have HR0 := Aside0.mk (Kd.C_alloc (Kd.C_alloc hr0_3 (.cells #[.int .u8 4, .int .i64 a0_1, .int .i64 a0_2, .slice A0_3 l0_3.length c0_3] 24)) (.cells #[.int .u8 a1_0, .slice A1_1 l1_1.length c1_1] 26))
  have HR1 := Aside0.mk (Kd.C_alloc (Kd.C_alloc hr1_1 (.cells #[.int .u8 4, .int .i64 a0_1, .int .i64 a0_2, .slice A0_3 l0_3.length c0_3] 24)) (.cells #[.int .u8 a1_0, .slice A1_1 l1_1.length c1_1] 26))
  have HC0 := Aside0.mk hc0_3
  have HC1 := Aside0.mk hc1_1
  have hgA := blk_box (heap_alloc_new w (.cells #[.int .u8 4, .int .i64 a0_1, .int .i64 a0_2, .slice A0_3 l0_3.length c0_3] 24)) (.cells #[.int .u8 a1_0, .slice A1_1 l1_1.length c1_1] 26)
  have hgB := heap_new_at (b := w.heap.size + 1) (World.size_alloc w (.cells #[.int .u8 4, .int .i64 a0_1, .int .i64 a0_2, .slice A0_3 l0_3.length c0_3] 24)) (.cells #[.int .u8 a1_0, .slice A1_1 l1_1.length c1_1] 26)
  have HW := Aside0.mk (below_alloc (below_box (w := w) (.cells #[.int .u8 4, .int .i64 a0_1, .int .i64 a0_2, .slice A0_3 l0_3.length c0_3] 24)) (.cells #[.int .u8 a1_0, .slice A1_1 l1_1.length c1_1] 26))
  clear hr0_3 hc0_3 hr1_1 hc1_1
  go_enter Try.func7, Try.ntmps7
  go_wp2_with fail
  generalize hW1 : (w.alloc (.cells #[.int .u8 4, .int .i64 a0_1, .int .i64 a0_2, .slice A0_3 l0_3.length c0_3] 24)).alloc (.cells #[.int .u8 a1_0, .slice A1_1 l1_1.length c1_1] 26) = W1 at *
  have kA0 : ∀ W, Below W1.heap.size W1 W → W.cell? ⟨w.heap.size, 0, none⟩ = some (.int .u8 4) := fun W hb => (blk_cell (blk_later hgA hb) 0).trans rfl
  have kA1 : ∀ W, Below W1.heap.size W1 W → W.cell? ⟨w.heap.size, 1, none⟩ = some (.int .i64 a0_1) := fun W hb => (blk_cell (blk_later hgA hb) 1).trans rfl
  have kA2 : ∀ W, Below W1.heap.size W1 W → W.cell? ⟨w.heap.size, 2, none⟩ = some (.int .i64 a0_2) := fun W hb => (blk_cell (blk_later hgA hb) 2).trans rfl
  have kA3 : ∀ W, Below W1.heap.size W1 W → W.cell? ⟨w.heap.size, 3, none⟩ = some (.slice A0_3 l0_3.length c0_3) := fun W hb => (blk_cell (blk_later hgA hb) 3).trans rfl
  have kB0 : ∀ W, Below W1.heap.size W1 W → W.cell? ⟨w.heap.size + 1, 0, none⟩ = some (.int .u8 a1_0) := fun W hb => (blk_cell (blk_later hgB hb) 0).trans rfl
  have kB1 : ∀ W, Below W1.heap.size W1 W → W.cell? ⟨w.heap.size + 1, 1, none⟩ = some (.slice A1_1 l1_1.length c1_1) := fun W hb => (blk_cell (blk_later hgB hb) 1).trans rfl
  have hb0 := Below.refl W1.heap.size W1
  go_wp2_with (first | (go_at_call 12; with_reducible refine (assert_Check.calls k 4 a0_1 a0_2 _ _ l0_3 a2 0 _ HR0.out HC0.out HE.out).mono ?_; rintro x w' ⟨rfl, hb⟩))
  go_region_held3 (fun W => Below W1.heap.size W1 W) (first | assumption | exact (Below.refl _ _).drew | exact below_step (by assumption) (by assumption) | exact Below.drew (by assumption)) (first | (go_at_call 18; with_reducible refine (ballot_Check.calls k a1_0 _ _ l1_1 a2 0 _ (Kd.C_below HR1.out (by assumption)) HC1.out HT.out).mono ?_; rintro x w' ⟨rfl, hb⟩) | (go_at_call 19; with_reducible refine (assert_kind.calls 4 a0_1 a0_2 _ _ l0_3 a1_0 _ (Kd.C_below HR0.out (by assumption)) HC0.out HK.out).mono ?_; rintro x w' ⟨rfl, hb⟩))
  go_wp2
  go_region_held3 (fun W => Below W1.heap.size W1 W) (first | assumption | exact (Below.refl _ _).drew | exact below_step (by assumption) (by assumption) | exact Below.drew (by assumption)) (first | (go_at_call 20; with_reducible refine (values_calls 4 a0_1 a0_2 _ _ _ _).mono ?_; rintro x w' ⟨rfl, hmap, hbox, hb⟩; have hlk := look_hit (P := Try.prog) (t := 55) Try.underlying55 Try.underlying5 hmap 4 3 _ rfl false; rw [if_neg (by simp)] at hlk; unfold clo at hlk; dsimp only at hlk; simp only [drew_heap] at hlk hbox) | (go_at_call 43; with_reducible refine (values4_calls k a1_0 _ _ l1_1 4 a0_1 a0_2 _ _ l0_3 _ n ok r _ hbox (Kd.C_below HR1.out (by assumption)) HC1.out (Kd.C_below HR0.out (by assumption)) HC0.out HX.out HS.out).mono ?_; rintro x w' ⟨rfl, hb⟩))
  go_wp2
  go_ret2
  exact ⟨rfl, below_step HW.out (by assumption)⟩
set_option maxHeartbeats 8000000 in
set_option maxRecDepth 100000 in
theorem assert_Value.worth5 (k : Nat) (a0_1 a0_2 a1_0 : Int) (A0_3 : Option Addr) (c0_3 : Nat) (l0_3 : List Int) (A1_1 : Option Addr) (c1_1 : Nat) (l1_1 : List Int) (a2 : Int) (w : World) (hr0_3 : Kd.C (Kd.int .i64) w A0_3 l0_3.length l0_3) (hc0_3 : l0_3.length ≤ c0_3) (hr1_1 : Kd.C (Kd.int .i64) w A1_1 l1_1.length l1_1) (hc1_1 : l1_1.length ≤ c1_1) (he : assert_Check.f k 5 a0_1 a0_2 l0_3 a2 = some 0) (ht : ballot_Check.f k a1_0 l1_1 a2 = some 0) (hq : assert_kind.f 5 a0_1 a0_2 l0_3 = some a1_0) (r : Int) (n : Int) (ok : Bool) (hx : assert_first.f k l1_1 l0_3 = some (n, ok)) (hs : (if ok = true then assert_side.f k (n == a0_1) (n != a0_1) else assert_side.f k false false) = some r) :
    Calls Try.prog 7 #[.agg #[.int .u8 5, .int .i64 a0_1, .int .i64 a0_2, .slice A0_3 l0_3.length c0_3], .agg #[.int .u8 a1_0, .slice A1_1 l1_1.length c1_1], .int .i64 a2] w fun x w' => x = .returned (.tuple #[.int .i64 r, .int .i64 0]) ∧ Below w.heap.size w w' := by
  have HE := Aside0.mk he
  have HT := Aside0.mk ht
  have HK := Aside0.mk hq
  have HS := Aside0.mk hs
  have HX := Aside0.mk hx
  have h0b : (a1_0 != a1_0) = false := by simp
  clear he ht hq hs hx
  have hm0 := Kd.C_max hr0_3
  have hm1 := Kd.C_max hr1_1
  have HR0 := Aside0.mk (Kd.C_alloc (Kd.C_alloc hr0_3 (.cells #[.int .u8 5, .int .i64 a0_1, .int .i64 a0_2, .slice A0_3 l0_3.length c0_3] 24)) (.cells #[.int .u8 a1_0, .slice A1_1 l1_1.length c1_1] 26))
  have HR1 := Aside0.mk (Kd.C_alloc (Kd.C_alloc hr1_1 (.cells #[.int .u8 5, .int .i64 a0_1, .int .i64 a0_2, .slice A0_3 l0_3.length c0_3] 24)) (.cells #[.int .u8 a1_0, .slice A1_1 l1_1.length c1_1] 26))
  have HC0 := Aside0.mk hc0_3
  have HC1 := Aside0.mk hc1_1
  have hgA := blk_box (heap_alloc_new w (.cells #[.int .u8 5, .int .i64 a0_1, .int .i64 a0_2, .slice A0_3 l0_3.length c0_3] 24)) (.cells #[.int .u8 a1_0, .slice A1_1 l1_1.length c1_1] 26)
  have hgB := heap_new_at (b := w.heap.size + 1) (World.size_alloc w (.cells #[.int .u8 5, .int .i64 a0_1, .int .i64 a0_2, .slice A0_3 l0_3.length c0_3] 24)) (.cells #[.int .u8 a1_0, .slice A1_1 l1_1.length c1_1] 26)
  have HW := Aside0.mk (below_alloc (below_box (w := w) (.cells #[.int .u8 5, .int .i64 a0_1, .int .i64 a0_2, .slice A0_3 l0_3.length c0_3] 24)) (.cells #[.int .u8 a1_0, .slice A1_1 l1_1.length c1_1] 26))
  clear hr0_3 hc0_3 hr1_1 hc1_1
  go_enter Try.func7, Try.ntmps7
  go_wp2_with fail
  generalize hW1 : (w.alloc (.cells #[.int .u8 5, .int .i64 a0_1, .int .i64 a0_2, .slice A0_3 l0_3.length c0_3] 24)).alloc (.cells #[.int .u8 a1_0, .slice A1_1 l1_1.length c1_1] 26) = W1 at *
  have kA0 : ∀ W, Below W1.heap.size W1 W → W.cell? ⟨w.heap.size, 0, none⟩ = some (.int .u8 5) := fun W hb => (blk_cell (blk_later hgA hb) 0).trans rfl
  have kA1 : ∀ W, Below W1.heap.size W1 W → W.cell? ⟨w.heap.size, 1, none⟩ = some (.int .i64 a0_1) := fun W hb => (blk_cell (blk_later hgA hb) 1).trans rfl
  have kA2 : ∀ W, Below W1.heap.size W1 W → W.cell? ⟨w.heap.size, 2, none⟩ = some (.int .i64 a0_2) := fun W hb => (blk_cell (blk_later hgA hb) 2).trans rfl
  have kA3 : ∀ W, Below W1.heap.size W1 W → W.cell? ⟨w.heap.size, 3, none⟩ = some (.slice A0_3 l0_3.length c0_3) := fun W hb => (blk_cell (blk_later hgA hb) 3).trans rfl
  have kB0 : ∀ W, Below W1.heap.size W1 W → W.cell? ⟨w.heap.size + 1, 0, none⟩ = some (.int .u8 a1_0) := fun W hb => (blk_cell (blk_later hgB hb) 0).trans rfl
  have kB1 : ∀ W, Below W1.heap.size W1 W → W.cell? ⟨w.heap.size + 1, 1, none⟩ = some (.slice A1_1 l1_1.length c1_1) := fun W hb => (blk_cell (blk_later hgB hb) 1).trans rfl
  have hb0 := Below.refl W1.heap.size W1
  go_wp2_with (first | (go_at_call 12; with_reducible refine (assert_Check.calls k 5 a0_1 a0_2 _ _ l0_3 a2 0 _ HR0.out HC0.out HE.out).mono ?_; rintro x w' ⟨rfl, hb⟩))
  go_region_held3 (fun W => Below W1.heap.size W1 W) (first | assumption | exact (Below.refl _ _).drew | exact below_step (by assumption) (by assumption) | exact Below.drew (by assumption)) (first | (go_at_call 18; with_reducible refine (ballot_Check.calls k a1_0 _ _ l1_1 a2 0 _ (Kd.C_below HR1.out (by assumption)) HC1.out HT.out).mono ?_; rintro x w' ⟨rfl, hb⟩) | (go_at_call 19; with_reducible refine (assert_kind.calls 5 a0_1 a0_2 _ _ l0_3 a1_0 _ (Kd.C_below HR0.out (by assumption)) HC0.out HK.out).mono ?_; rintro x w' ⟨rfl, hb⟩))
  go_wp2
  go_region_held3 (fun W => Below W1.heap.size W1 W) (first | assumption | exact (Below.refl _ _).drew | exact below_step (by assumption) (by assumption) | exact Below.drew (by assumption)) (first | (go_at_call 20; with_reducible refine (values_calls 5 a0_1 a0_2 _ _ _ _).mono ?_; rintro x w' ⟨rfl, hmap, hbox, hb⟩; have hlk := look_hit (P := Try.prog) (t := 55) Try.underlying55 Try.underlying5 hmap 5 4 _ rfl false; rw [if_neg (by simp)] at hlk; unfold clo at hlk; dsimp only at hlk; simp only [drew_heap] at hlk hbox) | (go_at_call 45; with_reducible refine (values5_calls k a1_0 _ _ l1_1 5 a0_1 a0_2 _ _ l0_3 _ n ok r _ hbox (Kd.C_below HR1.out (by assumption)) HC1.out (Kd.C_below HR0.out (by assumption)) HC0.out HX.out HS.out).mono ?_; rintro x w' ⟨rfl, hb⟩))
  go_wp2
  go_ret2
  exact ⟨rfl, below_step HW.out (by assumption)⟩
theorem assert_Value.calls (k : Nat) (a0_0 : Int) (a0_1 : Int) (a0_2 : Int) (A0_3 : Option Addr) (c0_3 : Nat) (l0_3 : List Int) (a1_0 : Int) (A1_1 : Option Addr) (c1_1 : Nat) (l1_1 : List Int) (a2 : Int) (r1 : Int) (r2 : Int) (w : World) (hr0_3 : Kd.C (Kd.int .i64) w A0_3 l0_3.length l0_3) (hc0_3 : l0_3.length ≤ c0_3) (hr1_1 : Kd.C (Kd.int .i64) w A1_1 l1_1.length l1_1) (hc1_1 : l1_1.length ≤ c1_1) (h : assert_Value.f k a0_0 a0_1 a0_2 l0_3 a1_0 l1_1 a2 = some (r1, r2)) :
    Calls Try.prog 7 #[.agg #[.int .u8 a0_0, .int .i64 a0_1, .int .i64 a0_2, .slice A0_3 l0_3.length c0_3], .agg #[.int .u8 a1_0, .slice A1_1 l1_1.length c1_1], .int .i64 a2] w fun e w' => e = .returned (.tuple #[.int .i64 r1, .int .i64 r2]) ∧ Below w.heap.size w w' := by
  unfold assert_Value.f at h
  obtain ⟨e, he, h⟩ := Option.bind_eq_some_iff.mp h
  by_cases e0 : e = 0
  · subst e0
    rw [if_pos rfl] at h
    obtain ⟨t, ht, h⟩ := Option.bind_eq_some_iff.mp h
    by_cases t0 : t = 0
    · subst t0
      rw [if_pos rfl] at h
      obtain ⟨q, hq, h⟩ := Option.bind_eq_some_iff.mp h
      by_cases hb : a1_0 = q
      · subst hb
        rw [if_pos rfl] at h
        obtain ⟨n, hn, h⟩ := Option.bind_eq_some_iff.mp h
        simp only [Option.some.injEq, Prod.mk.injEq] at h
        obtain ⟨rfl, rfl⟩ := h
        unfold assert_worth.f at hn
        by_cases k1 : a0_0 = 1
        · rw [if_pos k1] at hn
          subst k1
          exact assert_Value.worth1 k _ _ _ _ _ _ _ _ _ _ w hr0_3 hc0_3 hr1_1 hc1_1 he ht hq n hn
        rw [if_neg k1] at hn
        by_cases k2 : a0_0 = 2
        · rw [if_pos k2] at hn
          subst k2
          obtain ⟨x, hx, hn⟩ := Option.bind_eq_some_iff.mp hn
          obtain ⟨y, hy, hn⟩ := Option.bind_eq_some_iff.mp hn
          exact assert_Value.worth2 k _ _ _ _ _ _ _ _ _ _ w hr0_3 hc0_3 hr1_1 hc1_1 he ht hq n x y hx hy hn
        rw [if_neg k2] at hn
        by_cases k3 : a0_0 = 3
        · rw [if_pos k3] at hn
          subst k3
          obtain ⟨x, hx, hn⟩ := Option.bind_eq_some_iff.mp hn
          obtain ⟨y, hy, hn⟩ := Option.bind_eq_some_iff.mp hn
          exact assert_Value.worth3 k _ _ _ _ _ _ _ _ _ _ w hr0_3 hc0_3 hr1_1 hc1_1 he ht hq n x y hx hy hn
        rw [if_neg k3] at hn
        by_cases k4 : a0_0 = 4
        · rw [if_pos k4] at hn
          subst k4
          obtain ⟨⟨x, ok⟩, hx, hn⟩ := Option.bind_eq_some_iff.mp hn
          exact assert_Value.worth4 k _ _ _ _ _ _ _ _ _ _ w hr0_3 hc0_3 hr1_1 hc1_1 he ht hq n x ok hx hn
        rw [if_neg k4] at hn
        by_cases k5 : a0_0 = 5
        · rw [if_pos k5] at hn
          subst k5
          obtain ⟨⟨x, ok⟩, hx, hn⟩ := Option.bind_eq_some_iff.mp hn
          exact assert_Value.worth5 k _ _ _ _ _ _ _ _ _ _ w hr0_3 hc0_3 hr1_1 hc1_1 he ht hq n x ok hx hn
        rw [if_neg k5] at hn
        cases hn
      · rw [if_neg hb] at h
        simp only [Option.some.injEq, Prod.mk.injEq] at h
        obtain ⟨rfl, rfl⟩ := h
        exact assert_Value.otherkind k _ _ _ _ _ _ _ _ _ _ _ w hr0_3 hc0_3 hr1_1 hc1_1 he ht q hq hb
    · rw [if_neg t0] at h
      simp only [Option.some.injEq, Prod.mk.injEq] at h
      obtain ⟨rfl, rfl⟩ := h
      exact assert_Value.badballot k _ _ _ _ _ _ _ _ _ _ _ w hr0_3 hc0_3 hr1_1 hc1_1 he t ht t0
  · rw [if_neg e0] at h
    simp only [Option.some.injEq, Prod.mk.injEq] at h
    obtain ⟨rfl, rfl⟩ := h
    exact assert_Value.refused k _ _ _ _ _ _ _ _ _ _ _ w hr0_3 hc0_3 hr1_1 hc1_1 e he e0
/-! ### contest_odd: function 46 (by hand) -/
/-- A letter that no name has. -/
def oddChar (c : Int) : Bool := if c < 33 then true else decide (c > 126)
theorem oddChar_calls (c : Int) (w : World) : Calls Try.prog 61 #[.int .u8 c] w fun e w' => e = .returned (.bool (oddChar c)) ∧ w = w' := by
  unfold oddChar
  by_cases h : c < 33
  · have hb : decide (c < 33) = true := decide_eq_true h
    rw [if_pos h]
    clear h
    go_enter Try.func61, Try.ntmps61
    go_wp2
    go_ret
    exact ⟨rfl, rfl⟩
  · have hb : decide (c < 33) = false := decide_eq_false h
    rw [if_neg h]
    clear h
    go_enter Try.func61, Try.ntmps61
    go_wp2
    go_ret
    exact ⟨rfl, rfl⟩
def anyOdd (l : List Int) : Bool := l.any oddChar
theorem any_take {α : Type} (p : α → Bool) (l : List α) (k : Nat) (h : k < l.length) (ht : (l.take k).any p = false) (hp : p l[k] = true) : l.any p = true := by
  rw [List.any_eq_true]
  exact ⟨l[k], List.getElem_mem h, hp⟩
theorem any_take_step {α : Type} (p : α → Bool) (l : List α) (k : Nat) (h : k < l.length) (ht : (l.take k).any p = false) (hp : p l[k] = false) : (l.take (k + 1)).any p = false := by
  rw [List.take_succ_eq_append_getElem h, List.any_append, ht]
  simp [hp]
set_option maxHeartbeats 4000000 in
set_option maxRecDepth 100000 in
theorem indexOdd_calls (A : Option Addr) (c : Nat) (l : List Int) (w : World) (hr : ReadsInt w .u8 A l.length l) :
    Calls Try.prog 75 #[.slice A l.length c, .func (.func 61) #[] #[]] w fun e w' => ∃ n : Int, e = .returned (.int .i64 n) ∧ decide (0 ≤ n) = anyOdd l ∧ w = w' := by
  have hm := hr.2.1
  have HR := Aside0.mk hr
  clear hr
  go_enter Try.func75, Try.ntmps75
  go_wp2
  go_loop [8] (fun i => ∃ k : Nat, k ≤ l.length ∧ (l.take k).any oddChar = false ∧ i = .int .i64 k) (fun i => l.length - (intOf i).toNat)
  case atStart => exact ⟨0, Nat.zero_le _, rfl, rfl⟩
  case round =>
    obtain ⟨k, hk, hi, rfl⟩ := hrel
    have HI := Aside0.mk hi
    clear hi
    by_cases hlt : k < l.length
    · obtain ⟨ad, e1, hx⟩ := HR.out.at_ k (by omega) (by omega)
      cases e1
      have hx' : w.cell? (ad.add k) = some (.int .u8 (rd l k)) := hx
      have he : rd l k = l[k] := by simp [rd, List.getD_eq_getElem?_getD, List.getElem?_eq_getElem hlt]
      have HE := Aside0.mk he
      clear he hx
      cases hc : oddChar (rd l k)
      · have HC := Aside0.mk hc
        go_wp2_with (first | (go_at_call 61; refine (oddChar_calls (rd l k) _).mono ?_; rintro e w' ⟨rfl, rfl⟩))
        go_round
        case rel => exact ⟨k + 1, by omega, any_take_step oddChar l k hlt HI.out (by rw [← HE.out]; exact HC.out), by go_num⟩
        case measure => simp [intOf]; omega
      · have HC := Aside0.mk hc
        go_wp2_with (first | (go_at_call 61; refine (oddChar_calls (rd l k) _).mono ?_; rintro e w' ⟨rfl, rfl⟩))
        go_ret
        exact ⟨_, rfl, by rw [anyOdd, any_take oddChar l k hlt HI.out (by rw [← HE.out]; exact HC.out)]; exact decide_eq_true (by omega), rfl⟩
    · go_wp2
      go_ret
      have hk' : k = l.length := by omega
      have := HI.out
      rw [hk', List.take_length] at this
      exact ⟨_, rfl, by rw [anyOdd, this]; rfl, rfl⟩
set_option maxHeartbeats 4000000 in
theorem containsOdd_calls (A : Option Addr) (c : Nat) (l : List Int) (w : World) (hr : ReadsInt w .u8 A l.length l) :
    Calls Try.prog 62 #[.slice A l.length c, .func (.func 61) #[] #[]] w fun e w' => e = .returned (.bool (anyOdd l)) ∧ w = w' := by
  have HR := Aside0.mk hr
  clear hr
  go_enter Try.func62, Try.ntmps62
  go_wp2_with (first | (go_at_call 75; refine (indexOdd_calls _ _ l _ HR.out).mono ?_; rintro e w' ⟨n, rfl, hn, rfl⟩; have HN := Aside0.mk hn; clear hn))
  go_ret
  exact ⟨ret_bool HN.out, rfl⟩
def oddName (s : ByteArray) : Bool := s.toList.isEmpty || (decide (40 < s.size) || anyOdd (bytesOf s))
set_option maxHeartbeats 4000000 in
set_option maxRecDepth 100000 in
theorem oddName_calls (s : ByteArray) (w : World) :
    Calls Try.prog 60 #[.string s] w fun e w' => e = .returned (.bool (oddName s)) ∧ Below w.heap.size w w' := by
  have kb := fun W => print_bytes (P := Try.prog) 9 97 5 Try.underlying9 Try.underlying97 Try.underlying5 s W
  unfold oddName
  cases h1 : s.toList.isEmpty
  · cases h2 : decide (40 < s.size)
    · have hs : s.size ≤ 9223372036854775807 := by simp at h2; omega
      have h2' : decide ((40 : Int) < (s.size : Int)) = false := by simp at h2 ⊢; omega
      go_enter Try.func60, Try.ntmps60
      go_wp2_with (first | (go_at_call 62; rw [← bytesOf_length]; refine (containsOdd_calls _ _ (bytesOf s) _ (by rw [bytesOf_length]; exact bytes_reads _ _ s hs)).mono ?_; rintro e w' ⟨rfl, rfl⟩))
      go_ret
      exact ⟨rfl, bytes_below (Below.refl _ _) (Nat.le_refl _) _ _⟩
    · have h2' : decide ((40 : Int) < (s.size : Int)) = true := by simp at h2 ⊢; omega
      go_enter Try.func60, Try.ntmps60
      go_wp2
      go_ret
      exact ⟨rfl, Below.refl _ _⟩
  · go_enter Try.func60, Try.ntmps60
    go_wp2
    go_ret
    exact ⟨rfl, Below.refl _ _⟩
def anyName (l : List ByteArray) : Bool := l.any oddName
set_option maxHeartbeats 4000000 in
set_option maxRecDepth 100000 in
theorem indexName_calls (A : Option Addr) (c : Nat) (l : List ByteArray) (w : World) (hr : Kd.C Kd.string w A l.length l) :
    Calls Try.prog 74 #[.slice A l.length c, .func (.func 60) #[] #[]] w fun e w' => ∃ n : Int, e = .returned (.int .i64 n) ∧ decide (0 ≤ n) = anyName l ∧ Below w.heap.size w w' := by
  have hm := Kd.C_max hr
  have HR := Aside0.mk hr
  clear hr
  go_enter Try.func74, Try.ntmps74
  go_wp2
  go_loopw [8] (fun i wr => ∃ k : Nat, k ≤ l.length ∧ (l.take k).any oddName = false ∧ i = .int .i64 k ∧ Below w.heap.size w wr) (fun i _ => l.length - (intOf i).toNat)
  case atStart => exact ⟨0, Nat.zero_le _, rfl, rfl, Below.refl _ _⟩
  case round =>
    obtain ⟨k, hk, hi, rfl, hbel⟩ := hrel
    have HI := Aside0.mk hi
    have HB := Aside0.mk hbel
    clear hi hbel
    by_cases hlt : k < l.length
    · obtain ⟨ad, e1, hx⟩ := Kd.at_string (Kd.C_below HR.out HB.out) k (by omega) (by omega)
      cases e1
      have hx' : wr.cell? (ad.add k) = some (.string (rdOf ByteArray.empty l k)) := hx
      have he : rdOf ByteArray.empty l k = l[k] := by simp [rdOf, List.getD_eq_getElem?_getD, List.getElem?_eq_getElem hlt]
      have HE := Aside0.mk he
      clear he hx
      cases hc : oddName (rdOf ByteArray.empty l k)
      · have HC := Aside0.mk hc
        go_wp2_with (first | (go_at_call 60; refine (oddName_calls _ _).mono ?_; rintro e w' ⟨rfl, hb⟩; have HB2 := Aside0.mk (below_step HB.out hb); clear hb))
        go_roundw
        case rel => exact ⟨k + 1, by omega, any_take_step oddName l k hlt HI.out (by rw [← HE.out]; exact HC.out), by go_num, HB2.out⟩
        case measure => simp [intOf]; omega
      · have HC := Aside0.mk hc
        go_wp2_with (first | (go_at_call 60; refine (oddName_calls _ _).mono ?_; rintro e w' ⟨rfl, hb⟩; have HB2 := Aside0.mk (below_step HB.out hb); clear hb))
        go_ret
        exact ⟨_, rfl, by rw [anyName, any_take oddName l k hlt HI.out (by rw [← HE.out]; exact HC.out)]; exact decide_eq_true (by omega), HB2.out⟩
    · go_wp2
      go_ret
      have hk' : k = l.length := by omega
      have := HI.out
      rw [hk', List.take_length] at this
      exact ⟨_, rfl, by rw [anyName, this]; rfl, HB.out⟩
def contest_odd.f (l0 : List ByteArray) : Option (Bool) := some (anyName l0)
set_option maxHeartbeats 4000000 in
theorem contest_odd.calls (A0 : Option Addr) (c0 : Nat) (l0 : List ByteArray) (r : Bool) (w : World) (hr0 : Kd.C Kd.string w A0 l0.length l0) (hc0 : l0.length ≤ c0) (h : contest_odd.f l0 = some r) :
    Calls Try.prog 46 #[.slice A0 l0.length c0] w fun e w' => e = .returned (.bool r) ∧ Below w.heap.size w w' := by
  obtain rfl := Option.some.inj h
  have HR := Aside0.mk hr0
  clear hr0 h
  go_enter Try.func46, Try.ntmps46
  go_wp2_with (first | (go_at_call 74; refine (indexName_calls _ _ l0 _ HR.out).mono ?_; rintro e w' ⟨n, rfl, hn, hb⟩; have HN := Aside0.mk hn; have HB := Aside0.mk hb; clear hn hb) | go_in)
  go_ret
  exact ⟨ret_bool HN.out, HB.out⟩
/-! ### slices_Index_string_string: function 76 -/
def slices_Index_string_string.l0 : Nat → List ByteArray → ByteArray → Int → Int → Option (Int)
  | 0, _, _, _, _ => none
  | k + 1, x0, x1, x7, x8 => if x8 < x7 then (if 0 ≤ x8 then (if x8 < (x0.length : Int) then (if x1.toList = (rdOf ByteArray.empty x0 x8).toList then (some x8) else (slices_Index_string_string.l0 k x0 x1 x7 (wrap64 (x8 + 1)))) else (none)) else (none)) else (some (-1))
def slices_Index_string_string.f (k : Nat) (l0 : List ByteArray) (a1 : ByteArray) : Option (Int) := slices_Index_string_string.l0 k l0 a1 (l0.length : Int) 0
theorem slices_Index_string_string.mono_l : ∀ k, (∀ y0 y1 y2 y3, LeO (slices_Index_string_string.l0 k y0 y1 y2 y3) (slices_Index_string_string.l0 (k + 1) y0 y1 y2 y3))
  | 0 => fun _ _ _ _ r h => by simp [slices_Index_string_string.l0] at h
  | k + 1 => by
    have ih0 := slices_Index_string_string.mono_l k
    · intro y0 y1 y2 y3; unfold slices_Index_string_string.l0; repeat' first
      | (with_reducible exact ih0 _ _ _ _)
      | (with_reducible exact LeO.refl _)
      | (with_reducible exact LeO.none _)
      | (with_reducible refine LeO.ite ?_ ?_)
      | (with_reducible refine LeO.bind ?_ (fun _ => ?_))
      | exact ih0 _ _ _ _
      | exact LeO.none _
      | refine LeO.ite ?_ ?_
      | refine LeO.bind ?_ (fun _ => ?_)
theorem slices_Index_string_string.mono : ∀ a0 a1 k, LeO (slices_Index_string_string.f k a0 a1) (slices_Index_string_string.f (k + 1) a0 a1) := by
  intro a0 a1 k; have ih0 := slices_Index_string_string.mono_l k; unfold slices_Index_string_string.f
  repeat' first
      | (with_reducible exact ih0 _ _ _ _)
      | (with_reducible exact LeO.refl _)
      | (with_reducible exact LeO.none _)
      | (with_reducible refine LeO.ite ?_ ?_)
      | (with_reducible refine LeO.bind ?_ (fun _ => ?_))
      | exact ih0 _ _ _ _
      | exact LeO.none _
      | refine LeO.ite ?_ ?_
      | refine LeO.bind ?_ (fun _ => ?_)
set_option maxHeartbeats 8000000 in
set_option maxRecDepth 100000 in
theorem slices_Index_string_string.calls (k : Nat) (A0 : Option Addr) (c0 : Nat) (l0 : List ByteArray) (a1 : ByteArray) (r : Int) (w : World) (hr0 : Kd.C Kd.string w A0 l0.length l0) (hc0 : l0.length ≤ c0) (h : slices_Index_string_string.f k l0 a1 = some r) :
    Calls Try.prog 76 #[.slice A0 l0.length c0, .string a1] w fun e w' => e = .returned (.int .i64 r) ∧ Drawn0 w w' := by
  have HR0 := Aside0.mk hr0; have HC0 := Aside0.mk hc0; clear hr0 hc0; have H : (slices_Index_string_string.l0 k l0 a1 (l0.length : Int) 0) = some r := h; clear h; have H' := Aside0.mk H; clear H
  go_enter Try.func76, Try.ntmps76
  go_wp2
  go_loopg [8] k (fun kq v8 w' => ∃ (x8_1 : Int), v8 = .int .i64 x8_1 ∧ Aside0 (slices_Index_string_string.l0 kq l0 a1 (l0.length : Int) x8_1 = some r) ∧ Aside0 (kq ≤ k) ∧ Drawn0 w w')
  case atStart => exact ⟨(0), rl_, H', ⟨Nat.le_refl _⟩, by repeat (first | exact Drawn0.refl _ | apply Drawn0.step)⟩
  case round =>
    clear H'; (try clear p2); obtain ⟨x8_1, rfl, HA, HK1, ⟨m1, rfl⟩⟩ := hrel
    cases gk with
    | zero => exact absurd HA.out (by simp [slices_Index_string_string.l0])
    | succ k1 =>
      have H := HA.out; clear HA; simp only [slices_Index_string_string.l0] at H
      by_cases c3 : x8_1 < (l0.length : Int)
      · rw [if_pos c3] at H; have c3b0 : decide (x8_1 < (l0.length : Int)) = true := decide_eq_true c3; clear c3
        by_cases c4 : 0 ≤ x8_1
        · rw [if_pos c4] at H; have c4b0 : decide (0 ≤ x8_1) = true := decide_eq_true c4; clear c4
          by_cases c5 : x8_1 < (l0.length : Int)
          · rw [if_pos c5] at H; have c5b0 : decide (x8_1 < (l0.length : Int)) = true := decide_eq_true c5; clear c5
            by_cases c6 : a1.toList = (rdOf ByteArray.empty l0 x8_1).toList
            (· rw [if_pos c6] at H; have c6b0 : (a1.toList == (rdOf ByteArray.empty l0 x8_1).toList) = true := beq_iff_eq.mpr c6; have c6b1 : (a1.toList != (rdOf ByteArray.empty l0 x8_1).toList) = false := bne_eq_false_iff_eq.mpr c6; clear c6; obtain rfl := Option.some.inj H; have p133 : 0 ≤ (x8_1 : Int) := of_decide_eq_true as_; have q133 : x8_1 < (l0.length : Int) := of_decide_eq_true as_; obtain ⟨ad133, e133, hx133_0⟩ := Kd.at_string HR0.out x8_1 p133 q133; cases e133; replace p133 := eq_true p133; replace q133 := eq_true q133; go_wp2; go_ret; exact ⟨by first | rfl | (simp; done) | (simp [*]; done), by repeat (first | exact Drawn0.refl _ | apply Drawn0.step)⟩)
            · rw [if_neg c6] at H; have c6b0 : (a1.toList == (rdOf ByteArray.empty l0 x8_1).toList) = false := beq_eq_false_iff_ne.mpr c6; have c6b1 : (a1.toList != (rdOf ByteArray.empty l0 x8_1).toList) = true := bne_iff_ne.mpr c6; have H' := Aside0.mk H; clear H; have p133 : 0 ≤ (x8_1 : Int) := of_decide_eq_true as_; have q133 : x8_1 < (l0.length : Int) := of_decide_eq_true as_; obtain ⟨ad133, e133, hx133_0⟩ := Kd.at_string HR0.out x8_1 p133 q133; cases e133; replace p133 := eq_true p133; replace q133 := eq_true q133; go_wp2; go_roundg k1
              case measure => have := HK1.out; omega
              case rel => exact ⟨(wrap64 (x8_1 + 1)), rl_, H', ⟨by have := HK1.out; omega⟩, by repeat (first | exact Drawn0.refl _ | apply Drawn0.step)⟩
          (· rw [if_neg c5] at H; exact absurd H (by simp))
        (· rw [if_neg c4] at H; exact absurd H (by simp))
      (· rw [if_neg c3] at H; have c3b0 : decide (x8_1 < (l0.length : Int)) = false := decide_eq_false c3; clear c3; obtain rfl := Option.some.inj H; go_wp2; go_ret; exact ⟨by first | rfl | (simp; done) | (simp [*]; done), by repeat (first | exact Drawn0.refl _ | apply Drawn0.step)⟩)
/-! ### slices_Contains_string_string: function 63 -/
def slices_Contains_string_string.f (k : Nat) (l0 : List ByteArray) (a1 : ByteArray) : Option (Bool) := (slices_Index_string_string.f k l0 a1).bind fun t134 => (some (decide (t134 ≥ 0)))
theorem slices_Contains_string_string.mono : ∀ a0 a1 k, LeO (slices_Contains_string_string.f k a0 a1) (slices_Contains_string_string.f (k + 1) a0 a1) := by
  intro a0 a1 k; unfold slices_Contains_string_string.f
  repeat' first
      | (with_reducible exact slices_Index_string_string.mono _ _ _)
      | (with_reducible exact LeO.refl _)
      | (with_reducible exact LeO.none _)
      | (with_reducible refine LeO.ite ?_ ?_)
      | (with_reducible refine LeO.bind ?_ (fun _ => ?_))
      | exact slices_Index_string_string.mono _ _ _
      | exact LeO.none _
      | refine LeO.ite ?_ ?_
      | refine LeO.bind ?_ (fun _ => ?_)
set_option maxHeartbeats 8000000 in
set_option maxRecDepth 100000 in
theorem slices_Contains_string_string.calls (k : Nat) (A0 : Option Addr) (c0 : Nat) (l0 : List ByteArray) (a1 : ByteArray) (r : Bool) (w : World) (hr0 : Kd.C Kd.string w A0 l0.length l0) (hc0 : l0.length ≤ c0) (h : slices_Contains_string_string.f k l0 a1 = some r) :
    Calls Try.prog 63 #[.slice A0 l0.length c0, .string a1] w fun e w' => e = .returned (.bool r) ∧ Drawn0 w w' := by
  have HR0 := Aside0.mk hr0; have HC0 := Aside0.mk hc0; clear hr0 hc0; have H : ((slices_Index_string_string.f k l0 a1).bind fun t134 => (some (decide (t134 ≥ 0)))) = some r := h; clear h; replace H := Option.bind_eq_some_iff.mp H; obtain ⟨t134, A30, H⟩ := H; replace H : (some (decide (t134 ≥ 0))) = some r := H; have A3 := Aside0.mk A30; clear A30; obtain rfl := Option.some.inj H
  go_enter Try.func63, Try.ntmps63
  go_wp2_with (first | ((with_reducible refine gate_callee (f := 76) rfl ?_); refine goesL_ (some 7) rfl rfl Try.func76 kr_ rfl #[.slice A0 l0.length c0, .string a1] rfl ar_ ?_; (with_reducible refine (slices_Index_string_string.calls k _ _ l0 a1 t134 _ ?side1 ?side2 A3.out).mono ?_); (case side1 => repeat (first | exact HR0.out | (with_reducible refine Kd.C_alloc ?_ _) | (with_reducible refine Kd.C_drewN ?_ _) | (with_reducible refine Kd.C_drew ?_))); (case side2 => exact HC0.out); rintro e w' ⟨rfl, ⟨nd, rfl⟩⟩; refine ⟨_, rfl, ?_⟩)); go_ret; exact ⟨by first | rfl | (simp; done) | (simp [*]; done), by repeat (first | exact Drawn0.refl _ | apply Drawn0.step)⟩
/-! ### contest_twice: function 47 -/
def contest_twice.l0 : Nat → List ByteArray → List ByteArray → Int → Int → Option (Bool)
  | 0, _, _, _, _ => none
  | k + 1, x0, x5, x6, x7 => if x7 < x6 then (if 0 ≤ x7 then (if x7 < (x5.length : Int) then (if x7 ≤ (x0.length : Int) then ((slices_Contains_string_string.f k (x0.take (x7 : Int).toNat) (rdOf ByteArray.empty x5 x7)).bind fun t137 => (if t137 = true then (some true) else (contest_twice.l0 k x0 x5 x6 (wrap64 (x7 + 1))))) else (none)) else (none)) else (none)) else (some false)
def contest_twice.f (k : Nat) (l0 : List ByteArray) : Option (Bool) := contest_twice.l0 k l0 l0 (l0.length : Int) 0
theorem contest_twice.mono_l : ∀ k, (∀ y0 y1 y2 y3, LeO (contest_twice.l0 k y0 y1 y2 y3) (contest_twice.l0 (k + 1) y0 y1 y2 y3))
  | 0 => fun _ _ _ _ r h => by simp [contest_twice.l0] at h
  | k + 1 => by
    have ih0 := contest_twice.mono_l k
    · intro y0 y1 y2 y3; unfold contest_twice.l0; repeat' first
      | (with_reducible exact ih0 _ _ _ _)
      | (with_reducible exact slices_Contains_string_string.mono _ _ _)
      | (with_reducible exact LeO.refl _)
      | (with_reducible exact LeO.none _)
      | (with_reducible refine LeO.ite ?_ ?_)
      | (with_reducible refine LeO.bind ?_ (fun _ => ?_))
      | exact ih0 _ _ _ _
      | exact slices_Contains_string_string.mono _ _ _
      | exact LeO.none _
      | refine LeO.ite ?_ ?_
      | refine LeO.bind ?_ (fun _ => ?_)
theorem contest_twice.mono : ∀ a0 k, LeO (contest_twice.f k a0) (contest_twice.f (k + 1) a0) := by
  intro a0 k; have ih0 := contest_twice.mono_l k; unfold contest_twice.f
  repeat' first
      | (with_reducible exact ih0 _ _ _ _)
      | (with_reducible exact slices_Contains_string_string.mono _ _ _)
      | (with_reducible exact LeO.refl _)
      | (with_reducible exact LeO.none _)
      | (with_reducible refine LeO.ite ?_ ?_)
      | (with_reducible refine LeO.bind ?_ (fun _ => ?_))
      | exact ih0 _ _ _ _
      | exact slices_Contains_string_string.mono _ _ _
      | exact LeO.none _
      | refine LeO.ite ?_ ?_
      | refine LeO.bind ?_ (fun _ => ?_)
set_option maxHeartbeats 8000000 in
set_option maxRecDepth 100000 in
theorem contest_twice.calls (k : Nat) (A0 : Option Addr) (c0 : Nat) (l0 : List ByteArray) (r : Bool) (w : World) (hr0 : Kd.C Kd.string w A0 l0.length l0) (hc0 : l0.length ≤ c0) (h : contest_twice.f k l0 = some r) :
    Calls Try.prog 47 #[.slice A0 l0.length c0] w fun e w' => e = .returned (.bool r) ∧ Drawn0 w w' := by
  have HR0 := Aside0.mk hr0; have HC0 := Aside0.mk hc0; clear hr0 hc0; have H : (contest_twice.l0 k l0 l0 (l0.length : Int) 0) = some r := h; clear h; have H' := Aside0.mk H; clear H
  go_enter Try.func47, Try.ntmps47
  go_wp2
  go_loopg [7] k (fun kq v7 w' => ∃ (x7_1 : Int), v7 = .int .i64 x7_1 ∧ Aside0 (contest_twice.l0 kq l0 l0 (l0.length : Int) x7_1 = some r) ∧ Aside0 (kq ≤ k) ∧ Drawn0 w w')
  case atStart => exact ⟨(0), rl_, H', ⟨Nat.le_refl _⟩, by repeat (first | exact Drawn0.refl _ | apply Drawn0.step)⟩
  case round =>
    clear H'; obtain ⟨x7_1, rfl, HA, HK1, ⟨m1, rfl⟩⟩ := hrel
    cases gk with
    | zero => exact absurd HA.out (by simp [contest_twice.l0])
    | succ k1 =>
      have H := HA.out; clear HA; simp only [contest_twice.l0] at H
      by_cases c2 : x7_1 < (l0.length : Int)
      · rw [if_pos c2] at H; have c2b0 : decide (x7_1 < (l0.length : Int)) = true := decide_eq_true c2; clear c2
        by_cases c3 : 0 ≤ x7_1
        · rw [if_pos c3] at H; have c3b0 : decide (0 ≤ x7_1) = true := decide_eq_true c3; clear c3
          by_cases c4 : x7_1 < (l0.length : Int)
          · rw [if_pos c4] at H; have c4b0 : decide (x7_1 < (l0.length : Int)) = true := decide_eq_true c4; clear c4; have c5b0 := eq_true (of_decide_eq_true as_ : 0 ≤ x7_1)
            by_cases c6 : x7_1 ≤ (l0.length : Int)
            · rw [if_pos c6] at H; have c6b0 := eq_true c6; have c6b1 : decide (x7_1 ≤ (l0.length : Int)) = true := decide_eq_true c6; clear c6; replace H := Option.bind_eq_some_iff.mp H; obtain ⟨t137, A70, H⟩ := H; replace H : (if t137 = true then (some true) else (contest_twice.l0 k1 l0 l0 (l0.length : Int) (wrap64 (x7_1 + 1)))) = some r := H; have A7 := Aside0.mk A70; clear A70
              by_cases c8 : t137 = true
              · subst c8
                have H1 : (some true) = some r := by rw [if_pos rfl] at H; exact H
                clear H; have H := H1; clear H1; obtain rfl := Option.some.inj H; have p135 : 0 ≤ (x7_1 : Int) := of_decide_eq_true as_; have q135 : x7_1 < (l0.length : Int) := of_decide_eq_true as_; obtain ⟨ad135, e135, hx135_0⟩ := Kd.at_string HR0.out x7_1 p135 q135; cases e135; replace p135 := eq_true p135; replace q135 := eq_true q135; obtain ⟨i09, hi09, _, hsz9, _⟩ := info_parts info9; obtain ⟨hcut9, hA9, hC9⟩ := print_take_of (P := Try.prog) Value.string (⟨#[]⟩ : ByteArray) 32 9 .i64 Try.underlying32 hi09 hsz9 (some ad135) c0 l0 x7_1 (of_decide_eq_true as_) (of_decide_eq_true as_) HC0.out; have HR136 := Aside0.mk (Kd.C_of_reads (h1 := fun _ => rfl) (hA9 _ (Kd.reads_of_C HR0.out))); have HC136 := Aside0.mk hC9; clear hA9 hC9 hi09 hsz9; go_wp2_with (first | ((with_reducible refine gate_callee (f := 63) rfl ?_); refine goesL_ (some 16) rfl rfl Try.func63 kr_ rfl #[.slice (some ad135) (l0.take (x7_1 : Int).toNat).length c0, .string (rdOf ByteArray.empty l0 x7_1)] rfl (by (try simp only [List.map_toArray, List.map_cons, List.map_nil]); first | done | (rw [show (l0.take (x7_1 : Int).toNat).length = x7_1.toNat from (by rw [List.length_take]; have h_ : (x7_1 : Int) ≤ (l0.length : Int) := of_decide_eq_true as_; omega)] <;> rfl) | rfl | (simp only [List.length_drop, List.length_take]; rfl)) ?_; (with_reducible refine (slices_Contains_string_string.calls k1 _ _ (l0.take (x7_1 : Int).toNat) (rdOf ByteArray.empty l0 x7_1) true _ ?side1 ?side2 A7.out).mono ?_); (case side1 => repeat (first | exact HR136.out | (with_reducible refine Kd.C_alloc ?_ _) | (with_reducible refine Kd.C_drewN ?_ _) | (with_reducible refine Kd.C_drew ?_))); (case side2 => exact HC136.out); rintro e w' ⟨rfl, ⟨nd, rfl⟩⟩; refine ⟨_, rfl, ?_⟩)); go_ret; exact ⟨by first | rfl | (simp; done) | (simp [*]; done), by repeat (first | exact Drawn0.refl _ | apply Drawn0.step)⟩
              · replace c8 := Bool.eq_false_iff.mpr c8; subst c8
                have H1 : (contest_twice.l0 k1 l0 l0 (l0.length : Int) (wrap64 (x7_1 + 1))) = some r := by rw [if_neg (show ¬ (false = true) by decide)] at H; exact H
                clear H; have H := H1; clear H1; have H' := Aside0.mk H; clear H; have p135 : 0 ≤ (x7_1 : Int) := of_decide_eq_true as_; have q135 : x7_1 < (l0.length : Int) := of_decide_eq_true as_; obtain ⟨ad135, e135, hx135_0⟩ := Kd.at_string HR0.out x7_1 p135 q135; cases e135; replace p135 := eq_true p135; replace q135 := eq_true q135; obtain ⟨i010, hi010, _, hsz10, _⟩ := info_parts info9; obtain ⟨hcut10, hA10, hC10⟩ := print_take_of (P := Try.prog) Value.string (⟨#[]⟩ : ByteArray) 32 9 .i64 Try.underlying32 hi010 hsz10 (some ad135) c0 l0 x7_1 (of_decide_eq_true as_) (of_decide_eq_true as_) HC0.out; have HR136 := Aside0.mk (Kd.C_of_reads (h1 := fun _ => rfl) (hA10 _ (Kd.reads_of_C HR0.out))); have HC136 := Aside0.mk hC10; clear hA10 hC10 hi010 hsz10; go_wp2_with (first | ((with_reducible refine gate_callee (f := 63) rfl ?_); refine goesL_ (some 16) rfl rfl Try.func63 kr_ rfl #[.slice (some ad135) (l0.take (x7_1 : Int).toNat).length c0, .string (rdOf ByteArray.empty l0 x7_1)] rfl (by (try simp only [List.map_toArray, List.map_cons, List.map_nil]); first | done | (rw [show (l0.take (x7_1 : Int).toNat).length = x7_1.toNat from (by rw [List.length_take]; have h_ : (x7_1 : Int) ≤ (l0.length : Int) := of_decide_eq_true as_; omega)] <;> rfl) | rfl | (simp only [List.length_drop, List.length_take]; rfl)) ?_; (with_reducible refine (slices_Contains_string_string.calls k1 _ _ (l0.take (x7_1 : Int).toNat) (rdOf ByteArray.empty l0 x7_1) false _ ?side1 ?side2 A7.out).mono ?_); (case side1 => repeat (first | exact HR136.out | (with_reducible refine Kd.C_alloc ?_ _) | (with_reducible refine Kd.C_drewN ?_ _) | (with_reducible refine Kd.C_drew ?_))); (case side2 => exact HC136.out); rintro e w' ⟨rfl, ⟨nd, rfl⟩⟩; refine ⟨_, rfl, ?_⟩)); go_roundg k1
                case measure => have := HK1.out; omega
                case rel => exact ⟨(wrap64 (x7_1 + 1)), rl_, H', ⟨by have := HK1.out; omega⟩, by repeat (first | exact Drawn0.refl _ | apply Drawn0.step)⟩
            (· rw [if_neg c6] at H; exact absurd H (by simp))
          (· rw [if_neg c4] at H; exact absurd H (by simp))
        (· rw [if_neg c3] at H; exact absurd H (by simp))
      (· rw [if_neg c2] at H; have c2b0 : decide (x7_1 < (l0.length : Int)) = false := decide_eq_false c2; clear c2; obtain rfl := Option.some.inj H; go_wp2; go_ret; exact ⟨by first | rfl | (simp; done) | (simp [*]; done), by repeat (first | exact Drawn0.refl _ | apply Drawn0.step)⟩)

-- NOT PRINTED: function 77 (contest_rules)
/-! ### contest_of: function 64 (by hand) -/
/-- The row of a rule: its word, the kind of its ballots, how many seats it fills, whether one mark alone counts. -/
def ruleRow : Nat → ByteArray × Int × Int × Bool
  | 1 => (⟨#[112, 108, 117, 114, 97, 108, 105, 116, 121]⟩, 2, 2, true)
  | 2 => (⟨#[97, 112, 112, 114, 111, 118, 97, 108]⟩, 2, 2, false)
  | 3 => (⟨#[115, 99, 111, 114, 101]⟩, 3, 2, false)
  | 4 => (⟨#[98, 111, 114, 100, 97]⟩, 1, 2, false)
  | 5 => (⟨#[99, 111, 112, 101, 108, 97, 110, 100]⟩, 1, 1, false)
  | 6 => (⟨#[109, 105, 110, 105, 109, 97, 120]⟩, 1, 1, false)
  | 7 => (⟨#[115, 99, 104, 117, 108, 122, 101]⟩, 1, 1, false)
  | 8 => (⟨#[112, 97, 105, 114, 115]⟩, 1, 1, false)
  | 9 => (⟨#[114, 117, 110, 111, 102, 102]⟩, 1, 1, false)
  | 10 => (⟨#[99, 111, 111, 109, 98, 115]⟩, 1, 1, false)
  | 11 => (⟨#[103, 114, 101, 103, 111, 114, 121]⟩, 1, 2, false)
  | 12 => (⟨#[109, 101, 101, 107]⟩, 1, 2, false)
  | 13 => (⟨#[112, 104, 114, 97, 103, 109, 101, 110]⟩, 2, 2, false)
  | 14 => (⟨#[100, 104, 111, 110, 100, 116]⟩, 2, 3, true)
  | 15 => (⟨#[115, 97, 105, 110, 116, 101]⟩, 2, 3, true)
  | 16 => (⟨#[104, 97, 114, 101]⟩, 2, 3, true)
  | _ => (⟨#[]⟩, 0, 0, false)
def ruleCells : Array Value := #[Value.string ⟨#[]⟩, Value.int .u8 0, Value.int .i64 0, Value.bool false, Value.string ⟨#[112, 108, 117, 114, 97, 108, 105, 116, 121]⟩, Value.int .u8 2, Value.int .i64 2, Value.bool true, Value.string ⟨#[97, 112, 112, 114, 111, 118, 97, 108]⟩, Value.int .u8 2, Value.int .i64 2, Value.bool false, Value.string ⟨#[115, 99, 111, 114, 101]⟩, Value.int .u8 3, Value.int .i64 2, Value.bool false, Value.string ⟨#[98, 111, 114, 100, 97]⟩, Value.int .u8 1, Value.int .i64 2, Value.bool false, Value.string ⟨#[99, 111, 112, 101, 108, 97, 110, 100]⟩, Value.int .u8 1, Value.int .i64 1, Value.bool false, Value.string ⟨#[109, 105, 110, 105, 109, 97, 120]⟩, Value.int .u8 1, Value.int .i64 1, Value.bool false, Value.string ⟨#[115, 99, 104, 117, 108, 122, 101]⟩, Value.int .u8 1, Value.int .i64 1, Value.bool false, Value.string ⟨#[112, 97, 105, 114, 115]⟩, Value.int .u8 1, Value.int .i64 1, Value.bool false, Value.string ⟨#[114, 117, 110, 111, 102, 102]⟩, Value.int .u8 1, Value.int .i64 1, Value.bool false, Value.string ⟨#[99, 111, 111, 109, 98, 115]⟩, Value.int .u8 1, Value.int .i64 1, Value.bool false, Value.string ⟨#[103, 114, 101, 103, 111, 114, 121]⟩, Value.int .u8 1, Value.int .i64 2, Value.bool false, Value.string ⟨#[109, 101, 101, 107]⟩, Value.int .u8 1, Value.int .i64 2, Value.bool false, Value.string ⟨#[112, 104, 114, 97, 103, 109, 101, 110]⟩, Value.int .u8 2, Value.int .i64 2, Value.bool false, Value.string ⟨#[100, 104, 111, 110, 100, 116]⟩, Value.int .u8 2, Value.int .i64 3, Value.bool true, Value.string ⟨#[115, 97, 105, 110, 116, 101]⟩, Value.int .u8 2, Value.int .i64 3, Value.bool true, Value.string ⟨#[104, 97, 114, 101]⟩, Value.int .u8 2, Value.int .i64 3, Value.bool true]
theorem ruleCells_size : ruleCells.size = 68 := rfl
set_option maxHeartbeats 8000000 in
set_option maxRecDepth 100000 in
theorem rules_calls (w : World) : Calls Try.prog 77 #[] w fun e w' => e = .returned (.agg ruleCells) ∧ Below w.heap.size w w' := by
  go_enter Try.func77, Try.ntmps77
  go_wp2_with (first | (refine build_as rfl 111 _ rfl ruleCells (by kernel_rfl) ?_) | (refine store_new rfl 111 (.tmp 0) (.tmp 17) rfl _ ruleCells 111 rfl rfl (by kernel_rfl) (by rfl) (by kernel_rfl) ?_))
  exact bodyPost_ret (results_cell_row rfl _ _ w.heap.size 111 ruleCells (0, 0) _ rfl (heap_alloc_new w _) Try.underlying111 rfl (by kernel_rfl)) rfl ⟨rfl, below_box _⟩
def contest_of.f (a0 : Int) : Option (ByteArray × Int × Int × Bool) := if 0 ≤ a0 then (if a0 ≤ 255 then some (ruleRow a0.toNat) else none) else none
theorem ruleCells_row (n : Nat) (hn : n < 17) : ruleCells[n * 4]? = some (.string (ruleRow n).1) ∧ ruleCells[n * 4 + 1]? = some (.int .u8 (ruleRow n).2.1) ∧ ruleCells[n * 4 + 2]? = some (.int .i64 (ruleRow n).2.2.1) ∧ ruleCells[n * 4 + 3]? = some (.bool (ruleRow n).2.2.2) := by
  have h : n = 0 ∨ n = 1 ∨ n = 2 ∨ n = 3 ∨ n = 4 ∨ n = 5 ∨ n = 6 ∨ n = 7 ∨ n = 8 ∨ n = 9 ∨ n = 10 ∨ n = 11 ∨ n = 12 ∨ n = 13 ∨ n = 14 ∨ n = 15 ∨ n = 16 := by omega
  rcases h with rfl | rfl | rfl | rfl | rfl | rfl | rfl | rfl | rfl | rfl | rfl | rfl | rfl | rfl | rfl | rfl | rfl
  all_goals exact ⟨rfl, rfl, rfl, rfl⟩
set_option maxHeartbeats 8000000 in
set_option maxRecDepth 100000 in
theorem contest_of.less (n : Nat) (hn : n < 17) (w : World) :
    Calls Try.prog 64 #[.int .u8 n] w fun e w' => e = .returned (.agg #[.string (ruleRow n).1, .int .u8 (ruleRow n).2.1, .int .i64 (ruleRow n).2.2.1, .bool (ruleRow n).2.2.2]) ∧ Below w.heap.size w w' := by
  obtain ⟨h0, h1, h2, h3⟩ := ruleCells_row n hn
  generalize (ruleRow n).1 = s at *
  generalize (ruleRow n).2.1 = q at *
  generalize (ruleRow n).2.2.1 = m at *
  generalize (ruleRow n).2.2.2 = b at *
  go_enter Try.func64, Try.ntmps64
  go_wp2_with (first | (go_at_call 77; refine (rules_calls _).mono ?_; rintro e w1 ⟨rfl, hb⟩; have HB := Aside0.mk hb; have hz := blk_box (blk_later (heap_alloc_new w _) hb) (.cells ruleCells 111); have hc0 := blk_cell hz 0; have hc1 := blk_cell hz 1; have hc2 := blk_cell hz 2; have hc3 := blk_cell hz 3; have hf := fun i => blk_frozen hz i; clear hb hz) | (refine store_new rfl 111 (.tmp 3) (.tmp 4) rfl _ ruleCells 111 rfl rfl (by kernel_rfl) (by rfl) (by kernel_rfl) ?_))
  have hz := blk_box (blk_later (heap_alloc_new w _) HB.out) (.cells ruleCells 111)
  refine bodyPost_ret (results_cell_row rfl _ _ w.heap.size 102 _ (0, 0) _ rfl (blk_set (blk_set (blk_set (blk_set hz 0 _) 1 _) 2 _) 3 _) Try.underlying102 rfl (by kernel_rfl)) rfl ⟨rfl, ?_⟩
  have hb := below_step (below_box (w := w) _) HB.out
  exact below_set (below_set (below_set (below_set (below_alloc hb _) (Nat.le_refl _)) (Nat.le_refl _)) (Nat.le_refl _)) (Nat.le_refl _)
set_option maxHeartbeats 8000000 in
set_option maxRecDepth 100000 in
theorem contest_of.more (n : Int) (hn : 17 ≤ n) (h255 : n ≤ 255) (w : World) :
    Calls Try.prog 64 #[.int .u8 n] w fun e w' => e = .returned (.agg #[.string ⟨#[]⟩, .int .u8 0, .int .i64 0, .bool false]) ∧ Below w.heap.size w w' := by
  go_enter Try.func64, Try.ntmps64
  go_wp2_with (first | (go_at_call 77; refine (rules_calls _).mono ?_; rintro e w1 ⟨rfl, hb⟩; have HB := Aside0.mk hb; have hz := blk_box (blk_later (heap_alloc_new w _) hb) (.cells ruleCells 111); have hc0 := blk_cell hz 0; have hc1 := blk_cell hz 1; have hc2 := blk_cell hz 2; have hc3 := blk_cell hz 3; have hf := fun i => blk_frozen hz i; clear hb hz) | (refine store_new rfl 111 (.tmp 3) (.tmp 4) rfl _ ruleCells 111 rfl rfl (by kernel_rfl) (by rfl) (by kernel_rfl) ?_) | (refine build_as rfl 102 _ rfl #[.string ⟨#[]⟩, .int .u8 0, .int .i64 0, .bool false] (by kernel_rfl) ?_))
  have hz := blk_box (blk_later (heap_alloc_new w _) HB.out) (.cells ruleCells 111)
  refine bodyPost_ret (results_cell_row rfl _ _ w.heap.size 102 _ (0, 0) _ rfl (blk_set (blk_set (blk_set (blk_set hz 0 _) 1 _) 2 _) 3 _) Try.underlying102 rfl (by kernel_rfl)) rfl ⟨rfl, ?_⟩
  have hb := below_step (below_box (w := w) _) HB.out
  exact below_set (below_set (below_set (below_set (below_alloc hb _) (Nat.le_refl _)) (Nat.le_refl _)) (Nat.le_refl _)) (Nat.le_refl _)
theorem ruleRow_more (n : Nat) (h : 17 ≤ n) : ruleRow n = (⟨#[]⟩, 0, 0, false) := by
  unfold ruleRow
  split <;> first | omega | rfl
theorem contest_of.calls (a0 : Int) (r1 : ByteArray) (r2 : Int) (r3 : Int) (r4 : Bool) (w : World) (h : contest_of.f a0 = some (r1, r2, r3, r4)) :
    Calls Try.prog 64 #[.int .u8 a0] w fun e w' => e = .returned (.agg #[.string r1, .int .u8 r2, .int .i64 r3, .bool r4]) ∧ Below w.heap.size w w' := by
  unfold contest_of.f at h
  by_cases h0 : 0 ≤ a0
  · rw [if_pos h0] at h
    by_cases h1 : a0 ≤ 255
    · rw [if_pos h1] at h
      have h := Option.some.inj h
      by_cases h17 : a0 < 17
      · obtain ⟨n, rfl⟩ := Int.eq_ofNat_of_zero_le h0
        have := contest_of.less n (by omega) w
        rw [Int.toNat_natCast] at h
        rw [h] at this
        exact this
      · rw [ruleRow_more _ (by omega)] at h
        simp only [Prod.mk.injEq] at h
        obtain ⟨rfl, rfl, rfl, rfl⟩ := h
        exact contest_of.more a0 (by omega) h1 w
    · rw [if_neg h1] at h; cases h
  · rw [if_neg h0] at h; cases h

end Go.Proofs.Ytegdcoamafcfeaa.Pr
