-- Written by a program of this session (the kit's print, many functions in one namespace). Not trusted: Lean checks it.
import Derived.Test.YtegdcoamafcfeaaM0
import Derived.Test.YtegdcoamafcfeaaM1
import Derived.Test.YtegdcoamafcfeaaM3
namespace Go.Proofs.Ytegdcoamafcfeaa.Pr
open Go.RowKit Go.Proofs.YtegdcoamafcfeaaW.PrintWords Go.Proofs.YtegdcoamafcfeaaW.PrintLast
set_option linter.unusedVariables false
set_option linter.unusedSimpArgs false
/-! ### contest_fits: function 48 -/
def contest_fits.j0 : Nat → Bool → ByteArray → List ByteArray → Int → Int → Option (Bool)
  | 0, _, _, _, _, _ => none
  | k + 1, x10, x139000, x139001, x139002, x139003 => if x10 = true then (some false) else ((contest_of.f x139003).bind fun bt139 => (if bt139.2.2.1 = 1 then (some (x139002 == 1)) else (if bt139.2.2.1 = 2 then (some (decide (x139002 ≤ (x139001.length : Int)))) else (if bt139.2.2.1 = 3 then (some true) else (some false)))))
def contest_fits.f (k : Nat) (a0_0 : ByteArray) (l0_1 : List ByteArray) (a0_2 : Int) (a0_3 : Int) : Option (Bool) := if a0_2 < 1 then (contest_fits.j0 k true a0_0 l0_1 a0_2 a0_3) else (contest_fits.j0 k (decide (a0_2 > 10)) a0_0 l0_1 a0_2 a0_3)
theorem contest_fits.mono_l : ∀ k, (∀ y0 y1 y2 y3 y4, LeO (contest_fits.j0 k y0 y1 y2 y3 y4) (contest_fits.j0 (k + 1) y0 y1 y2 y3 y4))
  | 0 => fun _ _ _ _ _ r h => by simp [contest_fits.j0] at h
  | k + 1 => by
    have ih0 := contest_fits.mono_l k
    · intro y0 y1 y2 y3 y4; unfold contest_fits.j0; repeat' first
      | (with_reducible exact ih0 _ _ _ _ _)
      | (with_reducible exact LeO.refl _)
      | (with_reducible exact LeO.none _)
      | (with_reducible refine LeO.ite ?_ ?_)
      | (with_reducible refine LeO.bind ?_ (fun _ => ?_))
      | exact ih0 _ _ _ _ _
      | exact LeO.none _
      | refine LeO.ite ?_ ?_
      | refine LeO.bind ?_ (fun _ => ?_)
theorem contest_fits.mono : ∀ a0 a1 a2 a3 k, LeO (contest_fits.f k a0 a1 a2 a3) (contest_fits.f (k + 1) a0 a1 a2 a3) := by
  intro a0 a1 a2 a3 k; have ih0 := contest_fits.mono_l k; unfold contest_fits.f
  repeat' first
      | (with_reducible exact ih0 _ _ _ _ _)
      | (with_reducible exact LeO.refl _)
      | (with_reducible exact LeO.none _)
      | (with_reducible refine LeO.ite ?_ ?_)
      | (with_reducible refine LeO.bind ?_ (fun _ => ?_))
      | exact ih0 _ _ _ _ _
      | exact LeO.none _
      | refine LeO.ite ?_ ?_
      | refine LeO.bind ?_ (fun _ => ?_)
set_option maxHeartbeats 8000000 in
set_option maxRecDepth 100000 in
theorem contest_fits.calls (k : Nat) (a0_0 : ByteArray) (A0_1 : Option Addr) (c0_1 : Nat) (l0_1 : List ByteArray) (a0_2 : Int) (a0_3 : Int) (r : Bool) (w : World) (hr0_1 : Kd.C Kd.string w A0_1 l0_1.length l0_1) (hc0_1 : l0_1.length ≤ c0_1) (h : contest_fits.f k a0_0 l0_1 a0_2 a0_3 = some r) :
    Calls Try.prog 48 #[.agg #[.string a0_0, .slice A0_1 l0_1.length c0_1, .int .i64 a0_2, .int .u8 a0_3]] w fun e w' => e = .returned (.bool r) ∧ Below w.heap.size w w' := by
  have hfd_ : ∀ (w : World) (a : ByteArray) (b c : Int) (d : Bool), (Instr.field 102 (.agg #[.string a, .int .u8 b, .int .i64 c, .bool d]) 2).run Try.prog w = .ok (.int .i64 c) w := fun _ _ _ _ _ => by kernel_rfl
  have hu34 := Try.underlying34; have HR0_1 := Aside0.mk hr0_1; have HC0_1 := Aside0.mk hc0_1; clear hr0_1 hc0_1; have HB := Aside0.mk (Below.refl w.heap.size w); have H : (if a0_2 < 1 then (contest_fits.j0 k true a0_0 l0_1 a0_2 a0_3) else (contest_fits.j0 k (decide (a0_2 > 10)) a0_0 l0_1 a0_2 a0_3)) = some r := h; clear h; have HC2 := Aside0.mk H; clear H
  go_enter Try.func48, Try.ntmps48
  go_upto_region 1 with (first | ((with_reducible refine gate_dst (N := 1) rfl ?_); refine box_event ?hg (N := 1) ?hd (cs := #[.string a0_0, .slice A0_1 l0_1.length c0_1, .int .i64 a0_2, .int .u8 a0_3]) (t := 34) ?hr ?_; (case hd => rfl); (case hg => rfl); (case hr => first | (go_simp; done) | (go_simp; rfl)); intro gb138 hg w3 hbox hb; have n0_ := Aside0.mk (below_step bl_ hb); have n1_ := Aside0.mk (hbox); have n2_ := Aside0.mk ((by rw [hg]; exact (below_size bl_) : w.heap.size ≤ gb138)); have n3_ := Aside0.mk ((by rw [hg]; exact (below_size bl_) : w.heap.size ≤ gb138)); clear HB; have HB := n0_; have BK138 := n1_; have GW138 := n2_; have GE138 := n3_; clear n0_ n1_ n2_ n3_; clear hb hbox hg))
  (try simp only [Act.put, sA_, sB_, sC_])
  go_cut [10] (fun v10 wc => ∃ (kq : Nat) (x10_1 : Bool), v10 = .bool x10_1 ∧ Aside0 (contest_fits.j0 kq x10_1 a0_0 l0_1 a0_2 a0_3 = some r) ∧ Aside0 (kq ≤ k) ∧ Aside0 (wc.heap[gb138]? = some (.cells #[.string a0_0, (.slice A0_1 l0_1.length c0_1), .int .i64 a0_2, .int .u8 a0_3] 34 (0, 0))) ∧ Aside0 (Below w.heap.size w wc))
  case first =>
    have H := HC2.out; clear HC2
    by_cases c4 : a0_2 < 1
    · rw [if_pos c4] at H; have c4b0 : decide (a0_2 < 1) = true := decide_eq_true c4; clear c4; (first | rw [c4b0] | (simp only [i64_w, i32_w]; rw [c4b0]) | skip); have H' := Aside0.mk H; clear H; have hcz5_0 : w3.cell? ⟨gb138, 0, none⟩ = some (.string a0_0) := (blk_cell BK138.out 0).trans rfl; have hcz5_1 : w3.cell? ⟨gb138, 1, none⟩ = some (.slice A0_1 l0_1.length c0_1) := (blk_cell BK138.out 1).trans rfl; have hcz5_2 : w3.cell? ⟨gb138, 2, none⟩ = some (.int .i64 a0_2) := (blk_cell BK138.out 2).trans rfl; have hcz5_3 : w3.cell? ⟨gb138, 3, none⟩ = some (.int .u8 a0_3) := (blk_cell BK138.out 3).trans rfl; have hfz5_0 := blk_frozen BK138.out 0; have hfz5_1 := blk_frozen BK138.out 1; have hfz5_2 := blk_frozen BK138.out 2; have hfz5_3 := blk_frozen BK138.out 3; go_wp2
      go_meet
      case rel => exact ⟨_, (true), rl_, H', ⟨by first | omega | exact Nat.le_refl _⟩, ⟨by (with_reducible repeat (first | refine blk_drewN ?_ _ | refine blk_drew ?_ | refine blk_alloc ?_ _)); exact BK138.out⟩, ⟨by repeat (first | (with_reducible first | exact HB.out | apply below_alloc | apply pw_below_drewN | apply below_drew1 | refine below_set ?_ GE138.out) | exact HB.out)⟩⟩
    · rw [if_neg c4] at H; have c4b0 : decide (a0_2 < 1) = false := decide_eq_false c4; clear c4; (first | rw [c4b0] | (simp only [i64_w, i32_w]; rw [c4b0]) | skip); have H' := Aside0.mk H; clear H; have hcz6_0 : w3.cell? ⟨gb138, 0, none⟩ = some (.string a0_0) := (blk_cell BK138.out 0).trans rfl; have hcz6_1 : w3.cell? ⟨gb138, 1, none⟩ = some (.slice A0_1 l0_1.length c0_1) := (blk_cell BK138.out 1).trans rfl; have hcz6_2 : w3.cell? ⟨gb138, 2, none⟩ = some (.int .i64 a0_2) := (blk_cell BK138.out 2).trans rfl; have hcz6_3 : w3.cell? ⟨gb138, 3, none⟩ = some (.int .u8 a0_3) := (blk_cell BK138.out 3).trans rfl; have hfz6_0 := blk_frozen BK138.out 0; have hfz6_1 := blk_frozen BK138.out 1; have hfz6_2 := blk_frozen BK138.out 2; have hfz6_3 := blk_frozen BK138.out 3; go_wp2
      go_meet
      case rel => exact ⟨_, (decide (a0_2 > 10)), rl_, H', ⟨by first | omega | exact Nat.le_refl _⟩, ⟨by (with_reducible repeat (first | refine blk_drewN ?_ _ | refine blk_drew ?_ | refine blk_alloc ?_ _)); exact BK138.out⟩, ⟨by repeat (first | (with_reducible first | exact HB.out | apply below_alloc | apply pw_below_drewN | apply below_drew1 | refine below_set ?_ GE138.out) | exact HB.out)⟩⟩
  case rest =>
    clear HC2; (try clear p2); (try clear c4); (try clear c4b0); (try clear hcz5_0); (try clear hcz5_1); (try clear hcz5_2); (try clear hcz5_3); (try clear hcz6_0); (try clear hcz6_1); (try clear hcz6_2); (try clear hcz6_3); (try clear hfz5_0); (try clear hfz5_1); (try clear hfz5_2); (try clear hfz5_3); (try clear hfz6_0); (try clear hfz6_1); (try clear hfz6_2); (try clear hfz6_3); obtain ⟨kq, x10_1, rfl, HA, HJ1, BK138, HB⟩ := hcut
    cases kq with
    | zero => exact absurd HA.out (by simp [contest_fits.j0])
    | succ kj1 =>
      have H := HA.out; clear HA; simp only [contest_fits.j0] at H
      by_cases c7 : x10_1 = true
      · subst c7
        have H1 : (some false) = some r := by rw [if_pos rfl] at H; exact H
        clear H; have H := H1; clear H1; obtain rfl := Option.some.inj H; go_wp2; go_ret; exact ⟨by first | rfl | (simp [errW_none, errW_some] <;> rfl) | (simp [*, errW_none, errW_some] <;> rfl), by repeat (first | (with_reducible first | exact HB.out | apply below_alloc | apply pw_below_drewN | apply below_drew1 | refine below_set ?_ GE138.out) | exact HB.out)⟩
      · replace c7 := Bool.eq_false_iff.mpr c7; subst c7
        have H1 : ((contest_of.f a0_3).bind fun bt139 => (if bt139.2.2.1 = 1 then (some (a0_2 == 1)) else (if bt139.2.2.1 = 2 then (some (decide (a0_2 ≤ (l0_1.length : Int)))) else (if bt139.2.2.1 = 3 then (some true) else (some false))))) = some r := by rw [if_neg (show ¬ (false = true) by decide)] at H; exact H
        clear H; have H := H1; clear H1; replace H := Option.bind_eq_some_iff.mp H; obtain ⟨⟨t139, t140, t141, t142⟩, A80, H⟩ := H; replace H : (if t141 = 1 then (some (a0_2 == 1)) else (if t141 = 2 then (some (decide (a0_2 ≤ (l0_1.length : Int)))) else (if t141 = 3 then (some true) else (some false)))) = some r := H; have A8 := Aside0.mk A80; clear A80
        by_cases c9 : t141 = 1
        (· rw [if_pos c9] at H; have c9b0 : (t141 == 1) = true := beq_iff_eq.mpr c9; have c9b1 : (t141 != 1) = false := bne_eq_false_iff_eq.mpr c9; clear c9; obtain rfl := Option.some.inj H; have hcz10_0 : wc.cell? ⟨gb138, 0, none⟩ = some (.string a0_0) := (blk_cell BK138.out 0).trans rfl; have hcz10_1 : wc.cell? ⟨gb138, 1, none⟩ = some (.slice A0_1 l0_1.length c0_1) := (blk_cell BK138.out 1).trans rfl; have hcz10_2 : wc.cell? ⟨gb138, 2, none⟩ = some (.int .i64 a0_2) := (blk_cell BK138.out 2).trans rfl; have hcz10_3 : wc.cell? ⟨gb138, 3, none⟩ = some (.int .u8 a0_3) := (blk_cell BK138.out 3).trans rfl; have hfz10_0 := blk_frozen BK138.out 0; have hfz10_1 := blk_frozen BK138.out 1; have hfz10_2 := blk_frozen BK138.out 2; have hfz10_3 := blk_frozen BK138.out 3; go_wp2_with (first | ((with_reducible refine gate_callee (f := 64) rfl ?_); refine goesL_ (some 13) rfl rfl Try.func64 kr_ rfl #[.int .u8 a0_3] rfl ar_ ?_; (with_reducible refine (contest_of.calls a0_3 t139 t140 t141 t142 _ A8.out).mono ?_); rintro e w11 ⟨rfl, hb⟩; refine ⟨_, rfl, ?_⟩; have n0_ := Aside0.mk (blk_below (g := gb138) (o := .cells #[.string a0_0, .slice A0_1 l0_1.length c0_1, .int .i64 a0_2, .int .u8 a0_3] 34 (0, 0)) (by (with_reducible repeat (first | refine blk_drewN ?_ _ | refine blk_drew ?_ | refine blk_alloc ?_ _)); exact BK138.out) hb); have n1_ := Aside0.mk (below_step (by repeat (first | (with_reducible first | exact HB.out | apply below_alloc | apply pw_below_drewN | apply below_drew1 | refine below_set ?_ GE138.out) | exact HB.out)) hb); clear BK138; clear HB; have BK138 := n0_; have HB := n1_; clear n0_ n1_; (try clear hb); (try clear hb2); (try clear hk); (try clear hi); have hcz12_0 : w11.cell? ⟨gb138, 0, none⟩ = some (.string a0_0) := (blk_cell BK138.out 0).trans rfl; have hcz12_1 : w11.cell? ⟨gb138, 1, none⟩ = some (.slice A0_1 l0_1.length c0_1) := (blk_cell BK138.out 1).trans rfl; have hcz12_2 : w11.cell? ⟨gb138, 2, none⟩ = some (.int .i64 a0_2) := (blk_cell BK138.out 2).trans rfl; have hcz12_3 : w11.cell? ⟨gb138, 3, none⟩ = some (.int .u8 a0_3) := (blk_cell BK138.out 3).trans rfl; have hfz12_0 := blk_frozen BK138.out 0; have hfz12_1 := blk_frozen BK138.out 1; have hfz12_2 := blk_frozen BK138.out 2; have hfz12_3 := blk_frozen BK138.out 3)); go_ret; exact ⟨by first | rfl | (simp [errW_none, errW_some] <;> rfl) | (simp [*, errW_none, errW_some] <;> rfl), by repeat (first | (with_reducible first | exact HB.out | apply below_alloc | apply pw_below_drewN | apply below_drew1 | refine below_set ?_ GE138.out) | exact HB.out)⟩)
        · rw [if_neg c9] at H; have c9b0 : (t141 == 1) = false := beq_eq_false_iff_ne.mpr c9; have c9b1 : (t141 != 1) = true := bne_iff_ne.mpr c9
          by_cases c13 : t141 = 2
          (· rw [if_pos c13] at H; have c13b0 : (t141 == 2) = true := beq_iff_eq.mpr c13; have c13b1 : (t141 != 2) = false := bne_eq_false_iff_eq.mpr c13; clear c13; obtain rfl := Option.some.inj H; have hcz14_0 : wc.cell? ⟨gb138, 0, none⟩ = some (.string a0_0) := (blk_cell BK138.out 0).trans rfl; have hcz14_1 : wc.cell? ⟨gb138, 1, none⟩ = some (.slice A0_1 l0_1.length c0_1) := (blk_cell BK138.out 1).trans rfl; have hcz14_2 : wc.cell? ⟨gb138, 2, none⟩ = some (.int .i64 a0_2) := (blk_cell BK138.out 2).trans rfl; have hcz14_3 : wc.cell? ⟨gb138, 3, none⟩ = some (.int .u8 a0_3) := (blk_cell BK138.out 3).trans rfl; have hfz14_0 := blk_frozen BK138.out 0; have hfz14_1 := blk_frozen BK138.out 1; have hfz14_2 := blk_frozen BK138.out 2; have hfz14_3 := blk_frozen BK138.out 3; go_wp2_with (first | ((with_reducible refine gate_callee (f := 64) rfl ?_); refine goesL_ (some 13) rfl rfl Try.func64 kr_ rfl #[.int .u8 a0_3] rfl ar_ ?_; (with_reducible refine (contest_of.calls a0_3 t139 t140 t141 t142 _ A8.out).mono ?_); rintro e w15 ⟨rfl, hb⟩; refine ⟨_, rfl, ?_⟩; have n0_ := Aside0.mk (blk_below (g := gb138) (o := .cells #[.string a0_0, .slice A0_1 l0_1.length c0_1, .int .i64 a0_2, .int .u8 a0_3] 34 (0, 0)) (by (with_reducible repeat (first | refine blk_drewN ?_ _ | refine blk_drew ?_ | refine blk_alloc ?_ _)); exact BK138.out) hb); have n1_ := Aside0.mk (below_step (by repeat (first | (with_reducible first | exact HB.out | apply below_alloc | apply pw_below_drewN | apply below_drew1 | refine below_set ?_ GE138.out) | exact HB.out)) hb); clear BK138; clear HB; have BK138 := n0_; have HB := n1_; clear n0_ n1_; (try clear hb); (try clear hb2); (try clear hk); (try clear hi); have hcz16_0 : w15.cell? ⟨gb138, 0, none⟩ = some (.string a0_0) := (blk_cell BK138.out 0).trans rfl; have hcz16_1 : w15.cell? ⟨gb138, 1, none⟩ = some (.slice A0_1 l0_1.length c0_1) := (blk_cell BK138.out 1).trans rfl; have hcz16_2 : w15.cell? ⟨gb138, 2, none⟩ = some (.int .i64 a0_2) := (blk_cell BK138.out 2).trans rfl; have hcz16_3 : w15.cell? ⟨gb138, 3, none⟩ = some (.int .u8 a0_3) := (blk_cell BK138.out 3).trans rfl; have hfz16_0 := blk_frozen BK138.out 0; have hfz16_1 := blk_frozen BK138.out 1; have hfz16_2 := blk_frozen BK138.out 2; have hfz16_3 := blk_frozen BK138.out 3)); go_ret; exact ⟨by first | rfl | (simp [errW_none, errW_some] <;> rfl) | (simp [*, errW_none, errW_some] <;> rfl), by repeat (first | (with_reducible first | exact HB.out | apply below_alloc | apply pw_below_drewN | apply below_drew1 | refine below_set ?_ GE138.out) | exact HB.out)⟩)
          · rw [if_neg c13] at H; have c13b0 : (t141 == 2) = false := beq_eq_false_iff_ne.mpr c13; have c13b1 : (t141 != 2) = true := bne_iff_ne.mpr c13
            by_cases c17 : t141 = 3
            (· rw [if_pos c17] at H; have c17b0 : (t141 == 3) = true := beq_iff_eq.mpr c17; have c17b1 : (t141 != 3) = false := bne_eq_false_iff_eq.mpr c17; clear c17; obtain rfl := Option.some.inj H; have hcz18_0 : wc.cell? ⟨gb138, 0, none⟩ = some (.string a0_0) := (blk_cell BK138.out 0).trans rfl; have hcz18_1 : wc.cell? ⟨gb138, 1, none⟩ = some (.slice A0_1 l0_1.length c0_1) := (blk_cell BK138.out 1).trans rfl; have hcz18_2 : wc.cell? ⟨gb138, 2, none⟩ = some (.int .i64 a0_2) := (blk_cell BK138.out 2).trans rfl; have hcz18_3 : wc.cell? ⟨gb138, 3, none⟩ = some (.int .u8 a0_3) := (blk_cell BK138.out 3).trans rfl; have hfz18_0 := blk_frozen BK138.out 0; have hfz18_1 := blk_frozen BK138.out 1; have hfz18_2 := blk_frozen BK138.out 2; have hfz18_3 := blk_frozen BK138.out 3; go_wp2_with (first | ((with_reducible refine gate_callee (f := 64) rfl ?_); refine goesL_ (some 13) rfl rfl Try.func64 kr_ rfl #[.int .u8 a0_3] rfl ar_ ?_; (with_reducible refine (contest_of.calls a0_3 t139 t140 t141 t142 _ A8.out).mono ?_); rintro e w19 ⟨rfl, hb⟩; refine ⟨_, rfl, ?_⟩; have n0_ := Aside0.mk (blk_below (g := gb138) (o := .cells #[.string a0_0, .slice A0_1 l0_1.length c0_1, .int .i64 a0_2, .int .u8 a0_3] 34 (0, 0)) (by (with_reducible repeat (first | refine blk_drewN ?_ _ | refine blk_drew ?_ | refine blk_alloc ?_ _)); exact BK138.out) hb); have n1_ := Aside0.mk (below_step (by repeat (first | (with_reducible first | exact HB.out | apply below_alloc | apply pw_below_drewN | apply below_drew1 | refine below_set ?_ GE138.out) | exact HB.out)) hb); clear BK138; clear HB; have BK138 := n0_; have HB := n1_; clear n0_ n1_; (try clear hb); (try clear hb2); (try clear hk); (try clear hi))); go_ret; exact ⟨by first | rfl | (simp [errW_none, errW_some] <;> rfl) | (simp [*, errW_none, errW_some] <;> rfl), by repeat (first | (with_reducible first | exact HB.out | apply below_alloc | apply pw_below_drewN | apply below_drew1 | refine below_set ?_ GE138.out) | exact HB.out)⟩); (· rw [if_neg c17] at H; have c17b0 : (t141 == 3) = false := beq_eq_false_iff_ne.mpr c17; have c17b1 : (t141 != 3) = true := bne_iff_ne.mpr c17; obtain rfl := Option.some.inj H; have hcz20_0 : wc.cell? ⟨gb138, 0, none⟩ = some (.string a0_0) := (blk_cell BK138.out 0).trans rfl; have hcz20_1 : wc.cell? ⟨gb138, 1, none⟩ = some (.slice A0_1 l0_1.length c0_1) := (blk_cell BK138.out 1).trans rfl; have hcz20_2 : wc.cell? ⟨gb138, 2, none⟩ = some (.int .i64 a0_2) := (blk_cell BK138.out 2).trans rfl; have hcz20_3 : wc.cell? ⟨gb138, 3, none⟩ = some (.int .u8 a0_3) := (blk_cell BK138.out 3).trans rfl; have hfz20_0 := blk_frozen BK138.out 0; have hfz20_1 := blk_frozen BK138.out 1; have hfz20_2 := blk_frozen BK138.out 2; have hfz20_3 := blk_frozen BK138.out 3; go_wp2_with (first | ((with_reducible refine gate_callee (f := 64) rfl ?_); refine goesL_ (some 13) rfl rfl Try.func64 kr_ rfl #[.int .u8 a0_3] rfl ar_ ?_; (with_reducible refine (contest_of.calls a0_3 t139 t140 t141 t142 _ A8.out).mono ?_); rintro e w21 ⟨rfl, hb⟩; refine ⟨_, rfl, ?_⟩; have n0_ := Aside0.mk (blk_below (g := gb138) (o := .cells #[.string a0_0, .slice A0_1 l0_1.length c0_1, .int .i64 a0_2, .int .u8 a0_3] 34 (0, 0)) (by (with_reducible repeat (first | refine blk_drewN ?_ _ | refine blk_drew ?_ | refine blk_alloc ?_ _)); exact BK138.out) hb); have n1_ := Aside0.mk (below_step (by repeat (first | (with_reducible first | exact HB.out | apply below_alloc | apply pw_below_drewN | apply below_drew1 | refine below_set ?_ GE138.out) | exact HB.out)) hb); clear BK138; clear HB; have BK138 := n0_; have HB := n1_; clear n0_ n1_; (try clear hb); (try clear hb2); (try clear hk); (try clear hi))); go_ret; exact ⟨by first | rfl | (simp [errW_none, errW_some] <;> rfl) | (simp [*, errW_none, errW_some] <;> rfl), by repeat (first | (with_reducible first | exact HB.out | apply below_alloc | apply pw_below_drewN | apply below_drew1 | refine below_set ?_ GE138.out) | exact HB.out)⟩)
/-! ### contest_Check: function 21 -/
def contest_Check.f (k : Nat) (a0_0 : ByteArray) (l0_1 : List ByteArray) (a0_2 : Int) (a0_3 : Int) : Option (Int) := if (l0_1.length : Int) > 10 then (some 4) else (if (l0_1.length : Int) = 0 then (some 8) else ((contest_odd.f (([a0_0] : List ByteArray))).bind fun t147 => (if t147 = true then (some 8) else ((contest_odd.f l0_1).bind fun t148 => (if t148 = true then (some 8) else ((contest_twice.f k l0_1).bind fun t149 => (if t149 = true then (some 8) else ((contest_fits.f k a0_0 l0_1 a0_2 a0_3).bind fun t150 => (if t150 = true then (some 0) else (some 8))))))))))
theorem contest_Check.mono : ∀ a0 a1 a2 a3 k, LeO (contest_Check.f k a0 a1 a2 a3) (contest_Check.f (k + 1) a0 a1 a2 a3) := by
  intro a0 a1 a2 a3 k; unfold contest_Check.f
  repeat' first
      | (with_reducible exact contest_fits.mono _ _ _ _ _)
      | (with_reducible exact contest_twice.mono _ _)
      | (with_reducible exact LeO.refl _)
      | (with_reducible exact LeO.none _)
      | (with_reducible refine LeO.ite ?_ ?_)
      | (with_reducible refine LeO.bind ?_ (fun _ => ?_))
      | exact contest_fits.mono _ _ _ _ _
      | exact contest_twice.mono _ _
      | exact LeO.none _
      | refine LeO.ite ?_ ?_
      | refine LeO.bind ?_ (fun _ => ?_)
set_option maxHeartbeats 8000000 in
set_option maxRecDepth 100000 in
theorem contest_Check.calls (k : Nat) (a0_0 : ByteArray) (A0_1 : Option Addr) (c0_1 : Nat) (l0_1 : List ByteArray) (a0_2 : Int) (a0_3 : Int) (r : Int) (w : World) (hr0_1 : Kd.C Kd.string w A0_1 l0_1.length l0_1) (hc0_1 : l0_1.length ≤ c0_1) (h : contest_Check.f k a0_0 l0_1 a0_2 a0_3 = some r) :
    Calls Try.prog 21 #[.agg #[.string a0_0, .slice A0_1 l0_1.length c0_1, .int .i64 a0_2, .int .u8 a0_3]] w fun e w' => e = .returned (.int .i64 r) ∧ Below w.heap.size w w' := by
  have hu34 := Try.underlying34; have HR0_1 := Aside0.mk hr0_1; have HC0_1 := Aside0.mk hc0_1; clear hr0_1 hc0_1; have HB := Aside0.mk (Below.refl w.heap.size w); have H : (if (l0_1.length : Int) > 10 then (some 4) else (if (l0_1.length : Int) = 0 then (some 8) else ((contest_odd.f (([a0_0] : List ByteArray))).bind fun t147 => (if t147 = true then (some 8) else ((contest_odd.f l0_1).bind fun t148 => (if t148 = true then (some 8) else ((contest_twice.f k l0_1).bind fun t149 => (if t149 = true then (some 8) else ((contest_fits.f k a0_0 l0_1 a0_2 a0_3).bind fun t150 => (if t150 = true then (some 0) else (some 8))))))))))) = some r := h; clear h
  by_cases c2 : (l0_1.length : Int) > 10
  · rw [if_pos c2] at H; have c2b0 : decide (10 < (l0_1.length : Int)) = true := decide_eq_true c2; have c2b1 : decide (10 < l0_1.length) = true := decide_eq_true (by omega); clear c2; obtain rfl := Option.some.inj H
    go_enter Try.func21, Try.ntmps21
    go_wp2_with (first | ((with_reducible refine gate_dst (N := 1) rfl ?_); (try (refine gate_guard (by rfl) ?_; dsimp only)); refine box_event ?hg (N := 1) ?hd (cs := #[.string a0_0, .slice A0_1 l0_1.length c0_1, .int .i64 a0_2, .int .u8 a0_3]) (t := 34) ?hr ?_; (case hd => rfl); (case hg => rfl); (case hr => first | (go_simp; done) | (go_simp; rfl)); intro gb143 hg w3 hbox hb; have n0_ := Aside0.mk (below_step bl_ hb); have n1_ := Aside0.mk (hbox); have n2_ := Aside0.mk ((by rw [hg]; exact (below_size bl_) : w.heap.size ≤ gb143)); have n3_ := Aside0.mk ((by rw [hg]; exact (below_size bl_) : w.heap.size ≤ gb143)); clear HB; have HB := n0_; have BK143 := n1_; have GW143 := n2_; have GE143 := n3_; clear n0_ n1_ n2_ n3_; clear hb hbox hg; have hcz4_0 : w3.cell? ⟨gb143, 0, none⟩ = some (.string a0_0) := (blk_cell BK143.out 0).trans rfl; have hcz4_1 : w3.cell? ⟨gb143, 1, none⟩ = some (.slice A0_1 l0_1.length c0_1) := (blk_cell BK143.out 1).trans rfl; have hcz4_2 : w3.cell? ⟨gb143, 2, none⟩ = some (.int .i64 a0_2) := (blk_cell BK143.out 2).trans rfl; have hcz4_3 : w3.cell? ⟨gb143, 3, none⟩ = some (.int .u8 a0_3) := (blk_cell BK143.out 3).trans rfl; have hfz4_0 := blk_frozen BK143.out 0; have hfz4_1 := blk_frozen BK143.out 1; have hfz4_2 := blk_frozen BK143.out 2; have hfz4_3 := blk_frozen BK143.out 3)); go_ret; exact ⟨by first | rfl | (simp [errW_none, errW_some] <;> rfl) | (simp [*, errW_none, errW_some] <;> rfl), by repeat (first | (with_reducible first | exact HB.out | apply below_alloc | apply pw_below_drewN | apply below_drew1 | refine below_set ?_ GE143.out) | exact HB.out)⟩
  · rw [if_neg c2] at H; have c2b0 : decide (10 < (l0_1.length : Int)) = false := decide_eq_false c2; have c2b1 : decide (10 < l0_1.length) = false := decide_eq_false (by omega); clear c2
    by_cases c5 : (l0_1.length : Int) = 0
    · rw [if_pos c5] at H; have c5b0 : ((l0_1.length : Int) == 0) = true := beq_iff_eq.mpr c5; have c5b1 : ((l0_1.length : Int) != 0) = false := bne_eq_false_iff_eq.mpr c5; clear c5; obtain rfl := Option.some.inj H
      go_enter Try.func21, Try.ntmps21
      go_wp2_with (first | ((with_reducible refine gate_dst (N := 1) rfl ?_); (try (refine gate_guard (by rfl) ?_; dsimp only)); refine box_event ?hg (N := 1) ?hd (cs := #[.string a0_0, .slice A0_1 l0_1.length c0_1, .int .i64 a0_2, .int .u8 a0_3]) (t := 34) ?hr ?_; (case hd => rfl); (case hg => rfl); (case hr => first | (go_simp; done) | (go_simp; rfl)); intro gb143 hg w6 hbox hb; have n0_ := Aside0.mk (below_step bl_ hb); have n1_ := Aside0.mk (hbox); have n2_ := Aside0.mk ((by rw [hg]; exact (below_size bl_) : w.heap.size ≤ gb143)); have n3_ := Aside0.mk ((by rw [hg]; exact (below_size bl_) : w.heap.size ≤ gb143)); clear HB; have HB := n0_; have BK143 := n1_; have GW143 := n2_; have GE143 := n3_; clear n0_ n1_ n2_ n3_; clear hb hbox hg; have hcz7_0 : w6.cell? ⟨gb143, 0, none⟩ = some (.string a0_0) := (blk_cell BK143.out 0).trans rfl; have hcz7_1 : w6.cell? ⟨gb143, 1, none⟩ = some (.slice A0_1 l0_1.length c0_1) := (blk_cell BK143.out 1).trans rfl; have hcz7_2 : w6.cell? ⟨gb143, 2, none⟩ = some (.int .i64 a0_2) := (blk_cell BK143.out 2).trans rfl; have hcz7_3 : w6.cell? ⟨gb143, 3, none⟩ = some (.int .u8 a0_3) := (blk_cell BK143.out 3).trans rfl; have hfz7_0 := blk_frozen BK143.out 0; have hfz7_1 := blk_frozen BK143.out 1; have hfz7_2 := blk_frozen BK143.out 2; have hfz7_3 := blk_frozen BK143.out 3)); go_ret; exact ⟨by first | rfl | (simp [errW_none, errW_some] <;> rfl) | (simp [*, errW_none, errW_some] <;> rfl), by repeat (first | (with_reducible first | exact HB.out | apply below_alloc | apply pw_below_drewN | apply below_drew1 | refine below_set ?_ GE143.out) | exact HB.out)⟩
    · rw [if_neg c5] at H; have c5b0 : ((l0_1.length : Int) == 0) = false := beq_eq_false_iff_ne.mpr c5; have c5b1 : ((l0_1.length : Int) != 0) = true := bne_iff_ne.mpr c5
      have c5b2 : ¬ (l0_1 = []) := fun h_ => c5 (by rw [h_]; rfl)
      obtain ⟨y144, hy144⟩ : ∃ y_ : List ByteArray, y_ = (([a0_0] : List ByteArray)) := ⟨_, rfl⟩
      replace H : ((contest_odd.f y144).bind fun t147 => (if t147 = true then (some 8) else ((contest_odd.f l0_1).bind fun t148 => (if t148 = true then (some 8) else ((contest_twice.f k l0_1).bind fun t149 => (if t149 = true then (some 8) else ((contest_fits.f k a0_0 l0_1 a0_2 a0_3).bind fun t150 => (if t150 = true then (some 0) else (some 8))))))))) = some r := by first | (rw [hy144]; with_reducible exact H) | (have H2_ := (Option.bind_some _ _).symm.trans H; rw [hy144]; with_reducible exact H2_) | (have H2_ := (Option.bind_some _ _).symm.trans H; with_reducible exact H2_) | with_reducible exact H | (rw [hy144]; exact H) | exact H
      have Ny144 := Aside0.mk hy144; clear hy144; replace H := Option.bind_eq_some_iff.mp H; obtain ⟨t147, A80, H⟩ := H; replace H : (if t147 = true then (some 8) else ((contest_odd.f l0_1).bind fun t148 => (if t148 = true then (some 8) else ((contest_twice.f k l0_1).bind fun t149 => (if t149 = true then (some 8) else ((contest_fits.f k a0_0 l0_1 a0_2 a0_3).bind fun t150 => (if t150 = true then (some 0) else (some 8)))))))) = some r := H; have A8 := Aside0.mk A80; clear A80
      by_cases c9 : t147 = true
      · subst c9
        have H1 : (some 8) = some r := by rw [if_pos rfl] at H; exact H
        clear H; have H := H1; clear H1; obtain rfl := Option.some.inj H
        go_enter Try.func21, Try.ntmps21
        go_wp2_with (first | ((with_reducible refine gate_dst (N := 1) rfl ?_); (try (refine gate_guard (by rfl) ?_; dsimp only)); refine box_event ?hg (N := 1) ?hd (cs := #[.string a0_0, .slice A0_1 l0_1.length c0_1, .int .i64 a0_2, .int .u8 a0_3]) (t := 34) ?hr ?_; (case hd => rfl); (case hg => rfl); (case hr => first | (go_simp; done) | (go_simp; rfl)); intro gb143 hg w10 hbox hb; have n0_ := Aside0.mk (below_step bl_ hb); have n1_ := Aside0.mk (hbox); have n2_ := Aside0.mk ((by rw [hg]; exact (below_size bl_) : w.heap.size ≤ gb143)); have n3_ := Aside0.mk ((by rw [hg]; exact (below_size bl_) : w.heap.size ≤ gb143)); clear HB; have HB := n0_; have BK143 := n1_; have GW143 := n2_; have GE143 := n3_; clear n0_ n1_ n2_ n3_; clear hb hbox hg; have hcz11_0 : w10.cell? ⟨gb143, 0, none⟩ = some (.string a0_0) := (blk_cell BK143.out 0).trans rfl; have hcz11_1 : w10.cell? ⟨gb143, 1, none⟩ = some (.slice A0_1 l0_1.length c0_1) := (blk_cell BK143.out 1).trans rfl; have hcz11_2 : w10.cell? ⟨gb143, 2, none⟩ = some (.int .i64 a0_2) := (blk_cell BK143.out 2).trans rfl; have hcz11_3 : w10.cell? ⟨gb143, 3, none⟩ = some (.int .u8 a0_3) := (blk_cell BK143.out 3).trans rfl; have hfz11_0 := blk_frozen BK143.out 0; have hfz11_1 := blk_frozen BK143.out 1; have hfz11_2 := blk_frozen BK143.out 2; have hfz11_3 := blk_frozen BK143.out 3) | ((with_reducible refine gate_dst (N := 14) rfl ?_); (try (refine gate_guard (by rfl) ?_; dsimp only)); refine Kd.R_lit Kd.string _ 9 ?hg (N := 14) ?hd (xs := ([a0_0] : List ByteArray)) (inner := [.string a0_0]) (ok := fun _ => True) (okp := fun _ => True) ?hr ?hp (fun _ hk => hk) trivial (Below.refl _ _) (Nat.le_refl _) (by simp) ?_; (case hd => rfl); (case hg => rfl); (case hr => first | (go_simp; done) | (go_simp; rfl)); (case hp => exact (Reps.one (show Kd.M Kd.string _ _ _ a0_0 [.string a0_0] from rfl) (Reps.none _ _))); intro v145 w12 ho13 hb hg_ hnew_; clear hg_ hnew_; (first | rw [← Ny144.out] at ho13 | (simp only [Int.reduceToNat] at ho13; rw [← Ny144.out] at ho13)); have n0_ := Aside0.mk (Kd.R_lower ho13 (below_size (by repeat (first | (with_reducible first | exact HB.out | apply below_alloc | apply pw_below_drewN | apply below_drew1 | refine below_set ?_ GE143.out) | exact HB.out)))); have n1_ := Aside0.mk (blk_below (g := gb143) (o := .cells #[.string a0_0, .slice A0_1 l0_1.length c0_1, .int .i64 a0_2, .int .u8 a0_3] 34 (0, 0)) (by (with_reducible repeat (first | refine blk_drewN ?_ _ | refine blk_drew ?_ | refine blk_alloc ?_ _)); exact BK143.out) hb); have n2_ := Aside0.mk (below_step (by repeat (first | (with_reducible first | exact HB.out | apply below_alloc | apply pw_below_drewN | apply below_drew1 | refine below_set ?_ GE143.out) | exact HB.out)) hb); clear BK143; clear HB; have HO146 := n0_; have BK143 := n1_; have HB := n2_; clear n0_ n1_ n2_; clear hb ho13; obtain ⟨Ao14, co14, eo14⟩ := Kd.R_slice HO146.out; subst eo14) | (go_at_call 46; (with_reducible refine (contest_odd.calls _ _ y144 true _ ?side1 ?side2 A8.out).mono ?_); (case side1 => repeat (first | exact (Kd.R_reads' HO146.out).2.2 | (with_reducible refine Kd.C_alloc ?_ _) | (with_reducible refine Kd.C_drewN ?_ _) | (with_reducible refine Kd.C_drew ?_))); (case side2 => exact (Kd.R_reads' HO146.out).2.1); rintro e w15 ⟨rfl, hb⟩; have n0_ := Aside0.mk (Kd.R_below (by (with_reducible repeat (first | apply Kd.R_alloc | apply Kd.R_drewN | apply Kd.R_drew)); exact HO146.out) hb); have n1_ := Aside0.mk (blk_below (g := gb143) (o := .cells #[.string a0_0, .slice A0_1 l0_1.length c0_1, .int .i64 a0_2, .int .u8 a0_3] 34 (0, 0)) (by (with_reducible repeat (first | refine blk_drewN ?_ _ | refine blk_drew ?_ | refine blk_alloc ?_ _)); exact BK143.out) hb); have n2_ := Aside0.mk (below_step (by repeat (first | (with_reducible first | exact HB.out | apply below_alloc | apply pw_below_drewN | apply below_drew1 | refine below_set ?_ GE143.out) | exact HB.out)) hb); clear HO146; clear BK143; clear HB; have HO146 := n0_; have BK143 := n1_; have HB := n2_; clear n0_ n1_ n2_; (try clear hb); (try clear hb2); (try clear hk); (try clear hi))); go_ret; exact ⟨by first | rfl | (simp [errW_none, errW_some] <;> rfl) | (simp [*, errW_none, errW_some] <;> rfl), by repeat (first | (with_reducible first | exact HB.out | apply below_alloc | apply pw_below_drewN | apply below_drew1 | refine below_set ?_ GE143.out) | exact HB.out)⟩
      · replace c9 := Bool.eq_false_iff.mpr c9; subst c9
        have H1 : ((contest_odd.f l0_1).bind fun t148 => (if t148 = true then (some 8) else ((contest_twice.f k l0_1).bind fun t149 => (if t149 = true then (some 8) else ((contest_fits.f k a0_0 l0_1 a0_2 a0_3).bind fun t150 => (if t150 = true then (some 0) else (some 8))))))) = some r := by rw [if_neg (show ¬ (false = true) by decide)] at H; exact H
        clear H; have H := H1; clear H1; replace H := Option.bind_eq_some_iff.mp H; obtain ⟨t148, A160, H⟩ := H; replace H : (if t148 = true then (some 8) else ((contest_twice.f k l0_1).bind fun t149 => (if t149 = true then (some 8) else ((contest_fits.f k a0_0 l0_1 a0_2 a0_3).bind fun t150 => (if t150 = true then (some 0) else (some 8)))))) = some r := H; have A16 := Aside0.mk A160; clear A160
        by_cases c17 : t148 = true
        · subst c17
          have H1 : (some 8) = some r := by rw [if_pos rfl] at H; exact H
          clear H; have H := H1; clear H1; obtain rfl := Option.some.inj H
          go_enter Try.func21, Try.ntmps21
          go_wp2_with (first | ((with_reducible refine gate_dst (N := 1) rfl ?_); (try (refine gate_guard (by rfl) ?_; dsimp only)); refine box_event ?hg (N := 1) ?hd (cs := #[.string a0_0, .slice A0_1 l0_1.length c0_1, .int .i64 a0_2, .int .u8 a0_3]) (t := 34) ?hr ?_; (case hd => rfl); (case hg => rfl); (case hr => first | (go_simp; done) | (go_simp; rfl)); intro gb143 hg w18 hbox hb; have n0_ := Aside0.mk (below_step bl_ hb); have n1_ := Aside0.mk (hbox); have n2_ := Aside0.mk ((by rw [hg]; exact (below_size bl_) : w.heap.size ≤ gb143)); have n3_ := Aside0.mk ((by rw [hg]; exact (below_size bl_) : w.heap.size ≤ gb143)); clear HB; have HB := n0_; have BK143 := n1_; have GW143 := n2_; have GE143 := n3_; clear n0_ n1_ n2_ n3_; clear hb hbox hg; have hcz19_0 : w18.cell? ⟨gb143, 0, none⟩ = some (.string a0_0) := (blk_cell BK143.out 0).trans rfl; have hcz19_1 : w18.cell? ⟨gb143, 1, none⟩ = some (.slice A0_1 l0_1.length c0_1) := (blk_cell BK143.out 1).trans rfl; have hcz19_2 : w18.cell? ⟨gb143, 2, none⟩ = some (.int .i64 a0_2) := (blk_cell BK143.out 2).trans rfl; have hcz19_3 : w18.cell? ⟨gb143, 3, none⟩ = some (.int .u8 a0_3) := (blk_cell BK143.out 3).trans rfl; have hfz19_0 := blk_frozen BK143.out 0; have hfz19_1 := blk_frozen BK143.out 1; have hfz19_2 := blk_frozen BK143.out 2; have hfz19_3 := blk_frozen BK143.out 3) | ((with_reducible refine gate_dst (N := 14) rfl ?_); (try (refine gate_guard (by rfl) ?_; dsimp only)); refine Kd.R_lit Kd.string _ 9 ?hg (N := 14) ?hd (xs := ([a0_0] : List ByteArray)) (inner := [.string a0_0]) (ok := fun _ => True) (okp := fun _ => True) ?hr ?hp (fun _ hk => hk) trivial (Below.refl _ _) (Nat.le_refl _) (by simp) ?_; (case hd => rfl); (case hg => rfl); (case hr => first | (go_simp; done) | (go_simp; rfl)); (case hp => exact (Reps.one (show Kd.M Kd.string _ _ _ a0_0 [.string a0_0] from rfl) (Reps.none _ _))); intro v145 w20 ho21 hb hg_ hnew_; clear hg_ hnew_; (first | rw [← Ny144.out] at ho21 | (simp only [Int.reduceToNat] at ho21; rw [← Ny144.out] at ho21)); have n0_ := Aside0.mk (Kd.R_lower ho21 (below_size (by repeat (first | (with_reducible first | exact HB.out | apply below_alloc | apply pw_below_drewN | apply below_drew1 | refine below_set ?_ GE143.out) | exact HB.out)))); have n1_ := Aside0.mk (blk_below (g := gb143) (o := .cells #[.string a0_0, .slice A0_1 l0_1.length c0_1, .int .i64 a0_2, .int .u8 a0_3] 34 (0, 0)) (by (with_reducible repeat (first | refine blk_drewN ?_ _ | refine blk_drew ?_ | refine blk_alloc ?_ _)); exact BK143.out) hb); have n2_ := Aside0.mk (below_step (by repeat (first | (with_reducible first | exact HB.out | apply below_alloc | apply pw_below_drewN | apply below_drew1 | refine below_set ?_ GE143.out) | exact HB.out)) hb); clear BK143; clear HB; have HO146 := n0_; have BK143 := n1_; have HB := n2_; clear n0_ n1_ n2_; clear hb ho21; obtain ⟨Ao22, co22, eo22⟩ := Kd.R_slice HO146.out; subst eo22) | (go_at_call 46; (with_reducible refine (contest_odd.calls _ _ y144 false _ ?side1 ?side2 A8.out).mono ?_); (case side1 => repeat (first | exact (Kd.R_reads' HO146.out).2.2 | (with_reducible refine Kd.C_alloc ?_ _) | (with_reducible refine Kd.C_drewN ?_ _) | (with_reducible refine Kd.C_drew ?_))); (case side2 => exact (Kd.R_reads' HO146.out).2.1); rintro e w23 ⟨rfl, hb⟩; have n0_ := Aside0.mk (Kd.R_below (by (with_reducible repeat (first | apply Kd.R_alloc | apply Kd.R_drewN | apply Kd.R_drew)); exact HO146.out) hb); have n1_ := Aside0.mk (blk_below (g := gb143) (o := .cells #[.string a0_0, .slice A0_1 l0_1.length c0_1, .int .i64 a0_2, .int .u8 a0_3] 34 (0, 0)) (by (with_reducible repeat (first | refine blk_drewN ?_ _ | refine blk_drew ?_ | refine blk_alloc ?_ _)); exact BK143.out) hb); have n2_ := Aside0.mk (below_step (by repeat (first | (with_reducible first | exact HB.out | apply below_alloc | apply pw_below_drewN | apply below_drew1 | refine below_set ?_ GE143.out) | exact HB.out)) hb); clear HO146; clear BK143; clear HB; have HO146 := n0_; have BK143 := n1_; have HB := n2_; clear n0_ n1_ n2_; (try clear hb); (try clear hb2); (try clear hk); (try clear hi); have hcz24_0 : w23.cell? ⟨gb143, 0, none⟩ = some (.string a0_0) := (blk_cell BK143.out 0).trans rfl; have hcz24_1 : w23.cell? ⟨gb143, 1, none⟩ = some (.slice A0_1 l0_1.length c0_1) := (blk_cell BK143.out 1).trans rfl; have hcz24_2 : w23.cell? ⟨gb143, 2, none⟩ = some (.int .i64 a0_2) := (blk_cell BK143.out 2).trans rfl; have hcz24_3 : w23.cell? ⟨gb143, 3, none⟩ = some (.int .u8 a0_3) := (blk_cell BK143.out 3).trans rfl; have hfz24_0 := blk_frozen BK143.out 0; have hfz24_1 := blk_frozen BK143.out 1; have hfz24_2 := blk_frozen BK143.out 2; have hfz24_3 := blk_frozen BK143.out 3) | (go_at_call 46; (with_reducible refine (contest_odd.calls _ _ l0_1 true _ ?side1 ?side2 A16.out).mono ?_); (case side1 => repeat (first | exact (Kd.C_below HR0_1.out HB.out) | (with_reducible refine Kd.C_alloc ?_ _) | (with_reducible refine Kd.C_drewN ?_ _) | (with_reducible refine Kd.C_drew ?_))); (case side2 => exact HC0_1.out); rintro e w25 ⟨rfl, hb⟩; have n0_ := Aside0.mk (Kd.R_below (by (with_reducible repeat (first | apply Kd.R_alloc | apply Kd.R_drewN | apply Kd.R_drew)); exact HO146.out) hb); have n1_ := Aside0.mk (blk_below (g := gb143) (o := .cells #[.string a0_0, .slice A0_1 l0_1.length c0_1, .int .i64 a0_2, .int .u8 a0_3] 34 (0, 0)) (by (with_reducible repeat (first | refine blk_drewN ?_ _ | refine blk_drew ?_ | refine blk_alloc ?_ _)); exact BK143.out) hb); have n2_ := Aside0.mk (below_step (by repeat (first | (with_reducible first | exact HB.out | apply below_alloc | apply pw_below_drewN | apply below_drew1 | refine below_set ?_ GE143.out) | exact HB.out)) hb); clear HO146; clear BK143; clear HB; have HO146 := n0_; have BK143 := n1_; have HB := n2_; clear n0_ n1_ n2_; (try clear hb); (try clear hb2); (try clear hk); (try clear hi))); go_ret; exact ⟨by first | rfl | (simp [errW_none, errW_some] <;> rfl) | (simp [*, errW_none, errW_some] <;> rfl), by repeat (first | (with_reducible first | exact HB.out | apply below_alloc | apply pw_below_drewN | apply below_drew1 | refine below_set ?_ GE143.out) | exact HB.out)⟩
        · replace c17 := Bool.eq_false_iff.mpr c17; subst c17
          have H1 : ((contest_twice.f k l0_1).bind fun t149 => (if t149 = true then (some 8) else ((contest_fits.f k a0_0 l0_1 a0_2 a0_3).bind fun t150 => (if t150 = true then (some 0) else (some 8))))) = some r := by rw [if_neg (show ¬ (false = true) by decide)] at H; exact H
          clear H; have H := H1; clear H1; replace H := Option.bind_eq_some_iff.mp H; obtain ⟨t149, A260, H⟩ := H; replace H : (if t149 = true then (some 8) else ((contest_fits.f k a0_0 l0_1 a0_2 a0_3).bind fun t150 => (if t150 = true then (some 0) else (some 8)))) = some r := H; have A26 := Aside0.mk A260; clear A260
          by_cases c27 : t149 = true
          · subst c27
            have H1 : (some 8) = some r := by rw [if_pos rfl] at H; exact H
            clear H; have H := H1; clear H1; obtain rfl := Option.some.inj H
            go_enter Try.func21, Try.ntmps21
            go_wp2_with (first | ((with_reducible refine gate_dst (N := 1) rfl ?_); (try (refine gate_guard (by rfl) ?_; dsimp only)); refine box_event ?hg (N := 1) ?hd (cs := #[.string a0_0, .slice A0_1 l0_1.length c0_1, .int .i64 a0_2, .int .u8 a0_3]) (t := 34) ?hr ?_; (case hd => rfl); (case hg => rfl); (case hr => first | (go_simp; done) | (go_simp; rfl)); intro gb143 hg w28 hbox hb; have n0_ := Aside0.mk (below_step bl_ hb); have n1_ := Aside0.mk (hbox); have n2_ := Aside0.mk ((by rw [hg]; exact (below_size bl_) : w.heap.size ≤ gb143)); have n3_ := Aside0.mk ((by rw [hg]; exact (below_size bl_) : w.heap.size ≤ gb143)); clear HB; have HB := n0_; have BK143 := n1_; have GW143 := n2_; have GE143 := n3_; clear n0_ n1_ n2_ n3_; clear hb hbox hg; have hcz29_0 : w28.cell? ⟨gb143, 0, none⟩ = some (.string a0_0) := (blk_cell BK143.out 0).trans rfl; have hcz29_1 : w28.cell? ⟨gb143, 1, none⟩ = some (.slice A0_1 l0_1.length c0_1) := (blk_cell BK143.out 1).trans rfl; have hcz29_2 : w28.cell? ⟨gb143, 2, none⟩ = some (.int .i64 a0_2) := (blk_cell BK143.out 2).trans rfl; have hcz29_3 : w28.cell? ⟨gb143, 3, none⟩ = some (.int .u8 a0_3) := (blk_cell BK143.out 3).trans rfl; have hfz29_0 := blk_frozen BK143.out 0; have hfz29_1 := blk_frozen BK143.out 1; have hfz29_2 := blk_frozen BK143.out 2; have hfz29_3 := blk_frozen BK143.out 3) | ((with_reducible refine gate_dst (N := 14) rfl ?_); (try (refine gate_guard (by rfl) ?_; dsimp only)); refine Kd.R_lit Kd.string _ 9 ?hg (N := 14) ?hd (xs := ([a0_0] : List ByteArray)) (inner := [.string a0_0]) (ok := fun _ => True) (okp := fun _ => True) ?hr ?hp (fun _ hk => hk) trivial (Below.refl _ _) (Nat.le_refl _) (by simp) ?_; (case hd => rfl); (case hg => rfl); (case hr => first | (go_simp; done) | (go_simp; rfl)); (case hp => exact (Reps.one (show Kd.M Kd.string _ _ _ a0_0 [.string a0_0] from rfl) (Reps.none _ _))); intro v145 w30 ho31 hb hg_ hnew_; clear hg_ hnew_; (first | rw [← Ny144.out] at ho31 | (simp only [Int.reduceToNat] at ho31; rw [← Ny144.out] at ho31)); have n0_ := Aside0.mk (Kd.R_lower ho31 (below_size (by repeat (first | (with_reducible first | exact HB.out | apply below_alloc | apply pw_below_drewN | apply below_drew1 | refine below_set ?_ GE143.out) | exact HB.out)))); have n1_ := Aside0.mk (blk_below (g := gb143) (o := .cells #[.string a0_0, .slice A0_1 l0_1.length c0_1, .int .i64 a0_2, .int .u8 a0_3] 34 (0, 0)) (by (with_reducible repeat (first | refine blk_drewN ?_ _ | refine blk_drew ?_ | refine blk_alloc ?_ _)); exact BK143.out) hb); have n2_ := Aside0.mk (below_step (by repeat (first | (with_reducible first | exact HB.out | apply below_alloc | apply pw_below_drewN | apply below_drew1 | refine below_set ?_ GE143.out) | exact HB.out)) hb); clear BK143; clear HB; have HO146 := n0_; have BK143 := n1_; have HB := n2_; clear n0_ n1_ n2_; clear hb ho31; obtain ⟨Ao32, co32, eo32⟩ := Kd.R_slice HO146.out; subst eo32) | (go_at_call 46; (with_reducible refine (contest_odd.calls _ _ y144 false _ ?side1 ?side2 A8.out).mono ?_); (case side1 => repeat (first | exact (Kd.R_reads' HO146.out).2.2 | (with_reducible refine Kd.C_alloc ?_ _) | (with_reducible refine Kd.C_drewN ?_ _) | (with_reducible refine Kd.C_drew ?_))); (case side2 => exact (Kd.R_reads' HO146.out).2.1); rintro e w33 ⟨rfl, hb⟩; have n0_ := Aside0.mk (Kd.R_below (by (with_reducible repeat (first | apply Kd.R_alloc | apply Kd.R_drewN | apply Kd.R_drew)); exact HO146.out) hb); have n1_ := Aside0.mk (blk_below (g := gb143) (o := .cells #[.string a0_0, .slice A0_1 l0_1.length c0_1, .int .i64 a0_2, .int .u8 a0_3] 34 (0, 0)) (by (with_reducible repeat (first | refine blk_drewN ?_ _ | refine blk_drew ?_ | refine blk_alloc ?_ _)); exact BK143.out) hb); have n2_ := Aside0.mk (below_step (by repeat (first | (with_reducible first | exact HB.out | apply below_alloc | apply pw_below_drewN | apply below_drew1 | refine below_set ?_ GE143.out) | exact HB.out)) hb); clear HO146; clear BK143; clear HB; have HO146 := n0_; have BK143 := n1_; have HB := n2_; clear n0_ n1_ n2_; (try clear hb); (try clear hb2); (try clear hk); (try clear hi); have hcz34_0 : w33.cell? ⟨gb143, 0, none⟩ = some (.string a0_0) := (blk_cell BK143.out 0).trans rfl; have hcz34_1 : w33.cell? ⟨gb143, 1, none⟩ = some (.slice A0_1 l0_1.length c0_1) := (blk_cell BK143.out 1).trans rfl; have hcz34_2 : w33.cell? ⟨gb143, 2, none⟩ = some (.int .i64 a0_2) := (blk_cell BK143.out 2).trans rfl; have hcz34_3 : w33.cell? ⟨gb143, 3, none⟩ = some (.int .u8 a0_3) := (blk_cell BK143.out 3).trans rfl; have hfz34_0 := blk_frozen BK143.out 0; have hfz34_1 := blk_frozen BK143.out 1; have hfz34_2 := blk_frozen BK143.out 2; have hfz34_3 := blk_frozen BK143.out 3) | (go_at_call 46; (with_reducible refine (contest_odd.calls _ _ l0_1 false _ ?side1 ?side2 A16.out).mono ?_); (case side1 => repeat (first | exact (Kd.C_below HR0_1.out HB.out) | (with_reducible refine Kd.C_alloc ?_ _) | (with_reducible refine Kd.C_drewN ?_ _) | (with_reducible refine Kd.C_drew ?_))); (case side2 => exact HC0_1.out); rintro e w35 ⟨rfl, hb⟩; have n0_ := Aside0.mk (Kd.R_below (by (with_reducible repeat (first | apply Kd.R_alloc | apply Kd.R_drewN | apply Kd.R_drew)); exact HO146.out) hb); have n1_ := Aside0.mk (blk_below (g := gb143) (o := .cells #[.string a0_0, .slice A0_1 l0_1.length c0_1, .int .i64 a0_2, .int .u8 a0_3] 34 (0, 0)) (by (with_reducible repeat (first | refine blk_drewN ?_ _ | refine blk_drew ?_ | refine blk_alloc ?_ _)); exact BK143.out) hb); have n2_ := Aside0.mk (below_step (by repeat (first | (with_reducible first | exact HB.out | apply below_alloc | apply pw_below_drewN | apply below_drew1 | refine below_set ?_ GE143.out) | exact HB.out)) hb); clear HO146; clear BK143; clear HB; have HO146 := n0_; have BK143 := n1_; have HB := n2_; clear n0_ n1_ n2_; (try clear hb); (try clear hb2); (try clear hk); (try clear hi); have hcz36_0 : w35.cell? ⟨gb143, 0, none⟩ = some (.string a0_0) := (blk_cell BK143.out 0).trans rfl; have hcz36_1 : w35.cell? ⟨gb143, 1, none⟩ = some (.slice A0_1 l0_1.length c0_1) := (blk_cell BK143.out 1).trans rfl; have hcz36_2 : w35.cell? ⟨gb143, 2, none⟩ = some (.int .i64 a0_2) := (blk_cell BK143.out 2).trans rfl; have hcz36_3 : w35.cell? ⟨gb143, 3, none⟩ = some (.int .u8 a0_3) := (blk_cell BK143.out 3).trans rfl; have hfz36_0 := blk_frozen BK143.out 0; have hfz36_1 := blk_frozen BK143.out 1; have hfz36_2 := blk_frozen BK143.out 2; have hfz36_3 := blk_frozen BK143.out 3) | (go_at_call 47; (with_reducible refine (contest_twice.calls k _ _ l0_1 true _ ?side1 ?side2 A26.out).mono ?_); (case side1 => repeat (first | exact (Kd.C_below HR0_1.out HB.out) | (with_reducible refine Kd.C_alloc ?_ _) | (with_reducible refine Kd.C_drewN ?_ _) | (with_reducible refine Kd.C_drew ?_))); (case side2 => exact HC0_1.out); rintro e w' ⟨rfl, ⟨nd, rfl⟩⟩)); go_ret; exact ⟨by first | rfl | (simp [errW_none, errW_some] <;> rfl) | (simp [*, errW_none, errW_some] <;> rfl), by repeat (first | (with_reducible first | exact HB.out | apply below_alloc | apply pw_below_drewN | apply below_drew1 | refine below_set ?_ GE143.out) | exact HB.out)⟩
          · replace c27 := Bool.eq_false_iff.mpr c27; subst c27
            have H1 : ((contest_fits.f k a0_0 l0_1 a0_2 a0_3).bind fun t150 => (if t150 = true then (some 0) else (some 8))) = some r := by rw [if_neg (show ¬ (false = true) by decide)] at H; exact H
            clear H; have H := H1; clear H1; replace H := Option.bind_eq_some_iff.mp H; obtain ⟨t150, A370, H⟩ := H; replace H : (if t150 = true then (some 0) else (some 8)) = some r := H; have A37 := Aside0.mk A370; clear A370
            by_cases c38 : t150 = true
            · subst c38
              have H1 : (some 0) = some r := by rw [if_pos rfl] at H; exact H
              clear H; have H := H1; clear H1; obtain rfl := Option.some.inj H
              go_enter Try.func21, Try.ntmps21
              go_wp2_with (first | ((with_reducible refine gate_dst (N := 1) rfl ?_); (try (refine gate_guard (by rfl) ?_; dsimp only)); refine box_event ?hg (N := 1) ?hd (cs := #[.string a0_0, .slice A0_1 l0_1.length c0_1, .int .i64 a0_2, .int .u8 a0_3]) (t := 34) ?hr ?_; (case hd => rfl); (case hg => rfl); (case hr => first | (go_simp; done) | (go_simp; rfl)); intro gb143 hg w39 hbox hb; have n0_ := Aside0.mk (below_step bl_ hb); have n1_ := Aside0.mk (hbox); have n2_ := Aside0.mk ((by rw [hg]; exact (below_size bl_) : w.heap.size ≤ gb143)); have n3_ := Aside0.mk ((by rw [hg]; exact (below_size bl_) : w.heap.size ≤ gb143)); clear HB; have HB := n0_; have BK143 := n1_; have GW143 := n2_; have GE143 := n3_; clear n0_ n1_ n2_ n3_; clear hb hbox hg; have hcz40_0 : w39.cell? ⟨gb143, 0, none⟩ = some (.string a0_0) := (blk_cell BK143.out 0).trans rfl; have hcz40_1 : w39.cell? ⟨gb143, 1, none⟩ = some (.slice A0_1 l0_1.length c0_1) := (blk_cell BK143.out 1).trans rfl; have hcz40_2 : w39.cell? ⟨gb143, 2, none⟩ = some (.int .i64 a0_2) := (blk_cell BK143.out 2).trans rfl; have hcz40_3 : w39.cell? ⟨gb143, 3, none⟩ = some (.int .u8 a0_3) := (blk_cell BK143.out 3).trans rfl; have hfz40_0 := blk_frozen BK143.out 0; have hfz40_1 := blk_frozen BK143.out 1; have hfz40_2 := blk_frozen BK143.out 2; have hfz40_3 := blk_frozen BK143.out 3) | ((with_reducible refine gate_dst (N := 14) rfl ?_); (try (refine gate_guard (by rfl) ?_; dsimp only)); refine Kd.R_lit Kd.string _ 9 ?hg (N := 14) ?hd (xs := ([a0_0] : List ByteArray)) (inner := [.string a0_0]) (ok := fun _ => True) (okp := fun _ => True) ?hr ?hp (fun _ hk => hk) trivial (Below.refl _ _) (Nat.le_refl _) (by simp) ?_; (case hd => rfl); (case hg => rfl); (case hr => first | (go_simp; done) | (go_simp; rfl)); (case hp => exact (Reps.one (show Kd.M Kd.string _ _ _ a0_0 [.string a0_0] from rfl) (Reps.none _ _))); intro v145 w41 ho42 hb hg_ hnew_; clear hg_ hnew_; (first | rw [← Ny144.out] at ho42 | (simp only [Int.reduceToNat] at ho42; rw [← Ny144.out] at ho42)); have n0_ := Aside0.mk (Kd.R_lower ho42 (below_size (by repeat (first | (with_reducible first | exact HB.out | apply below_alloc | apply pw_below_drewN | apply below_drew1 | refine below_set ?_ GE143.out) | exact HB.out)))); have n1_ := Aside0.mk (blk_below (g := gb143) (o := .cells #[.string a0_0, .slice A0_1 l0_1.length c0_1, .int .i64 a0_2, .int .u8 a0_3] 34 (0, 0)) (by (with_reducible repeat (first | refine blk_drewN ?_ _ | refine blk_drew ?_ | refine blk_alloc ?_ _)); exact BK143.out) hb); have n2_ := Aside0.mk (below_step (by repeat (first | (with_reducible first | exact HB.out | apply below_alloc | apply pw_below_drewN | apply below_drew1 | refine below_set ?_ GE143.out) | exact HB.out)) hb); clear BK143; clear HB; have HO146 := n0_; have BK143 := n1_; have HB := n2_; clear n0_ n1_ n2_; clear hb ho42; obtain ⟨Ao43, co43, eo43⟩ := Kd.R_slice HO146.out; subst eo43) | (go_at_call 46; (with_reducible refine (contest_odd.calls _ _ y144 false _ ?side1 ?side2 A8.out).mono ?_); (case side1 => repeat (first | exact (Kd.R_reads' HO146.out).2.2 | (with_reducible refine Kd.C_alloc ?_ _) | (with_reducible refine Kd.C_drewN ?_ _) | (with_reducible refine Kd.C_drew ?_))); (case side2 => exact (Kd.R_reads' HO146.out).2.1); rintro e w44 ⟨rfl, hb⟩; have n0_ := Aside0.mk (Kd.R_below (by (with_reducible repeat (first | apply Kd.R_alloc | apply Kd.R_drewN | apply Kd.R_drew)); exact HO146.out) hb); have n1_ := Aside0.mk (blk_below (g := gb143) (o := .cells #[.string a0_0, .slice A0_1 l0_1.length c0_1, .int .i64 a0_2, .int .u8 a0_3] 34 (0, 0)) (by (with_reducible repeat (first | refine blk_drewN ?_ _ | refine blk_drew ?_ | refine blk_alloc ?_ _)); exact BK143.out) hb); have n2_ := Aside0.mk (below_step (by repeat (first | (with_reducible first | exact HB.out | apply below_alloc | apply pw_below_drewN | apply below_drew1 | refine below_set ?_ GE143.out) | exact HB.out)) hb); clear HO146; clear BK143; clear HB; have HO146 := n0_; have BK143 := n1_; have HB := n2_; clear n0_ n1_ n2_; (try clear hb); (try clear hb2); (try clear hk); (try clear hi); have hcz45_0 : w44.cell? ⟨gb143, 0, none⟩ = some (.string a0_0) := (blk_cell BK143.out 0).trans rfl; have hcz45_1 : w44.cell? ⟨gb143, 1, none⟩ = some (.slice A0_1 l0_1.length c0_1) := (blk_cell BK143.out 1).trans rfl; have hcz45_2 : w44.cell? ⟨gb143, 2, none⟩ = some (.int .i64 a0_2) := (blk_cell BK143.out 2).trans rfl; have hcz45_3 : w44.cell? ⟨gb143, 3, none⟩ = some (.int .u8 a0_3) := (blk_cell BK143.out 3).trans rfl; have hfz45_0 := blk_frozen BK143.out 0; have hfz45_1 := blk_frozen BK143.out 1; have hfz45_2 := blk_frozen BK143.out 2; have hfz45_3 := blk_frozen BK143.out 3) | (go_at_call 46; (with_reducible refine (contest_odd.calls _ _ l0_1 false _ ?side1 ?side2 A16.out).mono ?_); (case side1 => repeat (first | exact (Kd.C_below HR0_1.out HB.out) | (with_reducible refine Kd.C_alloc ?_ _) | (with_reducible refine Kd.C_drewN ?_ _) | (with_reducible refine Kd.C_drew ?_))); (case side2 => exact HC0_1.out); rintro e w46 ⟨rfl, hb⟩; have n0_ := Aside0.mk (Kd.R_below (by (with_reducible repeat (first | apply Kd.R_alloc | apply Kd.R_drewN | apply Kd.R_drew)); exact HO146.out) hb); have n1_ := Aside0.mk (blk_below (g := gb143) (o := .cells #[.string a0_0, .slice A0_1 l0_1.length c0_1, .int .i64 a0_2, .int .u8 a0_3] 34 (0, 0)) (by (with_reducible repeat (first | refine blk_drewN ?_ _ | refine blk_drew ?_ | refine blk_alloc ?_ _)); exact BK143.out) hb); have n2_ := Aside0.mk (below_step (by repeat (first | (with_reducible first | exact HB.out | apply below_alloc | apply pw_below_drewN | apply below_drew1 | refine below_set ?_ GE143.out) | exact HB.out)) hb); clear HO146; clear BK143; clear HB; have HO146 := n0_; have BK143 := n1_; have HB := n2_; clear n0_ n1_ n2_; (try clear hb); (try clear hb2); (try clear hk); (try clear hi); have hcz47_0 : w46.cell? ⟨gb143, 0, none⟩ = some (.string a0_0) := (blk_cell BK143.out 0).trans rfl; have hcz47_1 : w46.cell? ⟨gb143, 1, none⟩ = some (.slice A0_1 l0_1.length c0_1) := (blk_cell BK143.out 1).trans rfl; have hcz47_2 : w46.cell? ⟨gb143, 2, none⟩ = some (.int .i64 a0_2) := (blk_cell BK143.out 2).trans rfl; have hcz47_3 : w46.cell? ⟨gb143, 3, none⟩ = some (.int .u8 a0_3) := (blk_cell BK143.out 3).trans rfl; have hfz47_0 := blk_frozen BK143.out 0; have hfz47_1 := blk_frozen BK143.out 1; have hfz47_2 := blk_frozen BK143.out 2; have hfz47_3 := blk_frozen BK143.out 3) | (go_at_call 47; (with_reducible refine (contest_twice.calls k _ _ l0_1 false _ ?side1 ?side2 A26.out).mono ?_); (case side1 => repeat (first | exact (Kd.C_below HR0_1.out HB.out) | (with_reducible refine Kd.C_alloc ?_ _) | (with_reducible refine Kd.C_drewN ?_ _) | (with_reducible refine Kd.C_drew ?_))); (case side2 => exact HC0_1.out); rintro e w' ⟨rfl, ⟨nd, rfl⟩⟩) | (go_at_call 48; (with_reducible refine (contest_fits.calls k a0_0 _ _ l0_1 a0_2 a0_3 true _ ?side1 ?side2 A37.out).mono ?_); (case side1 => repeat (first | exact (Kd.C_below HR0_1.out (by repeat (first | (with_reducible first | exact HB.out | apply below_alloc | apply pw_below_drewN | apply below_drew1 | refine below_set ?_ GE143.out) | exact HB.out))) | (with_reducible refine Kd.C_alloc ?_ _) | (with_reducible refine Kd.C_drewN ?_ _) | (with_reducible refine Kd.C_drew ?_))); (case side2 => exact HC0_1.out); rintro e w48 ⟨rfl, hb⟩; have n0_ := Aside0.mk (Kd.R_below (by (with_reducible repeat (first | apply Kd.R_alloc | apply Kd.R_drewN | apply Kd.R_drew)); exact HO146.out) hb); have n1_ := Aside0.mk (blk_below (g := gb143) (o := .cells #[.string a0_0, .slice A0_1 l0_1.length c0_1, .int .i64 a0_2, .int .u8 a0_3] 34 (0, 0)) (by (with_reducible repeat (first | refine blk_drewN ?_ _ | refine blk_drew ?_ | refine blk_alloc ?_ _)); exact BK143.out) hb); have n2_ := Aside0.mk (below_step (by repeat (first | (with_reducible first | exact HB.out | apply below_alloc | apply pw_below_drewN | apply below_drew1 | refine below_set ?_ GE143.out) | exact HB.out)) hb); clear HO146; clear BK143; clear HB; have HO146 := n0_; have BK143 := n1_; have HB := n2_; clear n0_ n1_ n2_; (try clear hb); (try clear hb2); (try clear hk); (try clear hi))); go_ret; exact ⟨by first | rfl | (simp [errW_none, errW_some] <;> rfl) | (simp [*, errW_none, errW_some] <;> rfl), by repeat (first | (with_reducible first | exact HB.out | apply below_alloc | apply pw_below_drewN | apply below_drew1 | refine below_set ?_ GE143.out) | exact HB.out)⟩
            · replace c38 := Bool.eq_false_iff.mpr c38; subst c38
              have H1 : (some 8) = some r := by rw [if_neg (show ¬ (false = true) by decide)] at H; exact H
              clear H; have H := H1; clear H1; obtain rfl := Option.some.inj H
              go_enter Try.func21, Try.ntmps21
              go_wp2_with (first | ((with_reducible refine gate_dst (N := 1) rfl ?_); (try (refine gate_guard (by rfl) ?_; dsimp only)); refine box_event ?hg (N := 1) ?hd (cs := #[.string a0_0, .slice A0_1 l0_1.length c0_1, .int .i64 a0_2, .int .u8 a0_3]) (t := 34) ?hr ?_; (case hd => rfl); (case hg => rfl); (case hr => first | (go_simp; done) | (go_simp; rfl)); intro gb143 hg w49 hbox hb; have n0_ := Aside0.mk (below_step bl_ hb); have n1_ := Aside0.mk (hbox); have n2_ := Aside0.mk ((by rw [hg]; exact (below_size bl_) : w.heap.size ≤ gb143)); have n3_ := Aside0.mk ((by rw [hg]; exact (below_size bl_) : w.heap.size ≤ gb143)); clear HB; have HB := n0_; have BK143 := n1_; have GW143 := n2_; have GE143 := n3_; clear n0_ n1_ n2_ n3_; clear hb hbox hg; have hcz50_0 : w49.cell? ⟨gb143, 0, none⟩ = some (.string a0_0) := (blk_cell BK143.out 0).trans rfl; have hcz50_1 : w49.cell? ⟨gb143, 1, none⟩ = some (.slice A0_1 l0_1.length c0_1) := (blk_cell BK143.out 1).trans rfl; have hcz50_2 : w49.cell? ⟨gb143, 2, none⟩ = some (.int .i64 a0_2) := (blk_cell BK143.out 2).trans rfl; have hcz50_3 : w49.cell? ⟨gb143, 3, none⟩ = some (.int .u8 a0_3) := (blk_cell BK143.out 3).trans rfl; have hfz50_0 := blk_frozen BK143.out 0; have hfz50_1 := blk_frozen BK143.out 1; have hfz50_2 := blk_frozen BK143.out 2; have hfz50_3 := blk_frozen BK143.out 3) | ((with_reducible refine gate_dst (N := 14) rfl ?_); (try (refine gate_guard (by rfl) ?_; dsimp only)); refine Kd.R_lit Kd.string _ 9 ?hg (N := 14) ?hd (xs := ([a0_0] : List ByteArray)) (inner := [.string a0_0]) (ok := fun _ => True) (okp := fun _ => True) ?hr ?hp (fun _ hk => hk) trivial (Below.refl _ _) (Nat.le_refl _) (by simp) ?_; (case hd => rfl); (case hg => rfl); (case hr => first | (go_simp; done) | (go_simp; rfl)); (case hp => exact (Reps.one (show Kd.M Kd.string _ _ _ a0_0 [.string a0_0] from rfl) (Reps.none _ _))); intro v145 w51 ho52 hb hg_ hnew_; clear hg_ hnew_; (first | rw [← Ny144.out] at ho52 | (simp only [Int.reduceToNat] at ho52; rw [← Ny144.out] at ho52)); have n0_ := Aside0.mk (Kd.R_lower ho52 (below_size (by repeat (first | (with_reducible first | exact HB.out | apply below_alloc | apply pw_below_drewN | apply below_drew1 | refine below_set ?_ GE143.out) | exact HB.out)))); have n1_ := Aside0.mk (blk_below (g := gb143) (o := .cells #[.string a0_0, .slice A0_1 l0_1.length c0_1, .int .i64 a0_2, .int .u8 a0_3] 34 (0, 0)) (by (with_reducible repeat (first | refine blk_drewN ?_ _ | refine blk_drew ?_ | refine blk_alloc ?_ _)); exact BK143.out) hb); have n2_ := Aside0.mk (below_step (by repeat (first | (with_reducible first | exact HB.out | apply below_alloc | apply pw_below_drewN | apply below_drew1 | refine below_set ?_ GE143.out) | exact HB.out)) hb); clear BK143; clear HB; have HO146 := n0_; have BK143 := n1_; have HB := n2_; clear n0_ n1_ n2_; clear hb ho52; obtain ⟨Ao53, co53, eo53⟩ := Kd.R_slice HO146.out; subst eo53) | (go_at_call 46; (with_reducible refine (contest_odd.calls _ _ y144 false _ ?side1 ?side2 A8.out).mono ?_); (case side1 => repeat (first | exact (Kd.R_reads' HO146.out).2.2 | (with_reducible refine Kd.C_alloc ?_ _) | (with_reducible refine Kd.C_drewN ?_ _) | (with_reducible refine Kd.C_drew ?_))); (case side2 => exact (Kd.R_reads' HO146.out).2.1); rintro e w54 ⟨rfl, hb⟩; have n0_ := Aside0.mk (Kd.R_below (by (with_reducible repeat (first | apply Kd.R_alloc | apply Kd.R_drewN | apply Kd.R_drew)); exact HO146.out) hb); have n1_ := Aside0.mk (blk_below (g := gb143) (o := .cells #[.string a0_0, .slice A0_1 l0_1.length c0_1, .int .i64 a0_2, .int .u8 a0_3] 34 (0, 0)) (by (with_reducible repeat (first | refine blk_drewN ?_ _ | refine blk_drew ?_ | refine blk_alloc ?_ _)); exact BK143.out) hb); have n2_ := Aside0.mk (below_step (by repeat (first | (with_reducible first | exact HB.out | apply below_alloc | apply pw_below_drewN | apply below_drew1 | refine below_set ?_ GE143.out) | exact HB.out)) hb); clear HO146; clear BK143; clear HB; have HO146 := n0_; have BK143 := n1_; have HB := n2_; clear n0_ n1_ n2_; (try clear hb); (try clear hb2); (try clear hk); (try clear hi); have hcz55_0 : w54.cell? ⟨gb143, 0, none⟩ = some (.string a0_0) := (blk_cell BK143.out 0).trans rfl; have hcz55_1 : w54.cell? ⟨gb143, 1, none⟩ = some (.slice A0_1 l0_1.length c0_1) := (blk_cell BK143.out 1).trans rfl; have hcz55_2 : w54.cell? ⟨gb143, 2, none⟩ = some (.int .i64 a0_2) := (blk_cell BK143.out 2).trans rfl; have hcz55_3 : w54.cell? ⟨gb143, 3, none⟩ = some (.int .u8 a0_3) := (blk_cell BK143.out 3).trans rfl; have hfz55_0 := blk_frozen BK143.out 0; have hfz55_1 := blk_frozen BK143.out 1; have hfz55_2 := blk_frozen BK143.out 2; have hfz55_3 := blk_frozen BK143.out 3) | (go_at_call 46; (with_reducible refine (contest_odd.calls _ _ l0_1 false _ ?side1 ?side2 A16.out).mono ?_); (case side1 => repeat (first | exact (Kd.C_below HR0_1.out HB.out) | (with_reducible refine Kd.C_alloc ?_ _) | (with_reducible refine Kd.C_drewN ?_ _) | (with_reducible refine Kd.C_drew ?_))); (case side2 => exact HC0_1.out); rintro e w56 ⟨rfl, hb⟩; have n0_ := Aside0.mk (Kd.R_below (by (with_reducible repeat (first | apply Kd.R_alloc | apply Kd.R_drewN | apply Kd.R_drew)); exact HO146.out) hb); have n1_ := Aside0.mk (blk_below (g := gb143) (o := .cells #[.string a0_0, .slice A0_1 l0_1.length c0_1, .int .i64 a0_2, .int .u8 a0_3] 34 (0, 0)) (by (with_reducible repeat (first | refine blk_drewN ?_ _ | refine blk_drew ?_ | refine blk_alloc ?_ _)); exact BK143.out) hb); have n2_ := Aside0.mk (below_step (by repeat (first | (with_reducible first | exact HB.out | apply below_alloc | apply pw_below_drewN | apply below_drew1 | refine below_set ?_ GE143.out) | exact HB.out)) hb); clear HO146; clear BK143; clear HB; have HO146 := n0_; have BK143 := n1_; have HB := n2_; clear n0_ n1_ n2_; (try clear hb); (try clear hb2); (try clear hk); (try clear hi); have hcz57_0 : w56.cell? ⟨gb143, 0, none⟩ = some (.string a0_0) := (blk_cell BK143.out 0).trans rfl; have hcz57_1 : w56.cell? ⟨gb143, 1, none⟩ = some (.slice A0_1 l0_1.length c0_1) := (blk_cell BK143.out 1).trans rfl; have hcz57_2 : w56.cell? ⟨gb143, 2, none⟩ = some (.int .i64 a0_2) := (blk_cell BK143.out 2).trans rfl; have hcz57_3 : w56.cell? ⟨gb143, 3, none⟩ = some (.int .u8 a0_3) := (blk_cell BK143.out 3).trans rfl; have hfz57_0 := blk_frozen BK143.out 0; have hfz57_1 := blk_frozen BK143.out 1; have hfz57_2 := blk_frozen BK143.out 2; have hfz57_3 := blk_frozen BK143.out 3) | (go_at_call 47; (with_reducible refine (contest_twice.calls k _ _ l0_1 false _ ?side1 ?side2 A26.out).mono ?_); (case side1 => repeat (first | exact (Kd.C_below HR0_1.out HB.out) | (with_reducible refine Kd.C_alloc ?_ _) | (with_reducible refine Kd.C_drewN ?_ _) | (with_reducible refine Kd.C_drew ?_))); (case side2 => exact HC0_1.out); rintro e w' ⟨rfl, ⟨nd, rfl⟩⟩) | (go_at_call 48; (with_reducible refine (contest_fits.calls k a0_0 _ _ l0_1 a0_2 a0_3 false _ ?side1 ?side2 A37.out).mono ?_); (case side1 => repeat (first | exact (Kd.C_below HR0_1.out (by repeat (first | (with_reducible first | exact HB.out | apply below_alloc | apply pw_below_drewN | apply below_drew1 | refine below_set ?_ GE143.out) | exact HB.out))) | (with_reducible refine Kd.C_alloc ?_ _) | (with_reducible refine Kd.C_drewN ?_ _) | (with_reducible refine Kd.C_drew ?_))); (case side2 => exact HC0_1.out); rintro e w58 ⟨rfl, hb⟩; have n0_ := Aside0.mk (Kd.R_below (by (with_reducible repeat (first | apply Kd.R_alloc | apply Kd.R_drewN | apply Kd.R_drew)); exact HO146.out) hb); have n1_ := Aside0.mk (blk_below (g := gb143) (o := .cells #[.string a0_0, .slice A0_1 l0_1.length c0_1, .int .i64 a0_2, .int .u8 a0_3] 34 (0, 0)) (by (with_reducible repeat (first | refine blk_drewN ?_ _ | refine blk_drew ?_ | refine blk_alloc ?_ _)); exact BK143.out) hb); have n2_ := Aside0.mk (below_step (by repeat (first | (with_reducible first | exact HB.out | apply below_alloc | apply pw_below_drewN | apply below_drew1 | refine below_set ?_ GE143.out) | exact HB.out)) hb); clear HO146; clear BK143; clear HB; have HO146 := n0_; have BK143 := n1_; have HB := n2_; clear n0_ n1_ n2_; (try clear hb); (try clear hb2); (try clear hk); (try clear hi))); go_ret; exact ⟨by first | rfl | (simp [errW_none, errW_some] <;> rfl) | (simp [*, errW_none, errW_some] <;> rfl), by repeat (first | (with_reducible first | exact HB.out | apply below_alloc | apply pw_below_drewN | apply below_drew1 | refine below_set ?_ GE143.out) | exact HB.out)⟩

-- NOT PRINTED: function 65 (slices_AppendSeq_int_int)

-- NOT PRINTED: function 49 (slices_Collect_int)
/-! ### assert_others: function 53 (by hand) -/
section
attribute [local go_sem] Oper.semAt_some
open Go.Shelf
/-! ### assert.others: the candidates that are not in a list -/
def othersL (l : List Int) (n : Nat) : List Int := ((List.range n).map (fun (j : Nat) => (j : Int))).filter fun x => !(l.contains x)
theorem othersL_succ (l : List Int) (k : Nat) : othersL l (k + 1) = othersL l k ++ (if l.contains (k : Int) then [] else [(k : Int)]) := by
  simp only [othersL, List.range_succ, List.map_append, List.filter_append, List.map_cons, List.map_nil]
  congr 1
  cases h : l.contains (k : Int)
  · have : (k : Int) ∉ l := by simpa using h
    simp [this]
  · have : (k : Int) ∈ l := by simpa using h
    simp [this]
theorem othersL_le (l : List Int) (n : Nat) : (othersL l n).length ≤ n := by
  have := List.length_filter_le (fun x => !(l.contains x)) ((List.range n).map (fun (j : Nat) => (j : Int)))
  simpa [othersL] using this
theorem othersL_lt (l : List Int) (k n : Nat) (h : k < n) (hc : l.contains (k : Int) = false) : (othersL l k).length < (othersL l n).length := by
  induction n with
  | zero => omega
  | succ n ih =>
    rw [othersL_succ, List.length_append]
    by_cases e : k = n
    · subst e; rw [hc]; simp
    · have := ih (by omega); omega
theorem drewN_grown (W : World) (m : Nat) : W.grownBy (W.drewN m) none := ⟨rfl, rfl, rfl, Nat.le_refl _, fun _ _ _ => rfl⟩
theorem abides_drewN {β : Type} {B : Nat} {J : β → World → Prop} (h : AbidesFrom B J) {s : β} {W : World} (hJ : J s W) (m : Nat) : J s (W.drewN m) := h s W _ none hJ (drewN_grown W m) (fun r e => by cases e)
theorem cell_of_heap {W W' : World} {b : Nat} {v : Value} (h : W.cell? ⟨b, 0, none⟩ = some v) (e : W'.heap[b]? = W.heap[b]?) : W'.cell? ⟨b, 0, none⟩ = some v := by
  simpa only [World.cell?, e] using h
/-- What the iterator must find as it was: what lies below n₀, and its box of the slice. -/
def ItKeeps (n₀ Bs : Nat) (A B : World) : Prop := Below n₀ A B ∧ B.heap[Bs]? = A.heap[Bs]?
theorem ItKeeps.refl (n₀ Bs : Nat) (A : World) : ItKeeps n₀ Bs A A := ⟨Below.refl _ _, rfl⟩
theorem ItKeeps.trans {n₀ Bs : Nat} {A B C : World} (h : ItKeeps n₀ Bs A B) (k : ItKeeps n₀ Bs B C) : ItKeeps n₀ Bs A C := ⟨h.1.trans k.1, k.2.trans h.2⟩
theorem ItKeeps.drewN {n₀ Bs : Nat} {A B : World} (h : ItKeeps n₀ Bs A B) (m : Nat) : ItKeeps n₀ Bs A (B.drewN m) := ⟨pw_below_drewN h.1 m, h.2⟩
theorem ItKeeps.of_below {n₀ Bs : Nat} {A B : World} (hb : Bs < n₀) (h : Below n₀ A B) : ItKeeps n₀ Bs A B := ⟨h, h.block Bs hb⟩
theorem ItKeeps.putObj {n₀ Bs : Nat} {w : World} (hn : n₀ ≤ w.heap.size) (hb : Bs < w.heap.size) (W : World) (l : Nat) (o o' : Obj) (hl : w.heap.size ≤ l) (h : W.heap[l]? = some o) (h1 : o.isCells = false) (h2 : o.isWalk = false) : ItKeeps n₀ Bs W (W.putObj l o') :=
  ⟨belowK_b hn W l o o' hl h h1 h2, World.putObj_heap_other (by omega)⟩
set_option maxRecDepth 100000 in
set_option maxHeartbeats 2000000 in
theorem others1_in (k0 : Nat) (n : Nat) (hn : 1 ≤ n) (l Bc Bs n₀ cap c : Nat) (A : Option Addr) (zs : List Int) (hin : ∀ j : Nat, j < c → slices_Contains_int_int.f k0 zs j = some (zs.contains (j : Int))) (hc9 : c ≤ 9223372036854775807) (J Jx : List Int → World → Prop) (W : World) (hJd : AbidesFrom W.heap.size J)
    (hY : ∀ pre x W, J pre W → pre.length < (othersL zs c).length → YieldAt Fence.wide (n - 1) Try.prog l #[.int .i64 x] W fun e W' =>
      (e = .returned (.bool true) ∧ J (pre ++ [x]) W' ∧ ItKeeps n₀ Bs W W') ∨ (e = .returned (.bool false) ∧ Jx (pre ++ [x]) W'))
    (hBc : W.cell? ⟨Bc, 0, none⟩ = some (.int .i64 c)) (hBs : W.cell? ⟨Bs, 0, none⟩ = some (.slice A zs.length cap)) (hcap : zs.length ≤ cap) (hI : IterInts n₀ W A zs) (h0 : J [] W) :
    CallsIn Fence.wide n Try.prog 68 #[.func (.yield l) #[] #[], .pointer (some ⟨Bc, 0, none⟩), .pointer (some ⟨Bs, 0, none⟩)] W fun e W' => (∃ v, e = .returned v) ∧
      ((∃ ys, ys = othersL zs c ∧ J ys W') ∨ (∃ pre, True ∧ Jx pre W')) := by
  have HI := Aside0.mk hI
  have HIN := Aside0.mk hin
  have HCAP := Aside0.mk hcap
  clear hI hin hcap
  refine callsIn_of_wp Try.func68 rfl trivial ?_ rfl
  simp only [Try.ntmps68, List.size_toArray, List.length_cons, List.length_nil, Nat.reduceAdd, Nat.reduceSub, Array.replicate_succ, Array.replicate_zero, List.push_toArray, List.append_toArray, List.nil_append, List.cons_append]
  gi_wp2
  gi_loopw [6] (fun i wr => ∃ k : Nat, k ≤ c ∧ i = .int .i64 k ∧ J (othersL zs k) wr ∧ ItKeeps n₀ Bs W wr)
    (fun i _ => c - (intOf i).toNat)
  case atStart => exact ⟨0, Nat.zero_le _, rfl, h0, ItKeeps.refl _ _ _⟩
  case round =>
    obtain ⟨k, hk, rfl, hJs, hnx⟩ := hrel
    by_cases hlt : k < c
    · have hs := cell_of_heap hBs hnx.2
      have HR := Aside0.mk (HI.out.below hnx.1).1
      cases hct : zs.contains (k : Int)
      · have HX := Aside0.mk ((HIN.out k hlt).trans (congrArg some hct))
        have HCT := Aside0.mk hct
        have HLEN := Aside0.mk (othersL_lt zs k c hlt hct)
        clear hct
        gi_wp2_with (refine ⟨trivial, ?_⟩; gi_at_call 40; refine (callsIn_wide.2 (slices_Contains_int_int.calls k0 _ _ zs k false _ HR.out HCAP.out HX.out)).mono ?_; rintro e w' ⟨rfl, ⟨nd, rfl⟩⟩; obtain ⟨fn, tmps, assign, body, hy, hR⟩ := hY _ (k : Int) _ (abides_drewN hJd hJs nd) HLEN.out)
        refine hR.mono ?_
        rintro e W3 (⟨rfl, hJ3, hk3⟩ | ⟨rfl, hJx3⟩)
        · gi_wp2
          go_roundw
          case rel => exact ⟨k + 1, by omega, by simp, by rw [othersL_succ, HCT.out]; exact hJ3, (hnx.drewN nd).trans hk3⟩
          case measure => simp [intOf]; omega
        · gi_wp2
          refine bodyPost_ret (results_none rfl _ _ _) rfl ?_
          exact ⟨⟨_, rfl⟩, .inr ⟨_, trivial, hJx3⟩⟩
      · have HX := Aside0.mk ((HIN.out k hlt).trans (congrArg some hct))
        have HCT := Aside0.mk hct
        clear hct
        gi_wp2_with (refine ⟨trivial, ?_⟩; gi_at_call 40; refine (callsIn_wide.2 (slices_Contains_int_int.calls k0 _ _ zs k true _ HR.out HCAP.out HX.out)).mono ?_; rintro e w' ⟨rfl, ⟨nd, rfl⟩⟩)
        refine ⟨fun _ h => (by cases h), ?_⟩
        gi_wp2
        go_roundw
        case rel => exact ⟨k + 1, by omega, by simp, by rw [othersL_succ, HCT.out, if_pos rfl, List.append_nil]; exact abides_drewN hJd hJs nd, hnx.drewN nd⟩
        case measure => simp [intOf]; omega
    · obtain rfl : k = c := by omega
      gi_wp2
      go_end0
      exact ⟨⟨_, rfl⟩, .inl ⟨_, rfl, hJs⟩⟩
theorem others_calls (A : Option Addr) (n c : Nat) (cands : Int) (w : World) : Calls Try.prog 53 #[.slice A n c, .int .i64 cands] w fun e w' => e = .returned (.func (.func 68) #[] #[.pointer (some ⟨w.heap.size + 1, 0, none⟩), .pointer (some ⟨w.heap.size, 0, none⟩)]) ∧ w' = (w.alloc (.cells #[.slice A n c] 22)).alloc (.cells #[.int .i64 cands] 3) := by
  go_enter Try.func53, Try.ntmps53
  go_wp2
  go_ret
  refine ⟨?_, rfl⟩
  simp
theorem others_stops (n : Nat) (hn : 1 ≤ n) (k0 Bc Bs n₀ cap c : Nat) (A : Option Addr) (zs : List Int) (hin : ∀ j : Nat, j < c → slices_Contains_int_int.f k0 zs j = some (zs.contains (j : Int))) (hc9 : c ≤ 9223372036854775807) (w : World) (hBc : Bc < w.heap.size) (hBs : Bs < w.heap.size) (hn₀ : n₀ ≤ w.heap.size)
    (hcc : w.cell? ⟨Bc, 0, none⟩ = some (.int .i64 c)) (hcs : w.cell? ⟨Bs, 0, none⟩ = some (.slice A zs.length cap)) (hcap : zs.length ≤ cap) (hI : IterInts n₀ w A zs) :
    SeqStopsK Fence.wide n Try.prog 68 #[.pointer (some ⟨Bc, 0, none⟩), .pointer (some ⟨Bs, 0, none⟩)] (fun x : Int => #[Value.int .i64 x]) (ItKeeps n₀ Bs) (fun ys => ys = othersL zs c) (fun _ => True) (othersL zs c).length w := fun l J Jx W hW hJ _ hY h0 =>
  (others1_in k0 n hn l Bc Bs n₀ cap c A zs hin hc9 J Jx W hJ hY ((hW.cell (p := ⟨Bc, 0, none⟩) hBc).trans hcc) ((hW.cell (p := ⟨Bs, 0, none⟩) hBs).trans hcs) hcap (hI.below (hW.mono hn₀)) h0).mono fun e W' ⟨he, h⟩ => ⟨he, h.imp (fun h => h) (fun ⟨pre, _, hj⟩ => ⟨pre, trivial, hj⟩)⟩
theorem iter_of_C {w : World} {A : Option Addr} {xs : List Int} (hC : Kd.C (Kd.int .i64) w A xs.length xs) : IterInts w.heap.size w A xs := by
  refine ⟨hC, fun ad e hp => ?_⟩
  obtain ⟨ad', e', hx⟩ := Kd.at_int hC 0 (Int.le_refl _) (by omega)
  rw [e] at e'
  obtain rfl := Option.some.inj e'
  have := cell_block_lt hx
  rw [add_block] at this
  exact this
theorem collectOthers_calls (k0 Bc Bs cap c : Nat) (A : Option Addr) (zs : List Int) (hin : ∀ j : Nat, j < c → slices_Contains_int_int.f k0 zs j = some (zs.contains (j : Int))) (hc9 : c ≤ 10000000) (w : World) (hBc : Bc < w.heap.size) (hBs : Bs < w.heap.size)
    (hcc : w.cell? ⟨Bc, 0, none⟩ = some (.int .i64 c)) (hcs : w.cell? ⟨Bs, 0, none⟩ = some (.slice A zs.length cap)) (hcap : zs.length ≤ cap) (hC : Kd.C (Kd.int .i64) w A zs.length zs) :
    Calls Try.prog 49 #[.func (.func 68) #[] #[.pointer (some ⟨Bc, 0, none⟩), .pointer (some ⟨Bs, 0, none⟩)]] w fun e W' => ∃ v, e = .returned v ∧ W'.ownsRow w.heap.size 3 1 v (othersL zs c).length (nums .i64 (othersL zs c)) ∧ Below w.heap.size w W' :=
  collect_calls 68 _ (enters_of Try.func68 (by kernel_rfl) rfl) (othersL zs c) (by have := othersL_le zs c; omega) w _ (fun l J Jx W hW hJ hJx hY h0 => others_stops 1 (by decide) k0 Bc Bs w.heap.size cap c A zs hin (by omega) w hBc hBs (Nat.le_refl _) hcc hcs hcap (iter_of_C hC) l J Jx W hW hJ hJx (fun pre x W1 hj hl => by
    obtain ⟨fn, tmps, assign, body, hy, hR⟩ := hY pre x W1 hj hl
    exact ⟨fn, tmps, assign, body, hy, hR.mono fun e W' h => h.imp (fun ⟨a, b, c⟩ => ⟨a, b, ItKeeps.of_below hBs c⟩) (fun h => h)⟩) h0)
/-! ### slices.Contains tells -/
theorem rd_nat (l : List Int) (i : Nat) : rd l (i : Int) = l.getD i 0 := by simp [rd]
theorem index_l0 (l : List Int) (a : Int) (hl : l.length < 9223372036854775807) : ∀ (m i : Nat), l.length - i ≤ m → i ≤ l.length → ∃ r, slices_Index_int_int.l0 (m + 1) l a (l.length : Int) (i : Int) = some r ∧ decide (r ≥ 0) = (l.drop i).contains a := by
  intro m
  induction m with
  | zero =>
    intro i h1 h2
    obtain rfl : i = l.length := by omega
    exact ⟨-1, by simp [slices_Index_int_int.l0], by simp⟩
  | succ m ih =>
    intro i h1 h2
    by_cases hlt : i < l.length
    · have hd : l.drop i = l.getD i 0 :: l.drop (i + 1) := by
        rw [List.drop_eq_getElem_cons hlt]; simp [List.getD, hlt]
      have h3 : ((i : Int) < (l.length : Int)) := by omega
      have h4 : (0 : Int) ≤ (i : Int) := by omega
      rw [slices_Index_int_int.l0, if_pos h3, if_pos h4, if_pos h3, rd_nat, hd]
      by_cases he : a = l.getD i 0
      · rw [if_pos he]
        exact ⟨_, rfl, by rw [List.contains_cons, ← he]; simp⟩
      · rw [if_neg he, show wrap64 ((i : Int) + 1) = ((i + 1 : Nat) : Int) by (unfold wrap64; omega)]
        obtain ⟨r, e1, e2⟩ := ih (i + 1) (by omega) (by omega)
        refine ⟨r, e1, e2.trans ?_⟩
        rw [List.contains_cons]
        have : (a == l.getD i 0) = false := by simpa using he
        rw [this, Bool.false_or]
    · obtain rfl : i = l.length := by omega
      exact ⟨-1, by simp [slices_Index_int_int.l0], by simp⟩
theorem contains_tells (l : List Int) (a : Int) (hl : l.length < 9223372036854775807) : slices_Contains_int_int.f (l.length + 1) l a = some (l.contains a) := by
  obtain ⟨r, e1, e2⟩ := index_l0 l a hl l.length 0 (by omega) (by omega)
  have e1' : slices_Index_int_int.f (l.length + 1) l a = some r := e1
  rw [slices_Contains_int_int.f, e1', Option.bind_some, e2, List.drop_zero]
def assert_others.f (l0 : List Int) (a1 : Int) : Option (List Int) := if l0.length ≤ 1000000 ∧ 0 ≤ a1 ∧ a1 ≤ 1000000 then some (othersL l0 a1.toNat) else none
set_option maxHeartbeats 4000000 in
/-- Two calls as one: the iterator is made, and collected. -/
theorem assert_others.calls (A0 : Option Addr) (c0 : Nat) (l0 : List Int) (a1 : Int) (r : List Int) (w : World) (hr0 : Kd.C (Kd.int .i64) w A0 l0.length l0) (hc0 : l0.length ≤ c0) (h : assert_others.f l0 a1 = some r) :
    Calls Try.prog 53 #[.slice A0 l0.length c0, .int .i64 a1] w fun e w1 => ∃ fv : Value, e = .returned (fv) ∧ Aside0 (Calls Try.prog 49 #[fv] w1 fun e w' => ∃ v0_ : Value, e = .returned (v0_) ∧ Kd.R (Kd.int .i64) 3 w' w.heap.size (fun _ => True) v0_ r ∧ Below w.heap.size w w') := by
  unfold assert_others.f at h
  split at h
  case isFalse => cases h
  rename_i hb
  obtain ⟨hl, h0, h9⟩ := hb
  obtain rfl := Option.some.inj h
  clear h
  obtain ⟨c, rfl⟩ := Int.eq_ofNat_of_zero_le h0
  refine (others_calls A0 l0.length c0 c w).mono ?_
  rintro e w1 ⟨rfl, hw1⟩
  refine ⟨_, rfl, ⟨?_⟩⟩
  have hb1 : Below w.heap.size w w1 := by subst hw1; exact ((Below.refl _ w).alloc (Nat.le_refl _) _).alloc (by simp) _
  have hz : w1.heap.size = w.heap.size + 2 := by subst hw1; simp
  have q0 : Boxed w1 w.heap.size 22 (.slice A0 l0.length c0) := by subst hw1; exact (Boxed.new w _ _).alloc _
  have q1 : Boxed w1 (w.heap.size + 1) 3 (.int .i64 c) := by
    subst hw1
    have := Boxed.new (w.alloc (.cells #[.slice A0 l0.length c0] 22)) 3 (.int .i64 c)
    rwa [World.size_alloc] at this
  refine (collectOthers_calls (l0.length + 1) (w.heap.size + 1) w.heap.size c0 c A0 l0 (fun j _ => contains_tells l0 j (by omega)) (by omega) w1 (by omega) (by omega) q1.cell q0.cell hc0 (Kd.C_below hr0 hb1)).mono ?_
  rintro e w' ⟨v, rfl, ho, hb⟩
  exact ⟨v, rfl, Kd.R_lower (Kd.R_of_own (h1 := fun _ => rfl) ho (fun _ _ => True.intro)) (by omega), hb1.trans (hb.mono (by omega))⟩
end
/-! ### assert_plain: function 25 (by hand) -/
section
attribute [local go_sem] Oper.semAt_some
open Go.Shelf
/-! ### assert.plain -/
def flat1 (x : S24) : List Value := [.int .u8 x.f0, .int .i64 x.f1, .int .i64 x.f2, .slice none 0 0]
def flat (xs : List S24) : List Value := xs.flatMap flat1
theorem flat_append (xs ys : List S24) : flat (xs ++ ys) = flat xs ++ flat ys := List.flatMap_append
theorem flat_length (xs : List S24) : (flat xs).length = xs.length * 4 := by
  induction xs with
  | nil => rfl
  | cons x xs ih => rw [flat, List.flatMap_cons, List.length_append, ← flat, ih]; simp [flat1]; omega
/-- A row of such structs, none of which leads to memory. -/
theorem S_of_flat {w : World} {base : Nat} {v : Value} {xs : List S24} (h : w.ownsRow base 24 4 v xs.length (flat xs)) (h3 : ∀ x ∈ xs, x.f3 = []) : Kd.S k24 24 w base (fun _ => True) v xs := by
  refine Kd.S_bare ⟨fun _ _ => trivial, flat xs, h, flat_length xs, fun j p hj => ?_⟩
  have hp : p.f3 = [] := h3 p (List.mem_of_getElem? hj)
  have he : ((flat xs).drop (j * 4)).take 4 = flat1 p := by
    clear h h3 hp
    induction xs generalizing j with
    | nil => simp at hj
    | cons x xs ih =>
      cases j with
      | zero =>
        obtain rfl : x = p := by simpa using hj
        simp [flat, flat1, List.flatMap_cons]
      | succ j =>
        have := ih j (by simpa using hj)
        rw [show (j + 1) * 4 = j * 4 + 4 by omega]
        exact this
  show k24.M w base (fun _ => False) p _
  rw [show (Kd.bare k24).sz = 4 from rfl, he, flat1]
  refine k24_mkM w base _ p ?_
  rw [hp]
  exact Kd.R_nil _ _ _ _ _
def marksOf (dl : List Nat) : List Deferred := dl.map fun D => { target := .collected D, args := #[] }
/-- The marks that ranges over functions have left are closed one after the other. -/
theorem leaves_marks {fn : Func} {tmps : Array Value} {R : Ending → World → Prop} {F : Fence} {n : Nat} : ∀ (dl : List Nat) (W : World), dl.Pairwise (fun a b => a ≠ b) → (∀ D ∈ dl, W.heap[D]? = some (.deferred (some []))) →
    (∀ W', (∀ k, k ∉ dl → W'.heap[k]? = W.heap[k]?) → W'.heap.size = W.heap.size → (∀ b, b ≤ W.heap.size → (∀ D ∈ dl, b ≤ D) → Below b W W') → (∀ {base : Nat} {e : TypeId} {size : Nat} {v : Value} {k : Nat} {xs : List Value}, W.ownsRow base e size v k xs → W'.ownsRow base e size v k xs) → LeavesInM F n Try.prog fn tmps R [] .returning W') →
    LeavesInM F n Try.prog fn tmps R (marksOf dl) .returning W := by
  intro dl
  induction dl with
  | nil => exact fun W _ _ h => h W (fun _ _ => rfl) rfl (fun b hb _ => Below.refl _ _) (fun h => h)
  | cons D dl ih =>
    intro W hnd hall h
    have hD := hall D List.mem_cons_self
    refine ⟨by simp, .inl ⟨D, _, rfl, run_takeDeferred hD, ?_⟩⟩
    rw [List.pairwise_cons] at hnd
    have hlt : D < W.heap.size := (Array.getElem?_eq_some_iff.1 hD).1
    refine ih _ hnd.2 (fun D' hD' => (World.putObj_heap_other (fun e => hnd.1 D' hD' e.symm)).trans (hall D' (List.mem_cons_of_mem _ hD'))) ?_
    intro W' h1 h2 h3 h4
    refine h W' (fun k hk => ?_) ?_ (fun b hb hbd => ?_) (fun ho => h4 (ownsRow_putObj ho _ hD rfl))
    · rw [List.mem_cons, not_or] at hk
      exact (h1 k hk.2).trans (World.putObj_heap_other hk.1)
    · rw [h2]; simp
    · refine Below.trans ?_ (h3 b (by simpa using hb) (fun D' hD' => hbd D' (List.mem_cons_of_mem _ hD')))
      exact (Below.refl b W).grown (grownBy_putObj' W D _) hb (fun k e => by cases e; exact hbd D List.mem_cons_self)
theorem cells_new (w : World) (cs : List Value) (t : TypeId) (b : Nat) (hb : w.heap.size = b) : ∀ j u, cs[j]? = some u → (w.alloc (.cells cs.toArray t)).cell? ((⟨b, 0, none⟩ : Addr).add j) = some u := by
  intro j u hj
  subst hb
  have : ((⟨w.heap.size, 0, none⟩ : Addr).add j) = ⟨w.heap.size, j, none⟩ := by cases j <;> simp [Addr.add]
  rw [this]
  simp only [World.cell?, World.alloc_heap_new]
  simpa using hj
theorem boxed_own {β : Type} (B : Nat) (t : TypeId) (v : Value) : Own (fun (_ : β) W => Boxed W B t v) := by
  rintro _ W W' row h hg hr
  refine h.kept hg fun e => ?_
  obtain ⟨o, ho, hc⟩ := hr B e.symm
  rw [show W.heap[B]? = _ from h] at ho
  cases ho
  cases hc
theorem heap_from {β : Type} (B b : Nat) (o : Obj) (h : b < B) : OwnFrom B (fun (_ : β) W => W.heap[b]? = some o) := by
  rintro _ W W' row hb hg hr
  exact (hg.block b (Array.getElem?_eq_some_iff.1 hb).1 (fun e => by have := (hr b e.symm).1; omega)).trans hb
theorem heap_at_from {β : Type} (B b : Nat) (x : Option Obj) (hx : x.isSome = true) (h : b < B) : OwnFrom B (fun (_ : β) W => W.heap[b]? = x) := by
  obtain ⟨o, rfl⟩ := Option.isSome_iff_exists.1 hx
  exact heap_from B b o h
theorem OwnFrom.all {β γ : Type} {B : Nat} {I : γ → β → World → Prop} (h : ∀ c, OwnFrom B (I c)) : OwnFrom B (fun s W => ∀ c, I c s W) := fun s W W' row hs hg hr c => h c s W W' row (hs c) hg hr
theorem OwnFrom.imp {β : Type} {B : Nat} {I : β → World → Prop} {p : Prop} (h : p → OwnFrom B I) : OwnFrom B (fun s W => p → I s W) := fun s W W' row hs hg hr hp => h hp s W W' row (hs hp) hg hr
theorem row_cells {W : World} {n₀ : Nat} {e : TypeId} {size k : Nat} {v : Value} {xs : List Value} (h : W.ownsRow n₀ e size v k xs) {b : Nat} {o : Obj} (hb : W.heap[b]? = some o) (ho : o.isCells = false) : some b ≠ v.ownBlock := by
  rcases h.2 with ⟨rfl, _⟩ | ⟨g, cap, cur, rfl, _, hgb, _⟩
  · simp [Value.ownBlock]
  · intro e'
    obtain rfl : b = g := by simpa [Value.ownBlock] using e'
    rw [hgb] at hb; cases hb; cases ho
theorem heap_past {W w1 : World} {b B : Nat} {o : Obj} {tmp : Obj} {v v' : Value} (hb : W.heap[b]? = some o) (hr : some b ≠ v.ownBlock) (hgrow : (W.alloc tmp).grownBy w1 v.ownBlock) (hne : b ≠ B) : (w1.setCell ⟨B, 0, none⟩ v').heap[b]? = some o := by
  have hlt := (Array.getElem?_eq_some_iff.1 hb).1
  have h1 : (W.alloc tmp).heap[b]? = some o := (Below.heap_alloc _ _ _ hlt).trans hb
  have h2 : w1.heap[b]? = some o := (hgrow.block b (by simp; omega) hr).trans h1
  exact ((grownBy_setCell' w1 B v').block b (Array.getElem?_eq_some_iff.1 h2).1 (fun e => hne (Option.some.inj e))).trans h2
def plainL (kind : Int) (zs : List Int) (c : Nat) (ws : List Int) : List S24 := ws.flatMap fun x => (othersL zs c).map fun o => (⟨kind, x, o, []⟩ : S24)
theorem plainL_snoc (kind : Int) (zs : List Int) (c : Nat) (ws : List Int) (x : Int) : plainL kind zs c (ws ++ [x]) = plainL kind zs c ws ++ (othersL zs c).map fun o => (⟨kind, x, o, []⟩ : S24) := by
  simp [plainL, List.flatMap_append]
theorem plainL_len (kind : Int) (zs : List Int) (c : Nat) (ws : List Int) : (plainL kind zs c ws).length = ws.length * (othersL zs c).length := by
  simp only [plainL, List.length_flatMap, List.length_map]
  induction ws with
  | nil => simp
  | cons y ys ih => simp only [List.map_cons, List.sum_cons, ih, List.length_cons]; rw [Nat.succ_mul, Nat.add_comm]
theorem plainL_nil3 (kind : Int) (zs : List Int) (c : Nat) (ws : List Int) : ∀ x ∈ plainL kind zs c ws, x.f3 = [] := by
  intro x hx
  simp only [plainL, List.mem_flatMap, List.mem_map] at hx
  obtain ⟨_, _, _, _, rfl⟩ := hx
  rfl
def plainP (kind : Int) (zs : List Int) (c : Nat) (ws : List Int) (x : Int) (pre : List Int) : List S24 := plainL kind zs c ws ++ pre.map fun o => (⟨kind, x, o, []⟩ : S24)
theorem plainP_nil (kind : Int) (zs : List Int) (c : Nat) (ws : List Int) (x : Int) : plainP kind zs c ws x [] = plainL kind zs c ws := by simp [plainP]
theorem plainP_snoc (kind : Int) (zs : List Int) (c : Nat) (ws : List Int) (x : Int) (pre : List Int) (o : Int) : plainP kind zs c ws x (pre ++ [o]) = plainP kind zs c ws x pre ++ [⟨kind, x, o, []⟩] := by simp [plainP]
theorem plainP_done (kind : Int) (zs : List Int) (c : Nat) (ws : List Int) (x : Int) : plainP kind zs c ws x (othersL zs c) = plainL kind zs c (ws ++ [x]) := by rw [plainL_snoc]; rfl
theorem plainP_len (kind : Int) (zs : List Int) (c : Nat) (ws : List Int) (x : Int) (pre : List Int) : (plainP kind zs c ws x pre).length = ws.length * (othersL zs c).length + pre.length := by rw [plainP, List.length_append, List.length_map, plainL_len]
def assert_plain.f (a0 : Int) (l1 : List Int) (a2 : Int) : Option (List (S24)) :=
  if l1.length ≤ 1000 ∧ 0 ≤ a2 ∧ a2 ≤ 1000 then some (plainL a0 l1 a2.toNat l1) else none
theorem info_ass : (Try.prog.info? 24).map (fun i => (i.zero, i.size, i.bytes)) = some (some (.agg #[(.int .u8 0), (.int .i64 0), (.int .i64 0), (.slice none 0 0)]), 4, 48) := by kernel_rfl
/-- What one outer round finds and leaves. -/
structure PlainAt (w : World) (a0 : Int) (l1 : List Int) (c : Nat) (ws : List Int) (dl : List Nat) (W : World) : Prop where
  v : ∃ v, Boxed W (w.heap.size + 1) 35 v ∧ W.ownsRow w.heap.size 24 4 v (plainL a0 l1 c ws).length (flat (plainL a0 l1 c ws))
  b : Boxed W w.heap.size 5 (.int .u8 a0)
  h : Below w.heap.size w W
  nd : dl.Pairwise (fun a b => a ≠ b)
  al : ∀ D ∈ dl, w.heap.size ≤ D ∧ W.heap[D]? = some (.deferred (some []))
set_option maxHeartbeats 4000000 in
set_option maxRecDepth 100000 in
theorem assert_plain.calls (a0 : Int) (A1 : Option Addr) (c1 : Nat) (l1 : List Int) (a2 : Int) (r : List (S24)) (w : World) (hr1 : Kd.C (Kd.int .i64) w A1 l1.length l1) (hc1 : l1.length ≤ c1) (h : assert_plain.f a0 l1 a2 = some r) :
    Calls Try.prog 25 #[.int .u8 a0, .slice A1 l1.length c1, .int .i64 a2] w fun e w' => ∃ v0_ : Value, e = .returned (v0_) ∧ Kd.S k24 24 w' w.heap.size (fun _ => True) v0_ r ∧ Below w.heap.size w w' := by
  unfold assert_plain.f at h
  split at h
  case isFalse => cases h
  rename_i hb
  obtain ⟨hl, h0, h9⟩ := hb
  obtain rfl := Option.some.inj h
  clear h
  obtain ⟨c, rfl⟩ := Int.eq_ofNat_of_zero_le h0
  have hcn : (Int.ofNat c).toNat = c := rfl
  have HR := Aside0.mk hr1
  have HC := Aside0.mk hc1
  clear hr1 hc1
  obtain ⟨i0, hi, hz0, hz1, hz2⟩ := info_parts info_ass
  refine (callsIn_wide (n := 3)).1 (callsIn_of_wp_marks Try.func25 rfl trivial ?_ rfl)
  simp only [Try.ntmps25, List.size_toArray, List.length_cons, List.length_nil, Nat.reduceAdd, Nat.reduceSub, Array.replicate_succ, Array.replicate_zero, List.push_toArray, List.append_toArray, List.nil_append, List.cons_append]
  gi_wp2
  refine wpIn_loop (fun a wr => ∃ (k : Nat) (dl : List Nat) (u8 u13 u14 u15 u16 u17 u18 u27 : Value), k ≤ l1.length ∧ a = { tmps := #[.int .u8 a0, .slice A1 l1.length c1, .int .i64 c, .pointer (some ⟨w.heap.size, 0, none⟩), undef, undef, .pointer (some ⟨w.heap.size + 1, 0, none⟩), undef, u8, undef, .slice A1 l1.length c1, .int .i64 l1.length, .int .i64 k, u13, u14, u15, u16, u17, u18, undef, undef, undef, undef, undef, undef, undef, undef, u27, undef], defers := marksOf dl } ∧ PlainAt w a0 l1 c (l1.take k) dl wr) (fun a _ => l1.length - (intOf (a.tmps.getD 12 undef)).toNat) ?_ ?_
  · refine ⟨0, [], undef, undef, undef, undef, undef, undef, undef, undef, Nat.zero_le _, rfl, ⟨⟨.slice none 0 0, ?_, ?_⟩, ?_, ?_, List.Pairwise.nil, by simp⟩⟩
    · have := Boxed.new (w.alloc (.cells #[.int .u8 a0] 5)) 35 (.slice none 0 0)
      simpa using this
    · simpa [plainL, flat] using World.ownsRow_nil _ _ _ _
    · exact (Boxed.new w 5 (.int .u8 a0)).alloc _
    · exact ((Below.refl _ w).alloc (Nat.le_refl _) _).alloc (by simp) _
  · rintro _ wr ⟨k, dl, u8, u13, u14, u15, u16, u17, u18, u27, hk, rfl, HP⟩
    by_cases hlt : k < l1.length
    · obtain ⟨ad, rfl, hx⟩ := Kd.at_int (Kd.C_below HR.out HP.h) k (by omega) (by omega)
      have hx' : wr.cell? (ad.add k) = some (.int .i64 (rd l1 k)) := hx
      clear hx
      gi_wp2
      refine ⟨trivial, (callsIn_wide.2 (others_calls (some ad) l1.length c1 c _)).mono ?_⟩
      rintro e W4 ⟨rfl, hW4⟩
      have hz : (wr.alloc (.cells #[.int .i64 (rd l1 k)] 3)).heap.size = wr.heap.size + 1 := by simp
      rw [hz]
      obtain ⟨v, hv, hrow⟩ := HP.v
      have q6 : Boxed W4 (w.heap.size + 1) 35 v := by subst hW4; exact ((hv.alloc _).alloc _).alloc _
      have q3 : Boxed W4 w.heap.size 5 (.int .u8 a0) := by subst hW4; exact ((HP.b.alloc _).alloc _).alloc _
      have q8 : Boxed W4 wr.heap.size 3 (.int .i64 (rd l1 k)) := by subst hW4; exact ((Boxed.new wr _ _).alloc _).alloc _
      have qs : Boxed W4 (wr.heap.size + 1) 22 (.slice (some ad) l1.length c1) := by
        subst hW4
        have := (Boxed.new (wr.alloc (.cells #[.int .i64 (rd l1 k)] 3)) 22 (.slice (some ad) l1.length c1)).alloc (.cells #[.int .i64 c] 3)
        rwa [hz] at this
      have qc : Boxed W4 (wr.heap.size + 2) 3 (.int .i64 c) := by
        subst hW4
        have := Boxed.new ((wr.alloc (.cells #[.int .i64 (rd l1 k)] 3)).alloc (.cells #[.slice (some ad) l1.length c1] 22)) 3 (.int .i64 c)
        rw [World.size_alloc, hz] at this
        exact this
      have qr : W4.ownsRow w.heap.size 24 4 v (plainL a0 l1 c (l1.take k)).length (flat (plainL a0 l1 c (l1.take k))) := by subst hW4; exact ((hrow.alloc _).alloc _).alloc _
      have qb : Below w.heap.size w W4 := by subst hW4; exact ((HP.h.alloc HP.h.size _).alloc (by have := HP.h.size; simp; omega) _).alloc (by have := HP.h.size; simp; omega) _
      have qz : W4.heap.size = wr.heap.size + 3 := by subst hW4; simp
      have qd : ∀ D ∈ dl, w.heap.size ≤ D ∧ W4.heap[D]? = some (.deferred (some [])) := fun D hD => ⟨(HP.al D hD).1, by
        have := (HP.al D hD).2
        have hlt := (Array.getElem?_eq_some_iff.1 this).1
        subst hW4
        exact (Below.heap_alloc _ _ _ (by simp; omega)).trans ((Below.heap_alloc _ _ _ (by simp; omega)).trans ((Below.heap_alloc _ _ _ hlt).trans this))⟩
      have qn := HP.h.size
      have qnd := HP.nd
      have qn2 := hv.lt
      clear hW4 hv hrow HP hx'
      gi_wp2
      have hLn : ∀ pre : List Int, pre.length < (othersL l1 c).length → ((plainP a0 l1 c (l1.take k) (rd l1 k) pre).length + 1) * 48 ≤ 140737488355328 := fun pre hp => by
        have e1 := othersL_le l1 c
        rw [plainP_len, List.length_take]
        have e2 : min k l1.length * (othersL l1 c).length ≤ 1000 * 1000 := Nat.mul_le_mul (by omega) (by omega)
        omega
      refine wpIn_rangeFunc_ownG rfl (by decide) (gf := 68) (lb := #[.pointer (some ⟨wr.heap.size + 1 + 1, 0, none⟩), .pointer (some ⟨wr.heap.size + 1, 0, none⟩)]) rfl trivial (enters_of Try.func68 (by kernel_rfl) rfl)
        (others_stops 2 (by decide) (l1.length + 1) (wr.heap.size + 1 + 1) (wr.heap.size + 1) w.heap.size c1 c (some ad) l1 (fun j _ => contains_tells l1 j (by omega)) (by omega) W4 (by omega) (by omega) (by omega) qc.cell qs.cell HC.out ((iter_of_C HR.out).below qb))
        ItKeeps.trans (ItKeeps.putObj (by omega) (by omega)) (Below.refl _ _) (fun _ => rfl)
        (fun pre W => (∃ v, Boxed W (w.heap.size + 1) 35 v ∧ W.ownsRow w.heap.size 24 4 v (plainP a0 l1 c (l1.take k) (rd l1 k) pre).length (flat (plainP a0 l1 c (l1.take k) (rd l1 k) pre)) ∧ True) ∧ (Boxed W w.heap.size 5 (.int .u8 a0) ∧ Boxed W wr.heap.size 3 (.int .i64 (rd l1 k)) ∧ Boxed W (wr.heap.size + 1) 22 (.slice (some ad) l1.length c1)) ∧ Below w.heap.size w W ∧ ∀ D, D ∈ dl → W.heap[D]? = some (.deferred (some [])))
        (fun _ _ _ => False)
        (OwnFrom.and (Own.from (holdsRow_own w.heap.size (w.heap.size + 1) 35 24 4 (fun pre => (plainP a0 l1 c (l1.take k) (rd l1 k) pre).length) (fun pre => flat (plainP a0 l1 c (l1.take k) (rd l1 k) pre)) (fun pre v => True)) _)
          (OwnFrom.and (OwnFrom.and (Own.from (boxed_own _ _ _) _) (OwnFrom.and (Own.from (boxed_own _ _ _) _) (Own.from (boxed_own _ _ _) _))) (OwnFrom.and (ownFrom_below (Nat.le_refl _) (by omega)) (OwnFrom.all fun D => OwnFrom.imp fun hD => heap_from _ _ _ (Array.getElem?_eq_some_iff.1 (qd D hD).2).1))))
        (fun _ _ _ _ _ hs _ _ => hs)
        ⟨⟨v, q6, by rw [plainP_nil]; exact qr, trivial⟩, ⟨q3, q8, qs⟩, qb, fun D hD => (qd D hD).2⟩
        (fun x => { tmps := #[.int .u8 a0, .slice (some ad) l1.length c1, .int .i64 c, .pointer (some ⟨w.heap.size, 0, none⟩), undef, undef, .pointer (some ⟨w.heap.size + 1, 0, none⟩), undef, .pointer (some ⟨wr.heap.size, 0, none⟩), .int .i64 x, .slice (some ad) l1.length c1, .int .i64 l1.length, .int .i64 k, .bool true, .pointer (some (ad.add k)), .int .i64 (rd l1 k), .slice (some ad) l1.length c1, .int .i64 c, .func (.func 68) #[] #[.pointer (some ⟨wr.heap.size + 1 + 1, 0, none⟩), .pointer (some ⟨wr.heap.size + 1, 0, none⟩)], .int .i64 x, undef, undef, undef, undef, undef, undef, undef, u27, undef], defers := [] }) ?assign ?body ?done ?stop
      case assign =>
        intro l x W K hK
        gi_wp2
        exact hK
      case body =>
        rintro l pre x W ⟨⟨v, hv, hrow, _⟩, ⟨b3, b8, bs⟩, hB, hD⟩ hlt'
        have hc := hv.cell
        have hc3 := b3.cell
        have hc8 := b8.cell
        have hLN := hLn pre hlt'
        gi_wp2_with (gi_at_builtin; refine wpListIn_append_own _ rfl _ _ 35 rfl w.heap.size 24 i0 (.agg #[(.int .u8 0), (.int .i64 0), (.int .i64 0), (.slice none 0 0)]) 4 48 Try.underlying35 hi hz0 hz1 hz2 rfl (by decide) _ _ _ rfl (hrow.alloc _) ⟨W.heap.size, 0, none⟩ 1 1 (flat1 ⟨a0, rd l1 k, x, []⟩) rfl rfl (cells_new W (flat1 ⟨a0, rd l1 k, x, []⟩) _ _ rfl) (by simp [flat1, Value.oneCell']) (by simp only [maxLen]; omega) (by omega) (by have := hB.size; simp; omega) ?_; intro v' w1 hown' hgrow _; obtain ⟨g', cap', rfl⟩ := ownsRow_succ hown'; obtain ⟨hv1, hv2, hr2, hk2, hb2⟩ := hv.appended (by decide) hrow hB.size (Nat.le_succ _) hown' hgrow; have hc1 := hv1.cell; have hf1 := hv1.frozen)
        have c3 := heap_past (B := w.heap.size + 1) (v' := .slice (some ⟨g', 0, none⟩) ((plainP a0 l1 c (l1.take k) (rd l1 k) pre).length + 1) cap') b3 (b3.not_row (by decide) hrow) hgrow (by omega)
        have c8 := heap_past (B := w.heap.size + 1) (v' := .slice (some ⟨g', 0, none⟩) ((plainP a0 l1 c (l1.take k) (rd l1 k) pre).length + 1) cap') b8 (b8.not_row (by decide) hrow) hgrow (by omega)
        have cs := heap_past (B := w.heap.size + 1) (v' := .slice (some ⟨g', 0, none⟩) ((plainP a0 l1 c (l1.take k) (rd l1 k) pre).length + 1) cap') bs (bs.not_row (by decide) hrow) hgrow (by omega)
        refine ⟨hk2.from _, ⟨hb2, cs.trans (Eq.symm bs)⟩, ⟨_, hv2, ?_, trivial⟩, ⟨c3, c8, cs⟩, hB.trans hb2, fun D hDm => heap_past (hD D hDm) (row_cells hrow (hD D hDm) rfl) hgrow ?_⟩
        · rw [plainP_snoc, List.length_append, flat_append]
          simpa [flat] using hr2
        · rintro rfl
          have := (hD _ hDm).symm.trans (show W.heap[w.heap.size + 1]? = _ from hv)
          cases this
      case done =>
        rintro D ys W hD rfl ⟨⟨v, hv, hrow, _⟩, ⟨b3, b8, bs⟩, hB, hDs⟩ hK
        gi_wp2
        refine ⟨⟨k + 1, D :: dl, _, _, _, _, _, _, _, _, hlt, rfl, ⟨⟨v, hv, ?_⟩, b3, hB, ?_, ?_⟩⟩, ?_⟩
        · rw [plainP_done, ← take_rd l1 k hlt] at hrow
          exact hrow
        · refine List.pairwise_cons.2 ⟨fun D' hD' e => ?_, qnd⟩
          have := (Array.getElem?_eq_some_iff.1 (qd D' hD').2).1
          omega
        · intro D' hD'
          rcases List.mem_cons.1 hD' with rfl | h'
          · exact ⟨by omega, hK⟩
          · exact ⟨(qd D' h').1, hDs D' h'⟩
        · simp [intOf]; omega
      case stop =>
        rintro D c pre W _ _ h _
        exact h.elim
    · obtain rfl : k = l1.length := by omega
      obtain ⟨v, hv, hrow⟩ := HP.v
      have hc := hv.cell
      have hf := hv.frozen
      obtain ⟨A', n', cap', rfl⟩ : ∃ A' n' cap', v = .slice A' n' cap' := by
        rcases hrow.2 with ⟨rfl, _⟩ | ⟨g, cap, cur, rfl, _⟩ <;> exact ⟨_, _, _, rfl⟩
      gi_wp2
      have hB6 := (hv.set (.slice A' n' cap'))
      have hr6 := hrow.kept (grownBy_setCell' wr (w.heap.size + 1) (.slice A' n' cap')) (.inr (hv.not_row (by decide) hrow).symm)
      have hD6 : ∀ D ∈ dl, (wr.setCell ⟨w.heap.size + 1, 0, none⟩ (.slice A' n' cap')).heap[D]? = some (.deferred (some [])) := fun D hD => by
        have h1 := (HP.al D hD).2
        refine ((grownBy_setCell' wr (w.heap.size + 1) _).block D (Array.getElem?_eq_some_iff.1 h1).1 (fun e => ?_)).trans h1
        obtain rfl := Option.some.inj e
        rw [show wr.heap[w.heap.size + 1]? = _ from hv] at h1
        cases h1
      have hb6 : Below w.heap.size w (wr.setCell ⟨w.heap.size + 1, 0, none⟩ (.slice A' n' cap')) := HP.h.setCell (p := ⟨w.heap.size + 1, 0, none⟩) (Nat.le_succ _) _
      refine leaves_marks dl _ HP.nd hD6 ?_
      intro W' h1 h2 h3 h4
      have hW : Boxed W' (w.heap.size + 1) 35 (.slice A' n' cap') := (h1 _ (fun hm => by
        have := (hD6 _ hm).symm.trans (show (wr.setCell ⟨w.heap.size + 1, 0, none⟩ (.slice A' n' cap')).heap[w.heap.size + 1]? = _ from hB6)
        cases this)).trans hB6
      have hr := hW.cell
      refine ⟨.slice A' n' cap', by simp [results, hr, go_sem, Try.f25], _, rfl, S_of_flat (by have hh := h4 hr6; rw [List.take_length] at hh; exact hh) (plainL_nil3 _ _ _ _), hb6.trans (h3 _ (by simpa using HP.h.size) (fun D hD => (HP.al D hD).1))⟩
end

end Go.Proofs.Ytegdcoamafcfeaa.Pr
