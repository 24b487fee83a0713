-- Written by a program of this session (the kit's print, many functions in one namespace). Not trusted: Lean checks it.
import Derived.Test.YtegdcoamafcfeaaM0
namespace Go.Proofs.Ytegdcoamafcfeaa.Pr
open Go.RowKit Go.Proofs.YtegdcoamafcfeaaW.PrintWords Go.Proofs.YtegdcoamafcfeaaW.PrintLast
set_option linter.unusedVariables false
set_option linter.unusedSimpArgs false
/-! ### suffrageref07_Name: function 69 -/
mutual
def suffrageref07_Name.j0 : Nat → ByteArray → Bool → Option (Bool)
  | 0, _, _ => none
  | k + 1, x0, x11 => if x11 = true then (some false) else (suffrageref07_Name.l0 k x0 0)
def suffrageref07_Name.l0 : Nat → ByteArray → Int → Option (Bool)
  | 0, _, _ => none
  | k + 1, x0, x3 => if x3 < (x0.size : Int) then (if 0 ≤ x3 then (if (bt x0 x3) < 33 then (some false) else (if (bt x0 x3) > 126 then (some false) else (suffrageref07_Name.l0 k x0 (wrap64 (x3 + 1))))) else (none)) else (some true)
end
def suffrageref07_Name.f (k : Nat) (a0 : ByteArray) : Option (Bool) := if (a0.size : Int) < 1 then (suffrageref07_Name.j0 k a0 true) else (suffrageref07_Name.j0 k a0 (decide ((a0.size : Int) > 40)))
theorem suffrageref07_Name.mono_l : ∀ k, (∀ y0 y1, LeO (suffrageref07_Name.j0 k y0 y1) (suffrageref07_Name.j0 (k + 1) y0 y1)) ∧ (∀ y0 y1, LeO (suffrageref07_Name.l0 k y0 y1) (suffrageref07_Name.l0 (k + 1) y0 y1))
  | 0 => ⟨fun _ _ r h => by simp [suffrageref07_Name.j0] at h, fun _ _ r h => by simp [suffrageref07_Name.l0] at h⟩
  | k + 1 => by
    obtain ⟨ih0, ih1⟩ := suffrageref07_Name.mono_l k; refine ⟨?_, ?_⟩
    · intro y0 y1; unfold suffrageref07_Name.j0; repeat' first
      | (with_reducible exact ih0 _ _)
      | (with_reducible exact ih1 _ _)
      | (with_reducible exact LeO.refl _)
      | (with_reducible exact LeO.none _)
      | (with_reducible refine LeO.ite ?_ ?_)
      | (with_reducible refine LeO.bind ?_ (fun _ => ?_))
      | exact ih0 _ _
      | exact ih1 _ _
      | exact LeO.none _
      | refine LeO.ite ?_ ?_
      | refine LeO.bind ?_ (fun _ => ?_)
    · intro y0 y1; unfold suffrageref07_Name.l0; repeat' first
      | (with_reducible exact ih0 _ _)
      | (with_reducible exact ih1 _ _)
      | (with_reducible exact LeO.refl _)
      | (with_reducible exact LeO.none _)
      | (with_reducible refine LeO.ite ?_ ?_)
      | (with_reducible refine LeO.bind ?_ (fun _ => ?_))
      | exact ih0 _ _
      | exact ih1 _ _
      | exact LeO.none _
      | refine LeO.ite ?_ ?_
      | refine LeO.bind ?_ (fun _ => ?_)
theorem suffrageref07_Name.mono : ∀ a0 k, LeO (suffrageref07_Name.f k a0) (suffrageref07_Name.f (k + 1) a0) := by
  intro a0 k; obtain ⟨ih0, ih1⟩ := suffrageref07_Name.mono_l k; unfold suffrageref07_Name.f
  repeat' first
      | (with_reducible exact ih0 _ _)
      | (with_reducible exact ih1 _ _)
      | (with_reducible exact LeO.refl _)
      | (with_reducible exact LeO.none _)
      | (with_reducible refine LeO.ite ?_ ?_)
      | (with_reducible refine LeO.bind ?_ (fun _ => ?_))
      | exact ih0 _ _
      | exact ih1 _ _
      | exact LeO.none _
      | refine LeO.ite ?_ ?_
      | refine LeO.bind ?_ (fun _ => ?_)
set_option maxHeartbeats 8000000 in
set_option maxRecDepth 100000 in
theorem suffrageref07_Name.calls (k : Nat) (a0 : ByteArray) (r : Bool) (w : World) (h : suffrageref07_Name.f k a0 = some r) :
    Calls Try.prog 69 #[.string a0] w fun e w' => e = .returned (.bool r) ∧ Drawn0 w w' := by
  have H : (if (a0.size : Int) < 1 then (suffrageref07_Name.j0 k a0 true) else (suffrageref07_Name.j0 k a0 (decide ((a0.size : Int) > 40)))) = some r := h; clear h; have HC2 := Aside0.mk H; clear H
  go_enter Try.func69, Try.ntmps69
  go_upto_region 1 with (fail)
  go_cut [11] (fun v11 wc => ∃ (kq : Nat) (x11_1 : Bool), v11 = .bool x11_1 ∧ Aside0 (suffrageref07_Name.j0 kq a0 x11_1 = some r) ∧ Aside0 (kq ≤ k) ∧ Drawn0 w wc)
  case first =>
    have H := HC2.out; clear HC2
    by_cases c3 : (a0.size : Int) < 1
    · rw [if_pos c3] at H; have c3b0 : decide ((a0.size : Int) < 1) = true := decide_eq_true c3; have c3b1 : decide (a0.size < 1) = true := decide_eq_true (by omega); clear c3; (first | rw [c3b0] | (simp only [i64_w, i32_w]; rw [c3b0]) | skip); have H' := Aside0.mk H; clear H; go_wp2
      go_meet
      case rel => exact ⟨_, (true), rl_, H', ⟨by first | omega | exact Nat.le_refl _⟩, by repeat (first | exact Drawn0.refl _ | apply Drawn0.step)⟩
    · rw [if_neg c3] at H; have c3b0 : decide ((a0.size : Int) < 1) = false := decide_eq_false c3; have c3b1 : decide (a0.size < 1) = false := decide_eq_false (by omega); clear c3; (first | rw [c3b0] | (simp only [i64_w, i32_w]; rw [c3b0]) | skip); have H' := Aside0.mk H; clear H; go_wp2
      go_meet
      case rel => exact ⟨_, (decide ((a0.size : Int) > 40)), rl_, H', ⟨by first | omega | exact Nat.le_refl _⟩, by repeat (first | exact Drawn0.refl _ | apply Drawn0.step)⟩
  case rest =>
    clear HC2; (try clear p2); (try clear c3); (try clear c3b0); (try clear c3b1); obtain ⟨kq, x11_1, rfl, HA, HJ1, ⟨mc1, rfl⟩⟩ := hcut
    cases kq with
    | zero => exact absurd HA.out (by simp [suffrageref07_Name.j0])
    | succ kj1 =>
      have H := HA.out; clear HA; simp only [suffrageref07_Name.j0] at H
      by_cases c4 : x11_1 = true
      · subst c4
        have H1 : (some false) = some r := by rw [if_pos rfl] at H; exact H
        clear H; have H := H1; clear H1; obtain rfl := Option.some.inj H; go_wp2; go_ret; exact ⟨by first | rfl | (simp; done) | (simp [*]; done), by repeat (first | exact Drawn0.refl _ | apply Drawn0.step)⟩
      · replace c4 := Bool.eq_false_iff.mpr c4; subst c4
        have H1 : (suffrageref07_Name.l0 kj1 a0 0) = some r := by rw [if_neg (show ¬ (false = true) by decide)] at H; exact H
        clear H; have H := H1; clear H1; have H' := Aside0.mk H; clear H; go_wp2
        go_loopg [3] kj1 (fun kq v3 w' => ∃ (x3_2 : Int), v3 = .int .i64 x3_2 ∧ Aside0 (suffrageref07_Name.l0 kq a0 x3_2 = some r) ∧ Aside0 (kq ≤ kj1) ∧ Drawn0 w w')
        case atStart => exact ⟨(0), rl_, H', ⟨Nat.le_refl _⟩, by repeat (first | exact Drawn0.refl _ | apply Drawn0.step)⟩
        case round =>
          clear H'; (try clear c1); (try clear p2); (try clear c3); (try clear c3b0); (try clear c3b1); (try clear c4); (try clear p2); obtain ⟨x3_2, rfl, HA, HK2, ⟨m2, rfl⟩⟩ := hrel
          cases gk with
          | zero => exact absurd HA.out (by simp [suffrageref07_Name.l0])
          | succ k2 =>
            have H := HA.out; clear HA; simp only [suffrageref07_Name.l0] at H
            by_cases c5 : x3_2 < (a0.size : Int)
            · rw [if_pos c5] at H; have c5b0 : decide (x3_2 < (a0.size : Int)) = true := decide_eq_true c5; clear c5
              by_cases c6 : 0 ≤ x3_2
              · rw [if_pos c6] at H; have c6b0 : decide (0 ≤ x3_2) = true := decide_eq_true c6; clear c6
                by_cases c8 : (bt a0 x3_2) < 33
                (· rw [if_pos c8] at H; have c8b0 : decide ((bt a0 x3_2) < 33) = true := decide_eq_true c8; clear c8; obtain rfl := Option.some.inj H; have p7 : 0 ≤ (x3_2 : Int) := of_decide_eq_true as_; have q7 : x3_2 < (a0.size : Int) := of_decide_eq_true as_; have hx7 := bt_at a0 x3_2; replace p7 := eq_true p7; replace q7 := eq_true q7; go_wp2; go_ret; exact ⟨by first | rfl | (simp; done) | (simp [*]; done), by repeat (first | exact Drawn0.refl _ | apply Drawn0.step)⟩)
                · rw [if_neg c8] at H; have c8b0 : decide ((bt a0 x3_2) < 33) = false := decide_eq_false c8; clear c8
                  by_cases c10 : (bt a0 x3_2) > 126
                  (· rw [if_pos c10] at H; have c10b0 : decide (126 < (bt a0 x3_2)) = true := decide_eq_true c10; clear c10; obtain rfl := Option.some.inj H; have p7 : 0 ≤ (x3_2 : Int) := of_decide_eq_true as_; have q7 : x3_2 < (a0.size : Int) := of_decide_eq_true as_; have hx7 := bt_at a0 x3_2; replace p7 := eq_true p7; replace q7 := eq_true q7; have p9 : 0 ≤ (x3_2 : Int) := of_decide_eq_true as_; have q9 : x3_2 < (a0.size : Int) := of_decide_eq_true as_; have hx9 := bt_at a0 x3_2; replace p9 := eq_true p9; replace q9 := eq_true q9; go_wp2; go_ret; exact ⟨by first | rfl | (simp; done) | (simp [*]; done), by repeat (first | exact Drawn0.refl _ | apply Drawn0.step)⟩)
                  · rw [if_neg c10] at H; have c10b0 : decide (126 < (bt a0 x3_2)) = false := decide_eq_false c10; clear c10; have H' := Aside0.mk H; clear H; have p7 : 0 ≤ (x3_2 : Int) := of_decide_eq_true as_; have q7 : x3_2 < (a0.size : Int) := of_decide_eq_true as_; have hx7 := bt_at a0 x3_2; replace p7 := eq_true p7; replace q7 := eq_true q7; have p9 : 0 ≤ (x3_2 : Int) := of_decide_eq_true as_; have q9 : x3_2 < (a0.size : Int) := of_decide_eq_true as_; have hx9 := bt_at a0 x3_2; replace p9 := eq_true p9; replace q9 := eq_true q9; go_wp2; go_roundg k2
                    case measure => have := HJ1.out; have := HK2.out; omega
                    case rel => exact ⟨(wrap64 (x3_2 + 1)), rl_, H', ⟨by have := HJ1.out; have := HK2.out; omega⟩, by repeat (first | exact Drawn0.refl _ | apply Drawn0.step)⟩
              (· rw [if_neg c6] at H; exact absurd H (by simp))
            (· rw [if_neg c5] at H; have c5b0 : decide (x3_2 < (a0.size : Int)) = false := decide_eq_false c5; clear c5; obtain rfl := Option.some.inj H; go_wp2; go_ret; exact ⟨by first | rfl | (simp; done) | (simp [*]; done), by repeat (first | exact Drawn0.refl _ | apply Drawn0.step)⟩)
/-! ### suffrageref07_Is: function 70 -/
def suffrageref07_Is.f (a0 : Int) : Option (Bool) := if a0 ≥ 1 then (some (decide (a0 ≤ 16))) else (some false)
set_option maxHeartbeats 8000000 in
set_option maxRecDepth 100000 in
theorem suffrageref07_Is.calls (a0 : Int) (r : Bool) (w : World) (h : suffrageref07_Is.f a0 = some r) :
    Calls Try.prog 70 #[.int .u8 a0] w fun e w' => e = .returned (.bool r) ∧ Drawn0 w w' := by
  have H : (if a0 ≥ 1 then (some (decide (a0 ≤ 16))) else (some false)) = some r := h; clear h
  by_cases c2 : a0 ≥ 1
  · rw [if_pos c2] at H; have c2b0 : decide (1 ≤ a0) = true := decide_eq_true c2; clear c2; obtain rfl := Option.some.inj H
    go_enter Try.func70, Try.ntmps70
    go_wp2; go_ret; exact ⟨by first | rfl | (simp; done) | (simp [*]; done), by repeat (first | exact Drawn0.refl _ | apply Drawn0.step)⟩
  · rw [if_neg c2] at H; have c2b0 : decide (1 ≤ a0) = false := decide_eq_false c2; clear c2; obtain rfl := Option.some.inj H
    go_enter Try.func70, Try.ntmps70
    go_wp2; go_ret; exact ⟨by first | rfl | (simp; done) | (simp [*]; done), by repeat (first | exact Drawn0.refl _ | apply Drawn0.step)⟩
/-! ### suffrageref07_One: function 71 -/
def suffrageref07_One.f (a0 : Int) : Option (Bool) := if a0 ≥ 5 then (some (decide (a0 ≤ 10))) else (some false)
set_option maxHeartbeats 8000000 in
set_option maxRecDepth 100000 in
theorem suffrageref07_One.calls (a0 : Int) (r : Bool) (w : World) (h : suffrageref07_One.f a0 = some r) :
    Calls Try.prog 71 #[.int .u8 a0] w fun e w' => e = .returned (.bool r) ∧ Drawn0 w w' := by
  have H : (if a0 ≥ 5 then (some (decide (a0 ≤ 10))) else (some false)) = some r := h; clear h
  by_cases c2 : a0 ≥ 5
  · rw [if_pos c2] at H; have c2b0 : decide (5 ≤ a0) = true := decide_eq_true c2; clear c2; obtain rfl := Option.some.inj H
    go_enter Try.func71, Try.ntmps71
    go_wp2; go_ret; exact ⟨by first | rfl | (simp; done) | (simp [*]; done), by repeat (first | exact Drawn0.refl _ | apply Drawn0.step)⟩
  · rw [if_neg c2] at H; have c2b0 : decide (5 ≤ a0) = false := decide_eq_false c2; clear c2; obtain rfl := Option.some.inj H
    go_enter Try.func71, Try.ntmps71
    go_wp2; go_ret; exact ⟨by first | rfl | (simp; done) | (simp [*]; done), by repeat (first | exact Drawn0.refl _ | apply Drawn0.step)⟩
/-! ### suffrageref07_Lists: function 72 -/
def suffrageref07_Lists.f (a0 : Int) : Option (Bool) := if a0 ≥ 14 then (some (decide (a0 ≤ 16))) else (some false)
set_option maxHeartbeats 8000000 in
set_option maxRecDepth 100000 in
theorem suffrageref07_Lists.calls (a0 : Int) (r : Bool) (w : World) (h : suffrageref07_Lists.f a0 = some r) :
    Calls Try.prog 72 #[.int .u8 a0] w fun e w' => e = .returned (.bool r) ∧ Drawn0 w w' := by
  have H : (if a0 ≥ 14 then (some (decide (a0 ≤ 16))) else (some false)) = some r := h; clear h
  by_cases c2 : a0 ≥ 14
  · rw [if_pos c2] at H; have c2b0 : decide (14 ≤ a0) = true := decide_eq_true c2; clear c2; obtain rfl := Option.some.inj H
    go_enter Try.func72, Try.ntmps72
    go_wp2; go_ret; exact ⟨by first | rfl | (simp; done) | (simp [*]; done), by repeat (first | exact Drawn0.refl _ | apply Drawn0.step)⟩
  · rw [if_neg c2] at H; have c2b0 : decide (14 ≤ a0) = false := decide_eq_false c2; clear c2; obtain rfl := Option.some.inj H
    go_enter Try.func72, Try.ntmps72
    go_wp2; go_ret; exact ⟨by first | rfl | (simp; done) | (simp [*]; done), by repeat (first | exact Drawn0.refl _ | apply Drawn0.step)⟩
/-! ### suffrageref07_May: function 55 -/
mutual
def suffrageref07_May.j0 : Nat → Bool → ByteArray → List ByteArray → Int → Int → Option (Bool)
  | 0, _, _, _, _, _ => none
  | k + 1, x36, x322000, x322001, x322002, x322003 => if x36 = true then (some false) else (suffrageref07_May.l0 k 0 x322000 x322001 x322002 x322003)
def suffrageref07_May.l0 : Nat → Int → ByteArray → List ByteArray → Int → Int → Option (Bool)
  | 0, _, _, _, _, _ => none
  | k + 1, x3, x322000, x322001, x322002, x322003 => if x3 < (x322001.length : Int) then (if 0 ≤ x3 then ((suffrageref07_Name.f k (rdOf ByteArray.empty x322001 x3)).bind fun t325 => (if t325 = true then (suffrageref07_May.l1 k x3 0 x322000 x322001 x322002 x322003) else (some false))) else (none)) else ((suffrageref07_One.f x322003).bind fun t328 => (if t328 = true then (some (x322002 == 1)) else ((suffrageref07_Lists.f x322003).bind fun t329 => (if t329 = true then (some true) else (some (decide (x322002 ≤ (x322001.length : Int))))))))
def suffrageref07_May.l1 : Nat → Int → Int → ByteArray → List ByteArray → Int → Int → Option (Bool)
  | 0, _, _, _, _, _, _ => none
  | k + 1, x3, x4, x322000, x322001, x322002, x322003 => if x4 < x3 then (if 0 ≤ x4 then (if x4 < (x322001.length : Int) then (if 0 ≤ x3 then (if x3 < (x322001.length : Int) then (if (rdOf ByteArray.empty x322001 x4).toList = (rdOf ByteArray.empty x322001 x3).toList then (some false) else (suffrageref07_May.l1 k x3 (wrap64 (x4 + 1)) x322000 x322001 x322002 x322003)) else (none)) else (none)) else (none)) else (none)) else (suffrageref07_May.l0 k (wrap64 (x3 + 1)) x322000 x322001 x322002 x322003)
end
def suffrageref07_May.f (k : Nat) (a0_0 : ByteArray) (l0_1 : List ByteArray) (a0_2 : Int) (a0_3 : Int) : Option (Bool) := (suffrageref07_Name.f k a0_0).bind fun t322 => (if t322 = true then (if (l0_1.length : Int) < 1 then (suffrageref07_May.j0 k true a0_0 l0_1 a0_2 a0_3) else (if (l0_1.length : Int) > 10 then (suffrageref07_May.j0 k true a0_0 l0_1 a0_2 a0_3) else ((suffrageref07_Is.f a0_3).bind fun t323 => (if t323 = true then (if a0_2 < 1 then (suffrageref07_May.j0 k true a0_0 l0_1 a0_2 a0_3) else (suffrageref07_May.j0 k (decide (a0_2 > 10)) a0_0 l0_1 a0_2 a0_3)) else (suffrageref07_May.j0 k true a0_0 l0_1 a0_2 a0_3))))) else (suffrageref07_May.j0 k true a0_0 l0_1 a0_2 a0_3))
theorem suffrageref07_May.mono_l : ∀ k, (∀ y0 y1 y2 y3 y4, LeO (suffrageref07_May.j0 k y0 y1 y2 y3 y4) (suffrageref07_May.j0 (k + 1) y0 y1 y2 y3 y4)) ∧ (∀ y0 y1 y2 y3 y4, LeO (suffrageref07_May.l0 k y0 y1 y2 y3 y4) (suffrageref07_May.l0 (k + 1) y0 y1 y2 y3 y4)) ∧ (∀ y0 y1 y2 y3 y4 y5, LeO (suffrageref07_May.l1 k y0 y1 y2 y3 y4 y5) (suffrageref07_May.l1 (k + 1) y0 y1 y2 y3 y4 y5))
  | 0 => ⟨fun _ _ _ _ _ r h => by simp [suffrageref07_May.j0] at h, fun _ _ _ _ _ r h => by simp [suffrageref07_May.l0] at h, fun _ _ _ _ _ _ r h => by simp [suffrageref07_May.l1] at h⟩
  | k + 1 => by
    obtain ⟨ih0, ih1, ih2⟩ := suffrageref07_May.mono_l k; refine ⟨?_, ?_, ?_⟩
    · intro y0 y1 y2 y3 y4; unfold suffrageref07_May.j0; repeat' first
      | (with_reducible exact ih0 _ _ _ _ _)
      | (with_reducible exact ih1 _ _ _ _ _)
      | (with_reducible exact ih2 _ _ _ _ _ _)
      | (with_reducible exact suffrageref07_Name.mono _ _)
      | (with_reducible exact LeO.refl _)
      | (with_reducible exact LeO.none _)
      | (with_reducible refine LeO.ite ?_ ?_)
      | (with_reducible refine LeO.bind ?_ (fun _ => ?_))
      | exact ih0 _ _ _ _ _
      | exact ih1 _ _ _ _ _
      | exact ih2 _ _ _ _ _ _
      | exact suffrageref07_Name.mono _ _
      | exact LeO.none _
      | refine LeO.ite ?_ ?_
      | refine LeO.bind ?_ (fun _ => ?_)
    · intro y0 y1 y2 y3 y4; unfold suffrageref07_May.l0; repeat' first
      | (with_reducible exact ih0 _ _ _ _ _)
      | (with_reducible exact ih1 _ _ _ _ _)
      | (with_reducible exact ih2 _ _ _ _ _ _)
      | (with_reducible exact suffrageref07_Name.mono _ _)
      | (with_reducible exact LeO.refl _)
      | (with_reducible exact LeO.none _)
      | (with_reducible refine LeO.ite ?_ ?_)
      | (with_reducible refine LeO.bind ?_ (fun _ => ?_))
      | exact ih0 _ _ _ _ _
      | exact ih1 _ _ _ _ _
      | exact ih2 _ _ _ _ _ _
      | exact suffrageref07_Name.mono _ _
      | exact LeO.none _
      | refine LeO.ite ?_ ?_
      | refine LeO.bind ?_ (fun _ => ?_)
    · intro y0 y1 y2 y3 y4 y5; unfold suffrageref07_May.l1; repeat' first
      | (with_reducible exact ih0 _ _ _ _ _)
      | (with_reducible exact ih1 _ _ _ _ _)
      | (with_reducible exact ih2 _ _ _ _ _ _)
      | (with_reducible exact suffrageref07_Name.mono _ _)
      | (with_reducible exact LeO.refl _)
      | (with_reducible exact LeO.none _)
      | (with_reducible refine LeO.ite ?_ ?_)
      | (with_reducible refine LeO.bind ?_ (fun _ => ?_))
      | exact ih0 _ _ _ _ _
      | exact ih1 _ _ _ _ _
      | exact ih2 _ _ _ _ _ _
      | exact suffrageref07_Name.mono _ _
      | exact LeO.none _
      | refine LeO.ite ?_ ?_
      | refine LeO.bind ?_ (fun _ => ?_)
theorem suffrageref07_May.mono : ∀ a0 a1 a2 a3 k, LeO (suffrageref07_May.f k a0 a1 a2 a3) (suffrageref07_May.f (k + 1) a0 a1 a2 a3) := by
  intro a0 a1 a2 a3 k; obtain ⟨ih0, ih1, ih2⟩ := suffrageref07_May.mono_l k; unfold suffrageref07_May.f
  repeat' first
      | (with_reducible exact ih0 _ _ _ _ _)
      | (with_reducible exact ih1 _ _ _ _ _)
      | (with_reducible exact ih2 _ _ _ _ _ _)
      | (with_reducible exact suffrageref07_Name.mono _ _)
      | (with_reducible exact LeO.refl _)
      | (with_reducible exact LeO.none _)
      | (with_reducible refine LeO.ite ?_ ?_)
      | (with_reducible refine LeO.bind ?_ (fun _ => ?_))
      | exact ih0 _ _ _ _ _
      | exact ih1 _ _ _ _ _
      | exact ih2 _ _ _ _ _ _
      | exact suffrageref07_Name.mono _ _
      | exact LeO.none _
      | refine LeO.ite ?_ ?_
      | refine LeO.bind ?_ (fun _ => ?_)
set_option maxHeartbeats 8000000 in
set_option maxRecDepth 100000 in
theorem suffrageref07_May.calls (k : Nat) (a0_0 : ByteArray) (A0_1 : Option Addr) (c0_1 : Nat) (l0_1 : List ByteArray) (a0_2 : Int) (a0_3 : Int) (r : Bool) (w : World) (hr0_1 : Kd.C Kd.string w A0_1 l0_1.length l0_1) (hc0_1 : l0_1.length ≤ c0_1) (h : suffrageref07_May.f k a0_0 l0_1 a0_2 a0_3 = some r) :
    Calls Try.prog 55 #[.agg #[.string a0_0, .slice A0_1 l0_1.length c0_1, .int .i64 a0_2, .int .u8 a0_3]] w fun e w' => e = .returned (.bool r) ∧ Below w.heap.size w w' := by
  have hu34 := Try.underlying34; have HR0_1 := Aside0.mk hr0_1; have HC0_1 := Aside0.mk hc0_1; clear hr0_1 hc0_1; have HB := Aside0.mk (Below.refl w.heap.size w); have H : ((suffrageref07_Name.f k a0_0).bind fun t322 => (if t322 = true then (if (l0_1.length : Int) < 1 then (suffrageref07_May.j0 k true a0_0 l0_1 a0_2 a0_3) else (if (l0_1.length : Int) > 10 then (suffrageref07_May.j0 k true a0_0 l0_1 a0_2 a0_3) else ((suffrageref07_Is.f a0_3).bind fun t323 => (if t323 = true then (if a0_2 < 1 then (suffrageref07_May.j0 k true a0_0 l0_1 a0_2 a0_3) else (suffrageref07_May.j0 k (decide (a0_2 > 10)) a0_0 l0_1 a0_2 a0_3)) else (suffrageref07_May.j0 k true a0_0 l0_1 a0_2 a0_3))))) else (suffrageref07_May.j0 k true a0_0 l0_1 a0_2 a0_3))) = some r := h; clear h; have HC2 := Aside0.mk H; clear H
  go_enter Try.func55, Try.ntmps55
  go_upto_region 1 with (first | ((with_reducible refine gate_dst (N := 1) rfl ?_); (try (refine gate_guard (by rfl) ?_; dsimp only)); refine box_event ?hg (N := 1) ?hd (cs := #[.string a0_0, .slice A0_1 l0_1.length c0_1, .int .i64 a0_2, .int .u8 a0_3]) (t := 34) ?hr ?_; (case hd => rfl); (case hg => rfl); (case hr => first | (go_simp; done) | (go_simp; rfl)); intro gb321 hg w3 hbox hb; have n0_ := Aside0.mk (below_step bl_ hb); have n1_ := Aside0.mk (hbox); have n2_ := Aside0.mk ((by rw [hg]; exact (below_size bl_) : w.heap.size ≤ gb321)); have n3_ := Aside0.mk ((by rw [hg]; exact (below_size bl_) : w.heap.size ≤ gb321)); clear HB; have HB := n0_; have BK321 := n1_; have GW321 := n2_; have GE321 := n3_; clear n0_ n1_ n2_ n3_; clear hb hbox hg))
  (repeat (go_quiet (first | ((with_reducible refine gate_dst (N := 1) rfl ?_); (try (refine gate_guard (by rfl) ?_; dsimp only)); refine box_event ?hg (N := 1) ?hd (cs := #[.string a0_0, .slice A0_1 l0_1.length c0_1, .int .i64 a0_2, .int .u8 a0_3]) (t := 34) ?hr ?_; (case hd => rfl); (case hg => rfl); (case hr => first | (go_simp; done) | (go_simp; rfl)); intro gb321 hg w3 hbox hb; have n0_ := Aside0.mk (below_step bl_ hb); have n1_ := Aside0.mk (hbox); have n2_ := Aside0.mk ((by rw [hg]; exact (below_size bl_) : w.heap.size ≤ gb321)); have n3_ := Aside0.mk ((by rw [hg]; exact (below_size bl_) : w.heap.size ≤ gb321)); clear HB; have HB := n0_; have BK321 := n1_; have GW321 := n2_; have GE321 := n3_; clear n0_ n1_ n2_ n3_; clear hb hbox hg)); go_upto_region 1 with (first | ((with_reducible refine gate_dst (N := 1) rfl ?_); (try (refine gate_guard (by rfl) ?_; dsimp only)); refine box_event ?hg (N := 1) ?hd (cs := #[.string a0_0, .slice A0_1 l0_1.length c0_1, .int .i64 a0_2, .int .u8 a0_3]) (t := 34) ?hr ?_; (case hd => rfl); (case hg => rfl); (case hr => first | (go_simp; done) | (go_simp; rfl)); intro gb321 hg w3 hbox hb; have n0_ := Aside0.mk (below_step bl_ hb); have n1_ := Aside0.mk (hbox); have n2_ := Aside0.mk ((by rw [hg]; exact (below_size bl_) : w.heap.size ≤ gb321)); have n3_ := Aside0.mk ((by rw [hg]; exact (below_size bl_) : w.heap.size ≤ gb321)); clear HB; have HB := n0_; have BK321 := n1_; have GW321 := n2_; have GE321 := n3_; clear n0_ n1_ n2_ n3_; clear hb hbox hg)))); (try simp only [Act.put, sA_, sB_, sC_])
  go_cut [36] (fun v36 wc => ∃ (kq : Nat) (x36_1 : Bool), v36 = .bool x36_1 ∧ Aside0 (suffrageref07_May.j0 kq x36_1 a0_0 l0_1 a0_2 a0_3 = some r) ∧ Aside0 (kq ≤ k) ∧ Aside0 (wc.heap[gb321]? = some (.cells #[.string a0_0, (.slice A0_1 l0_1.length c0_1), .int .i64 a0_2, .int .u8 a0_3] 34 (0, 0))) ∧ Aside0 (Below w.heap.size w wc))
  case first =>
    have H := HC2.out; clear HC2; replace H := Option.bind_eq_some_iff.mp H; obtain ⟨t322, A40, H⟩ := H; replace H : (if t322 = true then (if (l0_1.length : Int) < 1 then (suffrageref07_May.j0 k true a0_0 l0_1 a0_2 a0_3) else (if (l0_1.length : Int) > 10 then (suffrageref07_May.j0 k true a0_0 l0_1 a0_2 a0_3) else ((suffrageref07_Is.f a0_3).bind fun t323 => (if t323 = true then (if a0_2 < 1 then (suffrageref07_May.j0 k true a0_0 l0_1 a0_2 a0_3) else (suffrageref07_May.j0 k (decide (a0_2 > 10)) a0_0 l0_1 a0_2 a0_3)) else (suffrageref07_May.j0 k true a0_0 l0_1 a0_2 a0_3))))) else (suffrageref07_May.j0 k true a0_0 l0_1 a0_2 a0_3)) = some r := H; have A4 := Aside0.mk A40; clear A40
    by_cases c5 : t322 = true
    · subst c5
      have H1 : (if (l0_1.length : Int) < 1 then (suffrageref07_May.j0 k true a0_0 l0_1 a0_2 a0_3) else (if (l0_1.length : Int) > 10 then (suffrageref07_May.j0 k true a0_0 l0_1 a0_2 a0_3) else ((suffrageref07_Is.f a0_3).bind fun t323 => (if t323 = true then (if a0_2 < 1 then (suffrageref07_May.j0 k true a0_0 l0_1 a0_2 a0_3) else (suffrageref07_May.j0 k (decide (a0_2 > 10)) a0_0 l0_1 a0_2 a0_3)) else (suffrageref07_May.j0 k true a0_0 l0_1 a0_2 a0_3))))) = some r := by rw [if_pos rfl] at H; exact H
      clear H; have H := H1; clear H1
      by_cases c6 : (l0_1.length : Int) < 1
      · rw [if_pos c6] at H; have c6b0 : decide ((l0_1.length : Int) < 1) = true := decide_eq_true c6; have c6b1 : decide (l0_1.length < 1) = true := decide_eq_true (by omega); clear c6; (first | rw [c6b0] | (simp only [i64_w, i32_w]; rw [c6b0]) | skip); have H' := Aside0.mk H; clear H; have hcz7_0 : w3.cell? ⟨gb321, 0, none⟩ = some (.string a0_0) := (blk_cell BK321.out 0).trans rfl; have hcz7_1 : w3.cell? ⟨gb321, 1, none⟩ = some (.slice A0_1 l0_1.length c0_1) := (blk_cell BK321.out 1).trans rfl; have hcz7_2 : w3.cell? ⟨gb321, 2, none⟩ = some (.int .i64 a0_2) := (blk_cell BK321.out 2).trans rfl; have hcz7_3 : w3.cell? ⟨gb321, 3, none⟩ = some (.int .u8 a0_3) := (blk_cell BK321.out 3).trans rfl; have hfz7_0 := blk_frozen BK321.out 0; have hfz7_1 := blk_frozen BK321.out 1; have hfz7_2 := blk_frozen BK321.out 2; have hfz7_3 := blk_frozen BK321.out 3; go_wp2_with (first | (go_at_call 69; (with_reducible refine (suffrageref07_Name.calls k a0_0 true _ A4.out).mono ?_); rintro e w' ⟨rfl, ⟨nd, rfl⟩⟩; (try exact dr_))); (repeat (go_quiet (first | (go_at_call 69; (with_reducible refine (suffrageref07_Name.calls k a0_0 true _ A4.out).mono ?_); rintro e w' ⟨rfl, ⟨nd, rfl⟩⟩; (try exact dr_))); try go_wp2_with (first | (go_at_call 69; (with_reducible refine (suffrageref07_Name.calls k a0_0 true _ A4.out).mono ?_); rintro e w' ⟨rfl, ⟨nd, rfl⟩⟩; (try exact dr_)))))
        go_meet
        case rel => exact ⟨_, (true), rl_, H', ⟨by first | omega | exact Nat.le_refl _⟩, ⟨by (with_reducible repeat (first | refine blk_drewN ?_ _ | refine blk_drew ?_ | refine blk_alloc ?_ _)); exact BK321.out⟩, ⟨by repeat (first | (with_reducible first | exact HB.out | apply below_alloc | apply pw_below_drewN | apply below_drew1 | refine below_set ?_ GE321.out) | exact HB.out)⟩⟩
      · rw [if_neg c6] at H; have c6b0 : decide ((l0_1.length : Int) < 1) = false := decide_eq_false c6; have c6b1 : decide (l0_1.length < 1) = false := decide_eq_false (by omega); clear c6; (first | rw [c6b0] | (simp only [i64_w, i32_w]; rw [c6b0]) | skip)
        by_cases c8 : (l0_1.length : Int) > 10
        · rw [if_pos c8] at H; have c8b0 : decide (10 < (l0_1.length : Int)) = true := decide_eq_true c8; have c8b1 : decide (10 < l0_1.length) = true := decide_eq_true (by omega); clear c8; have H' := Aside0.mk H; clear H; have hcz9_0 : w3.cell? ⟨gb321, 0, none⟩ = some (.string a0_0) := (blk_cell BK321.out 0).trans rfl; have hcz9_1 : w3.cell? ⟨gb321, 1, none⟩ = some (.slice A0_1 l0_1.length c0_1) := (blk_cell BK321.out 1).trans rfl; have hcz9_2 : w3.cell? ⟨gb321, 2, none⟩ = some (.int .i64 a0_2) := (blk_cell BK321.out 2).trans rfl; have hcz9_3 : w3.cell? ⟨gb321, 3, none⟩ = some (.int .u8 a0_3) := (blk_cell BK321.out 3).trans rfl; have hfz9_0 := blk_frozen BK321.out 0; have hfz9_1 := blk_frozen BK321.out 1; have hfz9_2 := blk_frozen BK321.out 2; have hfz9_3 := blk_frozen BK321.out 3; go_wp2_with (first | (go_at_call 69; (with_reducible refine (suffrageref07_Name.calls k a0_0 true _ A4.out).mono ?_); rintro e w' ⟨rfl, ⟨nd, rfl⟩⟩; (try exact dr_))); (repeat (go_quiet (first | (go_at_call 69; (with_reducible refine (suffrageref07_Name.calls k a0_0 true _ A4.out).mono ?_); rintro e w' ⟨rfl, ⟨nd, rfl⟩⟩; (try exact dr_))); try go_wp2_with (first | (go_at_call 69; (with_reducible refine (suffrageref07_Name.calls k a0_0 true _ A4.out).mono ?_); rintro e w' ⟨rfl, ⟨nd, rfl⟩⟩; (try exact dr_)))))
          go_meet
          case rel => exact ⟨_, (true), rl_, H', ⟨by first | omega | exact Nat.le_refl _⟩, ⟨by (with_reducible repeat (first | refine blk_drewN ?_ _ | refine blk_drew ?_ | refine blk_alloc ?_ _)); exact BK321.out⟩, ⟨by repeat (first | (with_reducible first | exact HB.out | apply below_alloc | apply pw_below_drewN | apply below_drew1 | refine below_set ?_ GE321.out) | exact HB.out)⟩⟩
        · rw [if_neg c8] at H; have c8b0 : decide (10 < (l0_1.length : Int)) = false := decide_eq_false c8; have c8b1 : decide (10 < l0_1.length) = false := decide_eq_false (by omega); clear c8; replace H := Option.bind_eq_some_iff.mp H; obtain ⟨t323, A100, H⟩ := H; replace H : (if t323 = true then (if a0_2 < 1 then (suffrageref07_May.j0 k true a0_0 l0_1 a0_2 a0_3) else (suffrageref07_May.j0 k (decide (a0_2 > 10)) a0_0 l0_1 a0_2 a0_3)) else (suffrageref07_May.j0 k true a0_0 l0_1 a0_2 a0_3)) = some r := H; have A10 := Aside0.mk A100; clear A100
          by_cases c11 : t323 = true
          · subst c11
            have H1 : (if a0_2 < 1 then (suffrageref07_May.j0 k true a0_0 l0_1 a0_2 a0_3) else (suffrageref07_May.j0 k (decide (a0_2 > 10)) a0_0 l0_1 a0_2 a0_3)) = some r := by rw [if_pos rfl] at H; exact H
            clear H; have H := H1; clear H1
            by_cases c12 : a0_2 < 1
            · rw [if_pos c12] at H; have c12b0 : decide (a0_2 < 1) = true := decide_eq_true c12; clear c12; have H' := Aside0.mk H; clear H; have hcz13_0 : w3.cell? ⟨gb321, 0, none⟩ = some (.string a0_0) := (blk_cell BK321.out 0).trans rfl; have hcz13_1 : w3.cell? ⟨gb321, 1, none⟩ = some (.slice A0_1 l0_1.length c0_1) := (blk_cell BK321.out 1).trans rfl; have hcz13_2 : w3.cell? ⟨gb321, 2, none⟩ = some (.int .i64 a0_2) := (blk_cell BK321.out 2).trans rfl; have hcz13_3 : w3.cell? ⟨gb321, 3, none⟩ = some (.int .u8 a0_3) := (blk_cell BK321.out 3).trans rfl; have hfz13_0 := blk_frozen BK321.out 0; have hfz13_1 := blk_frozen BK321.out 1; have hfz13_2 := blk_frozen BK321.out 2; have hfz13_3 := blk_frozen BK321.out 3; go_wp2_with (first | (go_at_call 69; (with_reducible refine (suffrageref07_Name.calls k a0_0 true _ A4.out).mono ?_); rintro e w' ⟨rfl, ⟨nd, rfl⟩⟩; (try exact dr_)) | (go_at_call 70; (with_reducible refine (suffrageref07_Is.calls a0_3 true _ A10.out).mono ?_); rintro e w' ⟨rfl, ⟨nd, rfl⟩⟩; (try exact dr_))); (repeat (go_quiet (first | (go_at_call 69; (with_reducible refine (suffrageref07_Name.calls k a0_0 true _ A4.out).mono ?_); rintro e w' ⟨rfl, ⟨nd, rfl⟩⟩; (try exact dr_)) | (go_at_call 70; (with_reducible refine (suffrageref07_Is.calls a0_3 true _ A10.out).mono ?_); rintro e w' ⟨rfl, ⟨nd, rfl⟩⟩; (try exact dr_))); try go_wp2_with (first | (go_at_call 69; (with_reducible refine (suffrageref07_Name.calls k a0_0 true _ A4.out).mono ?_); rintro e w' ⟨rfl, ⟨nd, rfl⟩⟩; (try exact dr_)) | (go_at_call 70; (with_reducible refine (suffrageref07_Is.calls a0_3 true _ A10.out).mono ?_); rintro e w' ⟨rfl, ⟨nd, rfl⟩⟩; (try exact dr_)))))
              go_meet
              case rel => exact ⟨_, (true), rl_, H', ⟨by first | omega | exact Nat.le_refl _⟩, ⟨by (with_reducible repeat (first | refine blk_drewN ?_ _ | refine blk_drew ?_ | refine blk_alloc ?_ _)); exact BK321.out⟩, ⟨by repeat (first | (with_reducible first | exact HB.out | apply below_alloc | apply pw_below_drewN | apply below_drew1 | refine below_set ?_ GE321.out) | exact HB.out)⟩⟩
            · rw [if_neg c12] at H; have c12b0 : decide (a0_2 < 1) = false := decide_eq_false c12; clear c12; have H' := Aside0.mk H; clear H; have hcz14_0 : w3.cell? ⟨gb321, 0, none⟩ = some (.string a0_0) := (blk_cell BK321.out 0).trans rfl; have hcz14_1 : w3.cell? ⟨gb321, 1, none⟩ = some (.slice A0_1 l0_1.length c0_1) := (blk_cell BK321.out 1).trans rfl; have hcz14_2 : w3.cell? ⟨gb321, 2, none⟩ = some (.int .i64 a0_2) := (blk_cell BK321.out 2).trans rfl; have hcz14_3 : w3.cell? ⟨gb321, 3, none⟩ = some (.int .u8 a0_3) := (blk_cell BK321.out 3).trans rfl; have hfz14_0 := blk_frozen BK321.out 0; have hfz14_1 := blk_frozen BK321.out 1; have hfz14_2 := blk_frozen BK321.out 2; have hfz14_3 := blk_frozen BK321.out 3; go_wp2_with (first | (go_at_call 69; (with_reducible refine (suffrageref07_Name.calls k a0_0 true _ A4.out).mono ?_); rintro e w' ⟨rfl, ⟨nd, rfl⟩⟩; (try exact dr_)) | (go_at_call 70; (with_reducible refine (suffrageref07_Is.calls a0_3 true _ A10.out).mono ?_); rintro e w' ⟨rfl, ⟨nd, rfl⟩⟩; (try exact dr_))); (repeat (go_quiet (first | (go_at_call 69; (with_reducible refine (suffrageref07_Name.calls k a0_0 true _ A4.out).mono ?_); rintro e w' ⟨rfl, ⟨nd, rfl⟩⟩; (try exact dr_)) | (go_at_call 70; (with_reducible refine (suffrageref07_Is.calls a0_3 true _ A10.out).mono ?_); rintro e w' ⟨rfl, ⟨nd, rfl⟩⟩; (try exact dr_))); try go_wp2_with (first | (go_at_call 69; (with_reducible refine (suffrageref07_Name.calls k a0_0 true _ A4.out).mono ?_); rintro e w' ⟨rfl, ⟨nd, rfl⟩⟩; (try exact dr_)) | (go_at_call 70; (with_reducible refine (suffrageref07_Is.calls a0_3 true _ A10.out).mono ?_); rintro e w' ⟨rfl, ⟨nd, rfl⟩⟩; (try exact dr_)))))
              go_meet
              case rel => exact ⟨_, (decide (a0_2 > 10)), rl_, H', ⟨by first | omega | exact Nat.le_refl _⟩, ⟨by (with_reducible repeat (first | refine blk_drewN ?_ _ | refine blk_drew ?_ | refine blk_alloc ?_ _)); exact BK321.out⟩, ⟨by repeat (first | (with_reducible first | exact HB.out | apply below_alloc | apply pw_below_drewN | apply below_drew1 | refine below_set ?_ GE321.out) | exact HB.out)⟩⟩
          · replace c11 := Bool.eq_false_iff.mpr c11; subst c11
            have H1 : (suffrageref07_May.j0 k true a0_0 l0_1 a0_2 a0_3) = some r := by rw [if_neg (show ¬ (false = true) by decide)] at H; exact H
            clear H; have H := H1; clear H1; have H' := Aside0.mk H; clear H; have hcz15_0 : w3.cell? ⟨gb321, 0, none⟩ = some (.string a0_0) := (blk_cell BK321.out 0).trans rfl; have hcz15_1 : w3.cell? ⟨gb321, 1, none⟩ = some (.slice A0_1 l0_1.length c0_1) := (blk_cell BK321.out 1).trans rfl; have hcz15_2 : w3.cell? ⟨gb321, 2, none⟩ = some (.int .i64 a0_2) := (blk_cell BK321.out 2).trans rfl; have hcz15_3 : w3.cell? ⟨gb321, 3, none⟩ = some (.int .u8 a0_3) := (blk_cell BK321.out 3).trans rfl; have hfz15_0 := blk_frozen BK321.out 0; have hfz15_1 := blk_frozen BK321.out 1; have hfz15_2 := blk_frozen BK321.out 2; have hfz15_3 := blk_frozen BK321.out 3; go_wp2_with (first | (go_at_call 69; (with_reducible refine (suffrageref07_Name.calls k a0_0 true _ A4.out).mono ?_); rintro e w' ⟨rfl, ⟨nd, rfl⟩⟩; (try exact dr_)) | (go_at_call 70; (with_reducible refine (suffrageref07_Is.calls a0_3 false _ A10.out).mono ?_); rintro e w' ⟨rfl, ⟨nd, rfl⟩⟩; (try exact dr_))); (repeat (go_quiet (first | (go_at_call 69; (with_reducible refine (suffrageref07_Name.calls k a0_0 true _ A4.out).mono ?_); rintro e w' ⟨rfl, ⟨nd, rfl⟩⟩; (try exact dr_)) | (go_at_call 70; (with_reducible refine (suffrageref07_Is.calls a0_3 false _ A10.out).mono ?_); rintro e w' ⟨rfl, ⟨nd, rfl⟩⟩; (try exact dr_))); try go_wp2_with (first | (go_at_call 69; (with_reducible refine (suffrageref07_Name.calls k a0_0 true _ A4.out).mono ?_); rintro e w' ⟨rfl, ⟨nd, rfl⟩⟩; (try exact dr_)) | (go_at_call 70; (with_reducible refine (suffrageref07_Is.calls a0_3 false _ A10.out).mono ?_); rintro e w' ⟨rfl, ⟨nd, rfl⟩⟩; (try exact dr_)))))
            go_meet
            case rel => exact ⟨_, (true), rl_, H', ⟨by first | omega | exact Nat.le_refl _⟩, ⟨by (with_reducible repeat (first | refine blk_drewN ?_ _ | refine blk_drew ?_ | refine blk_alloc ?_ _)); exact BK321.out⟩, ⟨by repeat (first | (with_reducible first | exact HB.out | apply below_alloc | apply pw_below_drewN | apply below_drew1 | refine below_set ?_ GE321.out) | exact HB.out)⟩⟩
    · replace c5 := Bool.eq_false_iff.mpr c5; subst c5
      have H1 : (suffrageref07_May.j0 k true a0_0 l0_1 a0_2 a0_3) = some r := by rw [if_neg (show ¬ (false = true) by decide)] at H; exact H
      clear H; have H := H1; clear H1; have H' := Aside0.mk H; clear H; have hcz16_0 : w3.cell? ⟨gb321, 0, none⟩ = some (.string a0_0) := (blk_cell BK321.out 0).trans rfl; have hcz16_1 : w3.cell? ⟨gb321, 1, none⟩ = some (.slice A0_1 l0_1.length c0_1) := (blk_cell BK321.out 1).trans rfl; have hcz16_2 : w3.cell? ⟨gb321, 2, none⟩ = some (.int .i64 a0_2) := (blk_cell BK321.out 2).trans rfl; have hcz16_3 : w3.cell? ⟨gb321, 3, none⟩ = some (.int .u8 a0_3) := (blk_cell BK321.out 3).trans rfl; have hfz16_0 := blk_frozen BK321.out 0; have hfz16_1 := blk_frozen BK321.out 1; have hfz16_2 := blk_frozen BK321.out 2; have hfz16_3 := blk_frozen BK321.out 3; go_wp2_with (first | (go_at_call 69; (with_reducible refine (suffrageref07_Name.calls k a0_0 false _ A4.out).mono ?_); rintro e w' ⟨rfl, ⟨nd, rfl⟩⟩; (try exact dr_))); (repeat (go_quiet (first | (go_at_call 69; (with_reducible refine (suffrageref07_Name.calls k a0_0 false _ A4.out).mono ?_); rintro e w' ⟨rfl, ⟨nd, rfl⟩⟩; (try exact dr_))); try go_wp2_with (first | (go_at_call 69; (with_reducible refine (suffrageref07_Name.calls k a0_0 false _ A4.out).mono ?_); rintro e w' ⟨rfl, ⟨nd, rfl⟩⟩; (try exact dr_)))))
      go_meet
      case rel => exact ⟨_, (true), rl_, H', ⟨by first | omega | exact Nat.le_refl _⟩, ⟨by (with_reducible repeat (first | refine blk_drewN ?_ _ | refine blk_drew ?_ | refine blk_alloc ?_ _)); exact BK321.out⟩, ⟨by repeat (first | (with_reducible first | exact HB.out | apply below_alloc | apply pw_below_drewN | apply below_drew1 | refine below_set ?_ GE321.out) | exact HB.out)⟩⟩
  case rest =>
    clear HC2; (try clear c1); (try clear p2); (try clear c5); (try clear c6); (try clear c6b0); (try clear c6b1); (try clear c8); (try clear c8b0); (try clear c8b1); (try clear c11); (try clear c12); (try clear c12b0); (try clear hcz13_0); (try clear hcz13_1); (try clear hcz13_2); (try clear hcz13_3); (try clear hcz14_0); (try clear hcz14_1); (try clear hcz14_2); (try clear hcz14_3); (try clear hcz15_0); (try clear hcz15_1); (try clear hcz15_2); (try clear hcz15_3); (try clear hcz16_0); (try clear hcz16_1); (try clear hcz16_2); (try clear hcz16_3); (try clear hcz7_0); (try clear hcz7_1); (try clear hcz7_2); (try clear hcz7_3); (try clear hcz9_0); (try clear hcz9_1); (try clear hcz9_2); (try clear hcz9_3); (try clear hfz13_0); (try clear hfz13_1); (try clear hfz13_2); (try clear hfz13_3); (try clear hfz14_0); (try clear hfz14_1); (try clear hfz14_2); (try clear hfz14_3); (try clear hfz15_0); (try clear hfz15_1); (try clear hfz15_2); (try clear hfz15_3); (try clear hfz16_0); (try clear hfz16_1); (try clear hfz16_2); (try clear hfz16_3); (try clear hfz7_0); (try clear hfz7_1); (try clear hfz7_2); (try clear hfz7_3); (try clear hfz9_0); (try clear hfz9_1); (try clear hfz9_2); (try clear hfz9_3); obtain ⟨kq, x36_1, rfl, HA, HJ1, BK321, HB⟩ := hcut
    cases kq with
    | zero => exact absurd HA.out (by simp [suffrageref07_May.j0])
    | succ kj1 =>
      have H := HA.out; clear HA; simp only [suffrageref07_May.j0] at H
      by_cases c17 : x36_1 = true
      · subst c17
        have H1 : (some false) = some r := by rw [if_pos rfl] at H; exact H
        clear H; have H := H1; clear H1; obtain rfl := Option.some.inj H; go_wp2; (repeat (go_quiet (fail); try go_wp2)); go_ret; exact ⟨by first | rfl | (simp [errW_none, errW_some] <;> rfl) | (simp [*, errW_none, errW_some] <;> rfl), by repeat (first | (with_reducible first | exact HB.out | apply below_alloc | apply pw_below_drewN | apply below_drew1 | refine below_set ?_ GE321.out) | exact HB.out)⟩
      · replace c17 := Bool.eq_false_iff.mpr c17; subst c17
        have H1 : (suffrageref07_May.l0 kj1 0 a0_0 l0_1 a0_2 a0_3) = some r := by rw [if_neg (show ¬ (false = true) by decide)] at H; exact H
        clear H; have H := H1; clear H1; have H' := Aside0.mk H; clear H; go_wp2; (repeat (go_quiet (fail); try go_wp2))
        go_loopg [3] kj1 (fun kq v3 w' => ∃ (x3_2 : Int), v3 = .int .i64 x3_2 ∧ Aside0 (suffrageref07_May.l0 kq x3_2 a0_0 l0_1 a0_2 a0_3 = some r) ∧ Aside0 (kq ≤ kj1) ∧ Aside0 (w'.heap[gb321]? = some (.cells #[.string a0_0, (.slice A0_1 l0_1.length c0_1), .int .i64 a0_2, .int .u8 a0_3] 34 (0, 0))) ∧ Aside0 (Below w.heap.size w w'))
        case atStart => exact ⟨(0), rl_, H', ⟨Nat.le_refl _⟩, ⟨by (with_reducible repeat (first | refine blk_drewN ?_ _ | refine blk_drew ?_ | refine blk_alloc ?_ _)); exact BK321.out⟩, ⟨by repeat (first | (with_reducible first | exact HB.out | apply below_alloc | apply pw_below_drewN | apply below_drew1 | refine below_set ?_ GE321.out) | exact HB.out)⟩⟩
        case round =>
          clear H'; (try clear c1); (try clear p2); (try clear c5); (try clear c6); (try clear c6b0); (try clear c6b1); (try clear c8); (try clear c8b0); (try clear c8b1); (try clear c11); (try clear c12); (try clear c12b0); (try clear c17); (try clear hcz13_0); (try clear hcz13_1); (try clear hcz13_2); (try clear hcz13_3); (try clear hcz14_0); (try clear hcz14_1); (try clear hcz14_2); (try clear hcz14_3); (try clear hcz15_0); (try clear hcz15_1); (try clear hcz15_2); (try clear hcz15_3); (try clear hcz16_0); (try clear hcz16_1); (try clear hcz16_2); (try clear hcz16_3); (try clear hcz7_0); (try clear hcz7_1); (try clear hcz7_2); (try clear hcz7_3); (try clear hcz9_0); (try clear hcz9_1); (try clear hcz9_2); (try clear hcz9_3); (try clear hfz13_0); (try clear hfz13_1); (try clear hfz13_2); (try clear hfz13_3); (try clear hfz14_0); (try clear hfz14_1); (try clear hfz14_2); (try clear hfz14_3); (try clear hfz15_0); (try clear hfz15_1); (try clear hfz15_2); (try clear hfz15_3); (try clear hfz16_0); (try clear hfz16_1); (try clear hfz16_2); (try clear hfz16_3); (try clear hfz7_0); (try clear hfz7_1); (try clear hfz7_2); (try clear hfz7_3); (try clear hfz9_0); (try clear hfz9_1); (try clear hfz9_2); (try clear hfz9_3); (try clear p2); obtain ⟨x3_2, rfl, HA, HK2, BK321, HB⟩ := hrel
          cases gk with
          | zero => exact absurd HA.out (by simp [suffrageref07_May.l0])
          | succ k2 =>
            have H := HA.out; clear HA; simp only [suffrageref07_May.l0] at H
            by_cases c18 : x3_2 < (l0_1.length : Int)
            · rw [if_pos c18] at H; have c18b0 : decide (x3_2 < (l0_1.length : Int)) = true := decide_eq_true c18; clear c18
              by_cases c19 : 0 ≤ x3_2
              · rw [if_pos c19] at H; have c19b0 : decide (0 ≤ x3_2) = true := decide_eq_true c19; clear c19; replace H := Option.bind_eq_some_iff.mp H; obtain ⟨t325, A200, H⟩ := H; replace H : (if t325 = true then (suffrageref07_May.l1 k2 x3_2 0 a0_0 l0_1 a0_2 a0_3) else (some false)) = some r := H; have A20 := Aside0.mk A200; clear A200
                by_cases c21 : t325 = true
                · subst c21
                  have H1 : (suffrageref07_May.l1 k2 x3_2 0 a0_0 l0_1 a0_2 a0_3) = some r := by rw [if_pos rfl] at H; exact H
                  clear H; have H := H1; clear H1; have H' := Aside0.mk H; clear H; have hcz22_0 : wr.cell? ⟨gb321, 0, none⟩ = some (.string a0_0) := (blk_cell BK321.out 0).trans rfl; have hcz22_1 : wr.cell? ⟨gb321, 1, none⟩ = some (.slice A0_1 l0_1.length c0_1) := (blk_cell BK321.out 1).trans rfl; have hcz22_2 : wr.cell? ⟨gb321, 2, none⟩ = some (.int .i64 a0_2) := (blk_cell BK321.out 2).trans rfl; have hcz22_3 : wr.cell? ⟨gb321, 3, none⟩ = some (.int .u8 a0_3) := (blk_cell BK321.out 3).trans rfl; have hfz22_0 := blk_frozen BK321.out 0; have hfz22_1 := blk_frozen BK321.out 1; have hfz22_2 := blk_frozen BK321.out 2; have hfz22_3 := blk_frozen BK321.out 3; have p324 : 0 ≤ (x3_2 : Int) := of_decide_eq_true as_; have q324 : x3_2 < (l0_1.length : Int) := of_decide_eq_true as_; obtain ⟨ad324, e324, hx324_0⟩ := Kd.at_string HR0_1.out x3_2 p324 q324; cases e324; replace hx324_0 := (HB.out.cell (World.block_lt_of_cell? w _ hx324_0)).trans hx324_0; replace p324 := eq_true p324; replace q324 := eq_true q324; go_wp2_with (first | (go_at_call 69; (with_reducible refine (suffrageref07_Name.calls k2 (rdOf ByteArray.empty l0_1 x3_2) true _ A20.out).mono ?_); rintro e w' ⟨rfl, ⟨nd, rfl⟩⟩; (try exact dr_))); (repeat (go_quiet (first | (go_at_call 69; (with_reducible refine (suffrageref07_Name.calls k2 (rdOf ByteArray.empty l0_1 x3_2) true _ A20.out).mono ?_); rintro e w' ⟨rfl, ⟨nd, rfl⟩⟩; (try exact dr_))); try go_wp2_with (first | (go_at_call 69; (with_reducible refine (suffrageref07_Name.calls k2 (rdOf ByteArray.empty l0_1 x3_2) true _ A20.out).mono ?_); rintro e w' ⟨rfl, ⟨nd, rfl⟩⟩; (try exact dr_)))))
                  go_loopg [4] k2 (fun kq v4 w' => ∃ (x4_3 : Int), v4 = .int .i64 x4_3 ∧ Aside0 (suffrageref07_May.l1 kq x3_2 x4_3 a0_0 l0_1 a0_2 a0_3 = some r) ∧ Aside0 (kq ≤ k2) ∧ Aside0 (w'.heap[gb321]? = some (.cells #[.string a0_0, (.slice (some ad324) l0_1.length c0_1), .int .i64 a0_2, .int .u8 a0_3] 34 (0, 0))) ∧ Aside0 (Below w.heap.size w w'))
                  case atStart => exact ⟨(0), rl_, H', ⟨Nat.le_refl _⟩, ⟨by (with_reducible repeat (first | refine blk_drewN ?_ _ | refine blk_drew ?_ | refine blk_alloc ?_ _)); exact BK321.out⟩, ⟨by repeat (first | (with_reducible first | exact HB.out | apply below_alloc | apply pw_below_drewN | apply below_drew1 | refine below_set ?_ GE321.out) | exact HB.out)⟩⟩
                  case round =>
                    clear H'; (try clear c1); (try clear c2); (try clear p2); (try clear p3); (try clear q3); (try clear hx3); (try clear c5); (try clear c6); (try clear c6b0); (try clear c6b1); (try clear c8); (try clear c8b0); (try clear c8b1); (try clear c11); (try clear c12); (try clear c12b0); (try clear c17); (try clear c18); (try clear c18b0); (try clear c19); (try clear c19b0); (try clear c21); (try clear hcz13_0); (try clear hcz13_1); (try clear hcz13_2); (try clear hcz13_3); (try clear hcz14_0); (try clear hcz14_1); (try clear hcz14_2); (try clear hcz14_3); (try clear hcz15_0); (try clear hcz15_1); (try clear hcz15_2); (try clear hcz15_3); (try clear hcz16_0); (try clear hcz16_1); (try clear hcz16_2); (try clear hcz16_3); (try clear hcz22_0); (try clear hcz22_1); (try clear hcz22_2); (try clear hcz22_3); (try clear hcz7_0); (try clear hcz7_1); (try clear hcz7_2); (try clear hcz7_3); (try clear hcz9_0); (try clear hcz9_1); (try clear hcz9_2); (try clear hcz9_3); (try clear hfz13_0); (try clear hfz13_1); (try clear hfz13_2); (try clear hfz13_3); (try clear hfz14_0); (try clear hfz14_1); (try clear hfz14_2); (try clear hfz14_3); (try clear hfz15_0); (try clear hfz15_1); (try clear hfz15_2); (try clear hfz15_3); (try clear hfz16_0); (try clear hfz16_1); (try clear hfz16_2); (try clear hfz16_3); (try clear hfz22_0); (try clear hfz22_1); (try clear hfz22_2); (try clear hfz22_3); (try clear hfz7_0); (try clear hfz7_1); (try clear hfz7_2); (try clear hfz7_3); (try clear hfz9_0); (try clear hfz9_1); (try clear hfz9_2); (try clear hfz9_3); (try clear hx324_0); (try clear p2); (try clear p324); (try clear q324); obtain ⟨x4_3, rfl, HA, HK3, BK321, HB⟩ := hrel
                    cases gk with
                    | zero => exact absurd HA.out (by simp [suffrageref07_May.l1])
                    | succ k3 =>
                      have H := HA.out; clear HA; simp only [suffrageref07_May.l1] at H
                      by_cases c23 : x4_3 < x3_2
                      · rw [if_pos c23] at H; have c23b0 : decide (x4_3 < x3_2) = true := decide_eq_true c23; clear c23
                        by_cases c24 : 0 ≤ x4_3
                        · rw [if_pos c24] at H; have c24b0 : decide (0 ≤ x4_3) = true := decide_eq_true c24; clear c24
                          by_cases c25 : x4_3 < (l0_1.length : Int)
                          · rw [if_pos c25] at H; have c25b0 : decide (x4_3 < (l0_1.length : Int)) = true := decide_eq_true c25; clear c25
                            by_cases c26 : 0 ≤ x3_2
                            · rw [if_pos c26] at H; have c26b0 : decide (0 ≤ x3_2) = true := decide_eq_true c26; clear c26
                              by_cases c27 : x3_2 < (l0_1.length : Int)
                              · rw [if_pos c27] at H; have c27b0 : decide (x3_2 < (l0_1.length : Int)) = true := decide_eq_true c27; clear c27
                                by_cases c28 : (rdOf ByteArray.empty l0_1 x4_3).toList = (rdOf ByteArray.empty l0_1 x3_2).toList
                                (· rw [if_pos c28] at H; have c28b0 : ((rdOf ByteArray.empty l0_1 x4_3).toList == (rdOf ByteArray.empty l0_1 x3_2).toList) = true := beq_iff_eq.mpr c28; have c28b1 : ((rdOf ByteArray.empty l0_1 x4_3).toList != (rdOf ByteArray.empty l0_1 x3_2).toList) = false := bne_eq_false_iff_eq.mpr c28; clear c28; obtain rfl := Option.some.inj H; have hcz29_0 : wr.cell? ⟨gb321, 0, none⟩ = some (.string a0_0) := (blk_cell BK321.out 0).trans rfl; have hcz29_1 : wr.cell? ⟨gb321, 1, none⟩ = some (.slice (some ad324) l0_1.length c0_1) := (blk_cell BK321.out 1).trans rfl; have hcz29_2 : wr.cell? ⟨gb321, 2, none⟩ = some (.int .i64 a0_2) := (blk_cell BK321.out 2).trans rfl; have hcz29_3 : wr.cell? ⟨gb321, 3, none⟩ = some (.int .u8 a0_3) := (blk_cell BK321.out 3).trans rfl; have hfz29_0 := blk_frozen BK321.out 0; have hfz29_1 := blk_frozen BK321.out 1; have hfz29_2 := blk_frozen BK321.out 2; have hfz29_3 := blk_frozen BK321.out 3; have p326 : 0 ≤ (x4_3 : Int) := of_decide_eq_true as_; have q326 : x4_3 < (l0_1.length : Int) := of_decide_eq_true as_; obtain ⟨ad326, e326, hx326_0⟩ := Kd.at_string HR0_1.out x4_3 p326 q326; obtain rfl : ad324 = ad326 := (by injection e326); replace hx326_0 := (HB.out.cell (World.block_lt_of_cell? w _ hx326_0)).trans hx326_0; replace p326 := eq_true p326; replace q326 := eq_true q326; have p327 : 0 ≤ (x3_2 : Int) := of_decide_eq_true as_; have q327 : x3_2 < (l0_1.length : Int) := of_decide_eq_true as_; obtain ⟨ad327, e327, hx327_0⟩ := Kd.at_string HR0_1.out x3_2 p327 q327; obtain rfl : ad324 = ad327 := (by injection e327); replace hx327_0 := (HB.out.cell (World.block_lt_of_cell? w _ hx327_0)).trans hx327_0; replace p327 := eq_true p327; replace q327 := eq_true q327; go_wp2; (repeat (go_quiet (fail); try go_wp2)); go_ret; exact ⟨by first | rfl | (simp [errW_none, errW_some] <;> rfl) | (simp [*, errW_none, errW_some] <;> rfl), by repeat (first | (with_reducible first | exact HB.out | apply below_alloc | apply pw_below_drewN | apply below_drew1 | refine below_set ?_ GE321.out) | exact HB.out)⟩)
                                · rw [if_neg c28] at H; have c28b0 : ((rdOf ByteArray.empty l0_1 x4_3).toList == (rdOf ByteArray.empty l0_1 x3_2).toList) = false := beq_eq_false_iff_ne.mpr c28; have c28b1 : ((rdOf ByteArray.empty l0_1 x4_3).toList != (rdOf ByteArray.empty l0_1 x3_2).toList) = true := bne_iff_ne.mpr c28; have H' := Aside0.mk H; clear H; have hcz30_0 : wr.cell? ⟨gb321, 0, none⟩ = some (.string a0_0) := (blk_cell BK321.out 0).trans rfl; have hcz30_1 : wr.cell? ⟨gb321, 1, none⟩ = some (.slice (some ad324) l0_1.length c0_1) := (blk_cell BK321.out 1).trans rfl; have hcz30_2 : wr.cell? ⟨gb321, 2, none⟩ = some (.int .i64 a0_2) := (blk_cell BK321.out 2).trans rfl; have hcz30_3 : wr.cell? ⟨gb321, 3, none⟩ = some (.int .u8 a0_3) := (blk_cell BK321.out 3).trans rfl; have hfz30_0 := blk_frozen BK321.out 0; have hfz30_1 := blk_frozen BK321.out 1; have hfz30_2 := blk_frozen BK321.out 2; have hfz30_3 := blk_frozen BK321.out 3; have p326 : 0 ≤ (x4_3 : Int) := of_decide_eq_true as_; have q326 : x4_3 < (l0_1.length : Int) := of_decide_eq_true as_; obtain ⟨ad326, e326, hx326_0⟩ := Kd.at_string HR0_1.out x4_3 p326 q326; obtain rfl : ad324 = ad326 := (by injection e326); replace hx326_0 := (HB.out.cell (World.block_lt_of_cell? w _ hx326_0)).trans hx326_0; replace p326 := eq_true p326; replace q326 := eq_true q326; have p327 : 0 ≤ (x3_2 : Int) := of_decide_eq_true as_; have q327 : x3_2 < (l0_1.length : Int) := of_decide_eq_true as_; obtain ⟨ad327, e327, hx327_0⟩ := Kd.at_string HR0_1.out x3_2 p327 q327; obtain rfl : ad324 = ad327 := (by injection e327); replace hx327_0 := (HB.out.cell (World.block_lt_of_cell? w _ hx327_0)).trans hx327_0; replace p327 := eq_true p327; replace q327 := eq_true q327; go_wp2; (repeat (go_quiet (fail); try go_wp2)); go_roundg k3
                                  case measure => have := HJ1.out; have := HK2.out; have := HK3.out; omega
                                  case rel => exact ⟨(wrap64 (x4_3 + 1)), rl_, H', ⟨by have := HJ1.out; have := HK2.out; have := HK3.out; omega⟩, ⟨by (with_reducible repeat (first | refine blk_drewN ?_ _ | refine blk_drew ?_ | refine blk_alloc ?_ _)); exact BK321.out⟩, ⟨by repeat (first | (with_reducible first | exact HB.out | apply below_alloc | apply pw_below_drewN | apply below_drew1 | refine below_set ?_ GE321.out) | exact HB.out)⟩⟩
                              (· rw [if_neg c27] at H; exact absurd H (by simp))
                            (· rw [if_neg c26] at H; exact absurd H (by simp))
                          (· rw [if_neg c25] at H; exact absurd H (by simp))
                        (· rw [if_neg c24] at H; exact absurd H (by simp))
                      · rw [if_neg c23] at H; have c23b0 : decide (x4_3 < x3_2) = false := decide_eq_false c23; clear c23; have H' := Aside0.mk H; clear H; go_wp2; (repeat (go_quiet (fail); try go_wp2)); go_roundg k3
                        case measure => have := HJ1.out; have := HK2.out; have := HK3.out; omega
                        case rel => exact ⟨(wrap64 (x3_2 + 1)), rl_, H', ⟨by have := HJ1.out; have := HK2.out; have := HK3.out; omega⟩, ⟨by (with_reducible repeat (first | refine blk_drewN ?_ _ | refine blk_drew ?_ | refine blk_alloc ?_ _)); exact BK321.out⟩, ⟨by repeat (first | (with_reducible first | exact HB.out | apply below_alloc | apply pw_below_drewN | apply below_drew1 | refine below_set ?_ GE321.out) | exact HB.out)⟩⟩
                · replace c21 := Bool.eq_false_iff.mpr c21; subst c21
                  have H1 : (some false) = some r := by rw [if_neg (show ¬ (false = true) by decide)] at H; exact H
                  clear H; have H := H1; clear H1; obtain rfl := Option.some.inj H; have hcz31_0 : wr.cell? ⟨gb321, 0, none⟩ = some (.string a0_0) := (blk_cell BK321.out 0).trans rfl; have hcz31_1 : wr.cell? ⟨gb321, 1, none⟩ = some (.slice A0_1 l0_1.length c0_1) := (blk_cell BK321.out 1).trans rfl; have hcz31_2 : wr.cell? ⟨gb321, 2, none⟩ = some (.int .i64 a0_2) := (blk_cell BK321.out 2).trans rfl; have hcz31_3 : wr.cell? ⟨gb321, 3, none⟩ = some (.int .u8 a0_3) := (blk_cell BK321.out 3).trans rfl; have hfz31_0 := blk_frozen BK321.out 0; have hfz31_1 := blk_frozen BK321.out 1; have hfz31_2 := blk_frozen BK321.out 2; have hfz31_3 := blk_frozen BK321.out 3; have p324 : 0 ≤ (x3_2 : Int) := of_decide_eq_true as_; have q324 : x3_2 < (l0_1.length : Int) := of_decide_eq_true as_; obtain ⟨ad324, e324, hx324_0⟩ := Kd.at_string HR0_1.out x3_2 p324 q324; cases e324; replace hx324_0 := (HB.out.cell (World.block_lt_of_cell? w _ hx324_0)).trans hx324_0; replace p324 := eq_true p324; replace q324 := eq_true q324; go_wp2_with (first | (go_at_call 69; (with_reducible refine (suffrageref07_Name.calls k2 (rdOf ByteArray.empty l0_1 x3_2) false _ A20.out).mono ?_); rintro e w' ⟨rfl, ⟨nd, rfl⟩⟩; (try exact dr_))); (repeat (go_quiet (first | (go_at_call 69; (with_reducible refine (suffrageref07_Name.calls k2 (rdOf ByteArray.empty l0_1 x3_2) false _ A20.out).mono ?_); rintro e w' ⟨rfl, ⟨nd, rfl⟩⟩; (try exact dr_))); try go_wp2_with (first | (go_at_call 69; (with_reducible refine (suffrageref07_Name.calls k2 (rdOf ByteArray.empty l0_1 x3_2) false _ A20.out).mono ?_); rintro e w' ⟨rfl, ⟨nd, rfl⟩⟩; (try exact dr_))))); go_ret; exact ⟨by first | rfl | (simp [errW_none, errW_some] <;> rfl) | (simp [*, errW_none, errW_some] <;> rfl), by repeat (first | (with_reducible first | exact HB.out | apply below_alloc | apply pw_below_drewN | apply below_drew1 | refine below_set ?_ GE321.out) | exact HB.out)⟩
              (· rw [if_neg c19] at H; exact absurd H (by simp))
            · rw [if_neg c18] at H; have c18b0 : decide (x3_2 < (l0_1.length : Int)) = false := decide_eq_false c18; clear c18; replace H := Option.bind_eq_some_iff.mp H; obtain ⟨t328, A320, H⟩ := H; replace H : (if t328 = true then (some (a0_2 == 1)) else ((suffrageref07_Lists.f a0_3).bind fun t329 => (if t329 = true then (some true) else (some (decide (a0_2 ≤ (l0_1.length : Int))))))) = some r := H; have A32 := Aside0.mk A320; clear A320
              by_cases c33 : t328 = true
              · subst c33
                have H1 : (some (a0_2 == 1)) = some r := by rw [if_pos rfl] at H; exact H
                clear H; have H := H1; clear H1; obtain rfl := Option.some.inj H; have hcz34_0 : wr.cell? ⟨gb321, 0, none⟩ = some (.string a0_0) := (blk_cell BK321.out 0).trans rfl; have hcz34_1 : wr.cell? ⟨gb321, 1, none⟩ = some (.slice A0_1 l0_1.length c0_1) := (blk_cell BK321.out 1).trans rfl; have hcz34_2 : wr.cell? ⟨gb321, 2, none⟩ = some (.int .i64 a0_2) := (blk_cell BK321.out 2).trans rfl; have hcz34_3 : wr.cell? ⟨gb321, 3, none⟩ = some (.int .u8 a0_3) := (blk_cell BK321.out 3).trans rfl; have hfz34_0 := blk_frozen BK321.out 0; have hfz34_1 := blk_frozen BK321.out 1; have hfz34_2 := blk_frozen BK321.out 2; have hfz34_3 := blk_frozen BK321.out 3; go_wp2_with (first | (go_at_call 71; (with_reducible refine (suffrageref07_One.calls a0_3 true _ A32.out).mono ?_); rintro e w' ⟨rfl, ⟨nd, rfl⟩⟩; (try exact dr_))); (repeat (go_quiet (first | (go_at_call 71; (with_reducible refine (suffrageref07_One.calls a0_3 true _ A32.out).mono ?_); rintro e w' ⟨rfl, ⟨nd, rfl⟩⟩; (try exact dr_))); try go_wp2_with (first | (go_at_call 71; (with_reducible refine (suffrageref07_One.calls a0_3 true _ A32.out).mono ?_); rintro e w' ⟨rfl, ⟨nd, rfl⟩⟩; (try exact dr_))))); go_ret; exact ⟨by first | rfl | (simp [errW_none, errW_some] <;> rfl) | (simp [*, errW_none, errW_some] <;> rfl), by repeat (first | (with_reducible first | exact HB.out | apply below_alloc | apply pw_below_drewN | apply below_drew1 | refine below_set ?_ GE321.out) | exact HB.out)⟩
              · replace c33 := Bool.eq_false_iff.mpr c33; subst c33
                have H1 : ((suffrageref07_Lists.f a0_3).bind fun t329 => (if t329 = true then (some true) else (some (decide (a0_2 ≤ (l0_1.length : Int)))))) = some r := by rw [if_neg (show ¬ (false = true) by decide)] at H; exact H
                clear H; have H := H1; clear H1; replace H := Option.bind_eq_some_iff.mp H; obtain ⟨t329, A350, H⟩ := H; replace H : (if t329 = true then (some true) else (some (decide (a0_2 ≤ (l0_1.length : Int))))) = some r := H; have A35 := Aside0.mk A350; clear A350
                by_cases c36 : t329 = true
                · subst c36
                  have H1 : (some true) = some r := by rw [if_pos rfl] at H; exact H
                  clear H; have H := H1; clear H1; obtain rfl := Option.some.inj H; have hcz37_0 : wr.cell? ⟨gb321, 0, none⟩ = some (.string a0_0) := (blk_cell BK321.out 0).trans rfl; have hcz37_1 : wr.cell? ⟨gb321, 1, none⟩ = some (.slice A0_1 l0_1.length c0_1) := (blk_cell BK321.out 1).trans rfl; have hcz37_2 : wr.cell? ⟨gb321, 2, none⟩ = some (.int .i64 a0_2) := (blk_cell BK321.out 2).trans rfl; have hcz37_3 : wr.cell? ⟨gb321, 3, none⟩ = some (.int .u8 a0_3) := (blk_cell BK321.out 3).trans rfl; have hfz37_0 := blk_frozen BK321.out 0; have hfz37_1 := blk_frozen BK321.out 1; have hfz37_2 := blk_frozen BK321.out 2; have hfz37_3 := blk_frozen BK321.out 3; go_wp2_with (first | (go_at_call 71; (with_reducible refine (suffrageref07_One.calls a0_3 false _ A32.out).mono ?_); rintro e w' ⟨rfl, ⟨nd, rfl⟩⟩; (try exact dr_)) | (go_at_call 72; (with_reducible refine (suffrageref07_Lists.calls a0_3 true _ A35.out).mono ?_); rintro e w' ⟨rfl, ⟨nd, rfl⟩⟩; (try exact dr_))); (repeat (go_quiet (first | (go_at_call 71; (with_reducible refine (suffrageref07_One.calls a0_3 false _ A32.out).mono ?_); rintro e w' ⟨rfl, ⟨nd, rfl⟩⟩; (try exact dr_)) | (go_at_call 72; (with_reducible refine (suffrageref07_Lists.calls a0_3 true _ A35.out).mono ?_); rintro e w' ⟨rfl, ⟨nd, rfl⟩⟩; (try exact dr_))); try go_wp2_with (first | (go_at_call 71; (with_reducible refine (suffrageref07_One.calls a0_3 false _ A32.out).mono ?_); rintro e w' ⟨rfl, ⟨nd, rfl⟩⟩; (try exact dr_)) | (go_at_call 72; (with_reducible refine (suffrageref07_Lists.calls a0_3 true _ A35.out).mono ?_); rintro e w' ⟨rfl, ⟨nd, rfl⟩⟩; (try exact dr_))))); go_ret; exact ⟨by first | rfl | (simp [errW_none, errW_some] <;> rfl) | (simp [*, errW_none, errW_some] <;> rfl), by repeat (first | (with_reducible first | exact HB.out | apply below_alloc | apply pw_below_drewN | apply below_drew1 | refine below_set ?_ GE321.out) | exact HB.out)⟩
                · replace c36 := Bool.eq_false_iff.mpr c36; subst c36
                  have H1 : (some (decide (a0_2 ≤ (l0_1.length : Int)))) = some r := by rw [if_neg (show ¬ (false = true) by decide)] at H; exact H
                  clear H; have H := H1; clear H1; obtain rfl := Option.some.inj H; have hcz38_0 : wr.cell? ⟨gb321, 0, none⟩ = some (.string a0_0) := (blk_cell BK321.out 0).trans rfl; have hcz38_1 : wr.cell? ⟨gb321, 1, none⟩ = some (.slice A0_1 l0_1.length c0_1) := (blk_cell BK321.out 1).trans rfl; have hcz38_2 : wr.cell? ⟨gb321, 2, none⟩ = some (.int .i64 a0_2) := (blk_cell BK321.out 2).trans rfl; have hcz38_3 : wr.cell? ⟨gb321, 3, none⟩ = some (.int .u8 a0_3) := (blk_cell BK321.out 3).trans rfl; have hfz38_0 := blk_frozen BK321.out 0; have hfz38_1 := blk_frozen BK321.out 1; have hfz38_2 := blk_frozen BK321.out 2; have hfz38_3 := blk_frozen BK321.out 3; go_wp2_with (first | (go_at_call 71; (with_reducible refine (suffrageref07_One.calls a0_3 false _ A32.out).mono ?_); rintro e w' ⟨rfl, ⟨nd, rfl⟩⟩; (try exact dr_)) | (go_at_call 72; (with_reducible refine (suffrageref07_Lists.calls a0_3 false _ A35.out).mono ?_); rintro e w' ⟨rfl, ⟨nd, rfl⟩⟩; (try exact dr_))); (repeat (go_quiet (first | (go_at_call 71; (with_reducible refine (suffrageref07_One.calls a0_3 false _ A32.out).mono ?_); rintro e w' ⟨rfl, ⟨nd, rfl⟩⟩; (try exact dr_)) | (go_at_call 72; (with_reducible refine (suffrageref07_Lists.calls a0_3 false _ A35.out).mono ?_); rintro e w' ⟨rfl, ⟨nd, rfl⟩⟩; (try exact dr_))); try go_wp2_with (first | (go_at_call 71; (with_reducible refine (suffrageref07_One.calls a0_3 false _ A32.out).mono ?_); rintro e w' ⟨rfl, ⟨nd, rfl⟩⟩; (try exact dr_)) | (go_at_call 72; (with_reducible refine (suffrageref07_Lists.calls a0_3 false _ A35.out).mono ?_); rintro e w' ⟨rfl, ⟨nd, rfl⟩⟩; (try exact dr_))))); go_ret; exact ⟨by first | rfl | (simp [errW_none, errW_some] <;> rfl) | (simp [*, errW_none, errW_some] <;> rfl), by repeat (first | (with_reducible first | exact HB.out | apply below_alloc | apply pw_below_drewN | apply below_drew1 | refine below_set ?_ GE321.out) | exact HB.out)⟩
/-! ### suffrageref07_Check: function 30 -/
def suffrageref07_Check.f (k : Nat) (a0_0 : ByteArray) (l0_1 : List ByteArray) (a0_2 : Int) (a0_3 : Int) : Option (Int) := if (l0_1.length : Int) > 10 then (some 4) else ((suffrageref07_May.f k a0_0 l0_1 a0_2 a0_3).bind fun t331 => (if t331 = true then (some 0) else (some 8)))
theorem suffrageref07_Check.mono : ∀ a0 a1 a2 a3 k, LeO (suffrageref07_Check.f k a0 a1 a2 a3) (suffrageref07_Check.f (k + 1) a0 a1 a2 a3) := by
  intro a0 a1 a2 a3 k; unfold suffrageref07_Check.f
  repeat' first
      | (with_reducible exact suffrageref07_May.mono _ _ _ _ _)
      | (with_reducible exact LeO.refl _)
      | (with_reducible exact LeO.none _)
      | (with_reducible refine LeO.ite ?_ ?_)
      | (with_reducible refine LeO.bind ?_ (fun _ => ?_))
      | exact suffrageref07_May.mono _ _ _ _ _
      | exact LeO.none _
      | refine LeO.ite ?_ ?_
      | refine LeO.bind ?_ (fun _ => ?_)
set_option maxHeartbeats 8000000 in
set_option maxRecDepth 100000 in
theorem suffrageref07_Check.calls (k : Nat) (a0_0 : ByteArray) (A0_1 : Option Addr) (c0_1 : Nat) (l0_1 : List ByteArray) (a0_2 : Int) (a0_3 : Int) (r : Int) (w : World) (hr0_1 : Kd.C Kd.string w A0_1 l0_1.length l0_1) (hc0_1 : l0_1.length ≤ c0_1) (h : suffrageref07_Check.f k a0_0 l0_1 a0_2 a0_3 = some r) :
    Calls Try.prog 30 #[.agg #[.string a0_0, .slice A0_1 l0_1.length c0_1, .int .i64 a0_2, .int .u8 a0_3]] w fun e w' => e = .returned (.int .i64 r) ∧ Below w.heap.size w w' := by
  have hu34 := Try.underlying34; have HR0_1 := Aside0.mk hr0_1; have HC0_1 := Aside0.mk hc0_1; clear hr0_1 hc0_1; have HB := Aside0.mk (Below.refl w.heap.size w); have H : (if (l0_1.length : Int) > 10 then (some 4) else ((suffrageref07_May.f k a0_0 l0_1 a0_2 a0_3).bind fun t331 => (if t331 = true then (some 0) else (some 8)))) = some r := h; clear h
  by_cases c2 : (l0_1.length : Int) > 10
  · rw [if_pos c2] at H; have c2b0 : decide (10 < (l0_1.length : Int)) = true := decide_eq_true c2; have c2b1 : decide (10 < l0_1.length) = true := decide_eq_true (by omega); clear c2; obtain rfl := Option.some.inj H
    go_enter Try.func30, Try.ntmps30
    go_wp2_with (first | ((with_reducible refine gate_dst (N := 1) rfl ?_); refine box_event ?hg (N := 1) ?hd (cs := #[.string a0_0, .slice A0_1 l0_1.length c0_1, .int .i64 a0_2, .int .u8 a0_3]) (t := 34) ?hr ?_; (case hd => rfl); (case hg => rfl); (case hr => first | (go_simp; done) | (go_simp; rfl)); intro gb330 hg w3 hbox hb; have n0_ := Aside0.mk (below_step bl_ hb); have n1_ := Aside0.mk (hbox); have n2_ := Aside0.mk ((by rw [hg]; exact (below_size bl_) : w.heap.size ≤ gb330)); have n3_ := Aside0.mk ((by rw [hg]; exact (below_size bl_) : w.heap.size ≤ gb330)); clear HB; have HB := n0_; have BK330 := n1_; have GW330 := n2_; have GE330 := n3_; clear n0_ n1_ n2_ n3_; clear hb hbox hg; have hcz4_0 : w3.cell? ⟨gb330, 0, none⟩ = some (.string a0_0) := (blk_cell BK330.out 0).trans rfl; have hcz4_1 : w3.cell? ⟨gb330, 1, none⟩ = some (.slice A0_1 l0_1.length c0_1) := (blk_cell BK330.out 1).trans rfl; have hcz4_2 : w3.cell? ⟨gb330, 2, none⟩ = some (.int .i64 a0_2) := (blk_cell BK330.out 2).trans rfl; have hcz4_3 : w3.cell? ⟨gb330, 3, none⟩ = some (.int .u8 a0_3) := (blk_cell BK330.out 3).trans rfl; have hfz4_0 := blk_frozen BK330.out 0; have hfz4_1 := blk_frozen BK330.out 1; have hfz4_2 := blk_frozen BK330.out 2; have hfz4_3 := blk_frozen BK330.out 3)); go_ret; exact ⟨by first | rfl | (simp [errW_none, errW_some] <;> rfl) | (simp [*, errW_none, errW_some] <;> rfl), by repeat (first | (with_reducible first | exact HB.out | apply below_alloc | apply pw_below_drewN | apply below_drew1 | refine below_set ?_ GE330.out) | exact HB.out)⟩
  · rw [if_neg c2] at H; have c2b0 : decide (10 < (l0_1.length : Int)) = false := decide_eq_false c2; have c2b1 : decide (10 < l0_1.length) = false := decide_eq_false (by omega); clear c2; replace H := Option.bind_eq_some_iff.mp H; obtain ⟨t331, A50, H⟩ := H; replace H : (if t331 = true then (some 0) else (some 8)) = some r := H; have A5 := Aside0.mk A50; clear A50
    by_cases c6 : t331 = true
    · subst c6
      have H1 : (some 0) = some r := by rw [if_pos rfl] at H; exact H
      clear H; have H := H1; clear H1; obtain rfl := Option.some.inj H
      go_enter Try.func30, Try.ntmps30
      go_wp2_with (first | ((with_reducible refine gate_dst (N := 1) rfl ?_); refine box_event ?hg (N := 1) ?hd (cs := #[.string a0_0, .slice A0_1 l0_1.length c0_1, .int .i64 a0_2, .int .u8 a0_3]) (t := 34) ?hr ?_; (case hd => rfl); (case hg => rfl); (case hr => first | (go_simp; done) | (go_simp; rfl)); intro gb330 hg w7 hbox hb; have n0_ := Aside0.mk (below_step bl_ hb); have n1_ := Aside0.mk (hbox); have n2_ := Aside0.mk ((by rw [hg]; exact (below_size bl_) : w.heap.size ≤ gb330)); have n3_ := Aside0.mk ((by rw [hg]; exact (below_size bl_) : w.heap.size ≤ gb330)); clear HB; have HB := n0_; have BK330 := n1_; have GW330 := n2_; have GE330 := n3_; clear n0_ n1_ n2_ n3_; clear hb hbox hg; have hcz8_0 : w7.cell? ⟨gb330, 0, none⟩ = some (.string a0_0) := (blk_cell BK330.out 0).trans rfl; have hcz8_1 : w7.cell? ⟨gb330, 1, none⟩ = some (.slice A0_1 l0_1.length c0_1) := (blk_cell BK330.out 1).trans rfl; have hcz8_2 : w7.cell? ⟨gb330, 2, none⟩ = some (.int .i64 a0_2) := (blk_cell BK330.out 2).trans rfl; have hcz8_3 : w7.cell? ⟨gb330, 3, none⟩ = some (.int .u8 a0_3) := (blk_cell BK330.out 3).trans rfl; have hfz8_0 := blk_frozen BK330.out 0; have hfz8_1 := blk_frozen BK330.out 1; have hfz8_2 := blk_frozen BK330.out 2; have hfz8_3 := blk_frozen BK330.out 3) | ((with_reducible refine gate_callee (f := 55) rfl ?_); refine goesL_ (some 8) rfl rfl Try.func55 kr_ rfl #[.agg #[.string a0_0, .slice A0_1 l0_1.length c0_1, .int .i64 a0_2, .int .u8 a0_3]] rfl ar_ ?_; (with_reducible refine (suffrageref07_May.calls k a0_0 _ _ l0_1 a0_2 a0_3 true _ ?side1 ?side2 A5.out).mono ?_); (case side1 => repeat (first | exact (Kd.C_below HR0_1.out HB.out) | (with_reducible refine Kd.C_alloc ?_ _) | (with_reducible refine Kd.C_drewN ?_ _) | (with_reducible refine Kd.C_drew ?_))); (case side2 => exact HC0_1.out); rintro e w9 ⟨rfl, hb⟩; refine ⟨_, rfl, ?_⟩; have n0_ := Aside0.mk (blk_below (g := gb330) (o := .cells #[.string a0_0, .slice A0_1 l0_1.length c0_1, .int .i64 a0_2, .int .u8 a0_3] 34 (0, 0)) (by (with_reducible repeat (first | refine blk_drewN ?_ _ | refine blk_drew ?_ | refine blk_alloc ?_ _)); exact BK330.out) hb); have n1_ := Aside0.mk (below_step (by repeat (first | (with_reducible first | exact HB.out | apply below_alloc | apply pw_below_drewN | apply below_drew1 | refine below_set ?_ GE330.out) | exact HB.out)) hb); clear BK330; clear HB; have BK330 := n0_; have HB := n1_; clear n0_ n1_; (try clear hb); (try clear hb2); (try clear hk); (try clear hi))); go_ret; exact ⟨by first | rfl | (simp [errW_none, errW_some] <;> rfl) | (simp [*, errW_none, errW_some] <;> rfl), by repeat (first | (with_reducible first | exact HB.out | apply below_alloc | apply pw_below_drewN | apply below_drew1 | refine below_set ?_ GE330.out) | exact HB.out)⟩
    · replace c6 := Bool.eq_false_iff.mpr c6; subst c6
      have H1 : (some 8) = some r := by rw [if_neg (show ¬ (false = true) by decide)] at H; exact H
      clear H; have H := H1; clear H1; obtain rfl := Option.some.inj H
      go_enter Try.func30, Try.ntmps30
      go_wp2_with (first | ((with_reducible refine gate_dst (N := 1) rfl ?_); refine box_event ?hg (N := 1) ?hd (cs := #[.string a0_0, .slice A0_1 l0_1.length c0_1, .int .i64 a0_2, .int .u8 a0_3]) (t := 34) ?hr ?_; (case hd => rfl); (case hg => rfl); (case hr => first | (go_simp; done) | (go_simp; rfl)); intro gb330 hg w10 hbox hb; have n0_ := Aside0.mk (below_step bl_ hb); have n1_ := Aside0.mk (hbox); have n2_ := Aside0.mk ((by rw [hg]; exact (below_size bl_) : w.heap.size ≤ gb330)); have n3_ := Aside0.mk ((by rw [hg]; exact (below_size bl_) : w.heap.size ≤ gb330)); clear HB; have HB := n0_; have BK330 := n1_; have GW330 := n2_; have GE330 := n3_; clear n0_ n1_ n2_ n3_; clear hb hbox hg; have hcz11_0 : w10.cell? ⟨gb330, 0, none⟩ = some (.string a0_0) := (blk_cell BK330.out 0).trans rfl; have hcz11_1 : w10.cell? ⟨gb330, 1, none⟩ = some (.slice A0_1 l0_1.length c0_1) := (blk_cell BK330.out 1).trans rfl; have hcz11_2 : w10.cell? ⟨gb330, 2, none⟩ = some (.int .i64 a0_2) := (blk_cell BK330.out 2).trans rfl; have hcz11_3 : w10.cell? ⟨gb330, 3, none⟩ = some (.int .u8 a0_3) := (blk_cell BK330.out 3).trans rfl; have hfz11_0 := blk_frozen BK330.out 0; have hfz11_1 := blk_frozen BK330.out 1; have hfz11_2 := blk_frozen BK330.out 2; have hfz11_3 := blk_frozen BK330.out 3) | ((with_reducible refine gate_callee (f := 55) rfl ?_); refine goesL_ (some 8) rfl rfl Try.func55 kr_ rfl #[.agg #[.string a0_0, .slice A0_1 l0_1.length c0_1, .int .i64 a0_2, .int .u8 a0_3]] rfl ar_ ?_; (with_reducible refine (suffrageref07_May.calls k a0_0 _ _ l0_1 a0_2 a0_3 false _ ?side1 ?side2 A5.out).mono ?_); (case side1 => repeat (first | exact (Kd.C_below HR0_1.out HB.out) | (with_reducible refine Kd.C_alloc ?_ _) | (with_reducible refine Kd.C_drewN ?_ _) | (with_reducible refine Kd.C_drew ?_))); (case side2 => exact HC0_1.out); rintro e w12 ⟨rfl, hb⟩; refine ⟨_, rfl, ?_⟩; have n0_ := Aside0.mk (blk_below (g := gb330) (o := .cells #[.string a0_0, .slice A0_1 l0_1.length c0_1, .int .i64 a0_2, .int .u8 a0_3] 34 (0, 0)) (by (with_reducible repeat (first | refine blk_drewN ?_ _ | refine blk_drew ?_ | refine blk_alloc ?_ _)); exact BK330.out) hb); have n1_ := Aside0.mk (below_step (by repeat (first | (with_reducible first | exact HB.out | apply below_alloc | apply pw_below_drewN | apply below_drew1 | refine below_set ?_ GE330.out) | exact HB.out)) hb); clear BK330; clear HB; have BK330 := n0_; have HB := n1_; clear n0_ n1_; (try clear hb); (try clear hb2); (try clear hk); (try clear hi))); go_ret; exact ⟨by first | rfl | (simp [errW_none, errW_some] <;> rfl) | (simp [*, errW_none, errW_some] <;> rfl), by repeat (first | (with_reducible first | exact HB.out | apply below_alloc | apply pw_below_drewN | apply below_drew1 | refine below_set ?_ GE330.out) | exact HB.out)⟩
/-! ### suffrageref41_By: function 31 -/
def suffrageref41_By.j0 : Nat → Int → Bool → Option (Int)
  | 0, _, _ => none
  | k + 1, x3, x8 => if x8 = true then (some 3) else (if x3 = 9 then (some 4) else (some 0))
def suffrageref41_By.f (k : Nat) (a0 : Int) : Option (Int) := if a0 = 1 then (some 1) else (if a0 = 2 then (some 2) else (if a0 = 5 then (suffrageref41_By.j0 k a0 (a0 == 5)) else (if a0 = 6 then (suffrageref41_By.j0 k a0 (a0 == 6)) else (if a0 = 7 then (suffrageref41_By.j0 k a0 (a0 == 7)) else (suffrageref41_By.j0 k a0 (a0 == 8))))))
theorem suffrageref41_By.mono_l : ∀ k, (∀ y0 y1, LeO (suffrageref41_By.j0 k y0 y1) (suffrageref41_By.j0 (k + 1) y0 y1))
  | 0 => fun _ _ r h => by simp [suffrageref41_By.j0] at h
  | k + 1 => by
    have ih0 := suffrageref41_By.mono_l k
    · intro y0 y1; unfold suffrageref41_By.j0; repeat' first
      | (with_reducible exact ih0 _ _)
      | (with_reducible exact LeO.refl _)
      | (with_reducible exact LeO.none _)
      | (with_reducible refine LeO.ite ?_ ?_)
      | (with_reducible refine LeO.bind ?_ (fun _ => ?_))
      | exact ih0 _ _
      | exact LeO.none _
      | refine LeO.ite ?_ ?_
      | refine LeO.bind ?_ (fun _ => ?_)
theorem suffrageref41_By.mono : ∀ a0 k, LeO (suffrageref41_By.f k a0) (suffrageref41_By.f (k + 1) a0) := by
  intro a0 k; have ih0 := suffrageref41_By.mono_l k; unfold suffrageref41_By.f
  repeat' first
      | (with_reducible exact ih0 _ _)
      | (with_reducible exact LeO.refl _)
      | (with_reducible exact LeO.none _)
      | (with_reducible refine LeO.ite ?_ ?_)
      | (with_reducible refine LeO.bind ?_ (fun _ => ?_))
      | exact ih0 _ _
      | exact LeO.none _
      | refine LeO.ite ?_ ?_
      | refine LeO.bind ?_ (fun _ => ?_)
set_option maxHeartbeats 8000000 in
set_option maxRecDepth 100000 in
theorem suffrageref41_By.calls (k : Nat) (a0 : Int) (r : Int) (w : World) (h : suffrageref41_By.f k a0 = some r) :
    Calls Try.prog 31 #[.int .u8 a0] w fun e w' => e = .returned (.int .u8 r) ∧ Drawn0 w w' := by
  have H : (if a0 = 1 then (some 1) else (if a0 = 2 then (some 2) else (if a0 = 5 then (suffrageref41_By.j0 k a0 (a0 == 5)) else (if a0 = 6 then (suffrageref41_By.j0 k a0 (a0 == 6)) else (if a0 = 7 then (suffrageref41_By.j0 k a0 (a0 == 7)) else (suffrageref41_By.j0 k a0 (a0 == 8))))))) = some r := h; clear h
  by_cases c2 : a0 = 1
  · rw [if_pos c2] at H; have c2b0 : (a0 == 1) = true := beq_iff_eq.mpr c2; have c2b1 : (a0 != 1) = false := bne_eq_false_iff_eq.mpr c2; clear c2; obtain rfl := Option.some.inj H
    go_enter Try.func31, Try.ntmps31
    go_wp2; go_ret; exact ⟨by first | rfl | (simp; done) | (simp [*]; done), by repeat (first | exact Drawn0.refl _ | apply Drawn0.step)⟩
  · rw [if_neg c2] at H; have c2b0 : (a0 == 1) = false := beq_eq_false_iff_ne.mpr c2; have c2b1 : (a0 != 1) = true := bne_iff_ne.mpr c2
    by_cases c3 : a0 = 2
    · rw [if_pos c3] at H; have c3b0 : (a0 == 2) = true := beq_iff_eq.mpr c3; have c3b1 : (a0 != 2) = false := bne_eq_false_iff_eq.mpr c3; clear c3; obtain rfl := Option.some.inj H
      go_enter Try.func31, Try.ntmps31
      go_wp2; go_ret; exact ⟨by first | rfl | (simp; done) | (simp [*]; done), by repeat (first | exact Drawn0.refl _ | apply Drawn0.step)⟩
    · rw [if_neg c3] at H; have c3b0 : (a0 == 2) = false := beq_eq_false_iff_ne.mpr c3; have c3b1 : (a0 != 2) = true := bne_iff_ne.mpr c3; have HC4 := Aside0.mk H; clear H
      go_enter Try.func31, Try.ntmps31
      go_upto_if 8 with (fail)
      go_cut [8] (fun v8 wc => ∃ (kq : Nat) (x8_3 : Bool), v8 = .bool x8_3 ∧ Aside0 (suffrageref41_By.j0 kq a0 x8_3 = some r) ∧ Aside0 (kq ≤ k) ∧ Drawn0 w wc)
      case first =>
        have H := HC4.out; clear HC4
        by_cases c5 : a0 = 5
        · rw [if_pos c5] at H; have c5b0 : (a0 == 5) = true := beq_iff_eq.mpr c5; have c5b1 : (a0 != 5) = false := bne_eq_false_iff_eq.mpr c5; clear c5; (first | rw [c5b0] | (simp only [i64_w, i32_w]; rw [c5b0]) | skip); have H' := Aside0.mk H; clear H; go_wp2
          go_meet
          case rel => exact ⟨_, ((a0 == 5)), rl_, H', ⟨by first | omega | exact Nat.le_refl _⟩, by repeat (first | exact Drawn0.refl _ | apply Drawn0.step)⟩
        · rw [if_neg c5] at H; have c5b0 : (a0 == 5) = false := beq_eq_false_iff_ne.mpr c5; have c5b1 : (a0 != 5) = true := bne_iff_ne.mpr c5; (first | rw [c5b0] | (simp only [i64_w, i32_w]; rw [c5b0]) | skip)
          by_cases c6 : a0 = 6
          · rw [if_pos c6] at H; have c6b0 : (a0 == 6) = true := beq_iff_eq.mpr c6; have c6b1 : (a0 != 6) = false := bne_eq_false_iff_eq.mpr c6; clear c6; have H' := Aside0.mk H; clear H; go_wp2
            go_meet
            case rel => exact ⟨_, ((a0 == 6)), rl_, H', ⟨by first | omega | exact Nat.le_refl _⟩, by repeat (first | exact Drawn0.refl _ | apply Drawn0.step)⟩
          · rw [if_neg c6] at H; have c6b0 : (a0 == 6) = false := beq_eq_false_iff_ne.mpr c6; have c6b1 : (a0 != 6) = true := bne_iff_ne.mpr c6
            by_cases c7 : a0 = 7
            · rw [if_pos c7] at H; have c7b0 : (a0 == 7) = true := beq_iff_eq.mpr c7; have c7b1 : (a0 != 7) = false := bne_eq_false_iff_eq.mpr c7; clear c7; have H' := Aside0.mk H; clear H; go_wp2
              go_meet
              case rel => exact ⟨_, ((a0 == 7)), rl_, H', ⟨by first | omega | exact Nat.le_refl _⟩, by repeat (first | exact Drawn0.refl _ | apply Drawn0.step)⟩
            · rw [if_neg c7] at H; have c7b0 : (a0 == 7) = false := beq_eq_false_iff_ne.mpr c7; have c7b1 : (a0 != 7) = true := bne_iff_ne.mpr c7; have H' := Aside0.mk H; clear H; go_wp2
              go_meet
              case rel => exact ⟨_, ((a0 == 8)), rl_, H', ⟨by first | omega | exact Nat.le_refl _⟩, by repeat (first | exact Drawn0.refl _ | apply Drawn0.step)⟩
      case rest =>
        clear HC4; (try clear c2); (try clear c2b0); (try clear c2b1); (try clear p2); (try clear c3); (try clear c3b0); (try clear c3b1); (try clear c5); (try clear c5b0); (try clear c5b1); (try clear c6); (try clear c6b0); (try clear c6b1); (try clear c7); (try clear c7b0); (try clear c7b1); obtain ⟨kq, x8_3, rfl, HA, HJ3, ⟨mc3, rfl⟩⟩ := hcut
        cases kq with
        | zero => exact absurd HA.out (by simp [suffrageref41_By.j0])
        | succ kj3 =>
          have H := HA.out; clear HA; simp only [suffrageref41_By.j0] at H
          by_cases c8 : x8_3 = true
          · subst c8
            have H1 : (some 3) = some r := by rw [if_pos rfl] at H; exact H
            clear H; have H := H1; clear H1; obtain rfl := Option.some.inj H; go_wp2; go_ret; exact ⟨by first | rfl | (simp; done) | (simp [*]; done), by repeat (first | exact Drawn0.refl _ | apply Drawn0.step)⟩
          · replace c8 := Bool.eq_false_iff.mpr c8; subst c8
            have H1 : (if a0 = 9 then (some 4) else (some 0)) = some r := by rw [if_neg (show ¬ (false = true) by decide)] at H; exact H
            clear H; have H := H1; clear H1
            by_cases c9 : a0 = 9
            (· rw [if_pos c9] at H; have c9b0 : (a0 == 9) = true := beq_iff_eq.mpr c9; have c9b1 : (a0 != 9) = false := bne_eq_false_iff_eq.mpr c9; clear c9; obtain rfl := Option.some.inj H; go_wp2; go_ret; exact ⟨by first | rfl | (simp; done) | (simp [*]; done), by repeat (first | exact Drawn0.refl _ | apply Drawn0.step)⟩); (· rw [if_neg c9] at H; have c9b0 : (a0 == 9) = false := beq_eq_false_iff_ne.mpr c9; have c9b1 : (a0 != 9) = true := bne_iff_ne.mpr c9; obtain rfl := Option.some.inj H; go_wp2; go_ret; exact ⟨by first | rfl | (simp; done) | (simp [*]; done), by repeat (first | exact Drawn0.refl _ | apply Drawn0.step)⟩)
/-! ### suffrageref41_in: function 34 -/
def suffrageref41_in.l0 : Nat → List Int → Int → Int → Option (Bool)
  | 0, _, _, _ => none
  | k + 1, x0, x1, x5 => if x5 < (x0.length : Int) then (if 0 ≤ x5 then (if (rd x0 x5) = x1 then (some true) else (suffrageref41_in.l0 k x0 x1 (wrap64 (x5 + 1)))) else (none)) else (some false)
def suffrageref41_in.f (k : Nat) (l0 : List Int) (a1 : Int) : Option (Bool) := suffrageref41_in.l0 k l0 a1 0
theorem suffrageref41_in.mono_l : ∀ k, (∀ y0 y1 y2, LeO (suffrageref41_in.l0 k y0 y1 y2) (suffrageref41_in.l0 (k + 1) y0 y1 y2))
  | 0 => fun _ _ _ r h => by simp [suffrageref41_in.l0] at h
  | k + 1 => by
    have ih0 := suffrageref41_in.mono_l k
    · intro y0 y1 y2; unfold suffrageref41_in.l0; repeat' first
      | (with_reducible exact ih0 _ _ _)
      | (with_reducible exact LeO.refl _)
      | (with_reducible exact LeO.none _)
      | (with_reducible refine LeO.ite ?_ ?_)
      | (with_reducible refine LeO.bind ?_ (fun _ => ?_))
      | exact ih0 _ _ _
      | exact LeO.none _
      | refine LeO.ite ?_ ?_
      | refine LeO.bind ?_ (fun _ => ?_)
theorem suffrageref41_in.mono : ∀ a0 a1 k, LeO (suffrageref41_in.f k a0 a1) (suffrageref41_in.f (k + 1) a0 a1) := by
  intro a0 a1 k; have ih0 := suffrageref41_in.mono_l k; unfold suffrageref41_in.f
  repeat' first
      | (with_reducible exact ih0 _ _ _)
      | (with_reducible exact LeO.refl _)
      | (with_reducible exact LeO.none _)
      | (with_reducible refine LeO.ite ?_ ?_)
      | (with_reducible refine LeO.bind ?_ (fun _ => ?_))
      | exact ih0 _ _ _
      | exact LeO.none _
      | refine LeO.ite ?_ ?_
      | refine LeO.bind ?_ (fun _ => ?_)
set_option maxHeartbeats 8000000 in
set_option maxRecDepth 100000 in
theorem suffrageref41_in.calls (k : Nat) (A0 : Option Addr) (c0 : Nat) (l0 : List Int) (a1 : Int) (r : Bool) (w : World) (hr0 : Kd.C (Kd.int .i64) w A0 l0.length l0) (hc0 : l0.length ≤ c0) (h : suffrageref41_in.f k l0 a1 = some r) :
    Calls Try.prog 34 #[.slice A0 l0.length c0, .int .i64 a1] w fun e w' => e = .returned (.bool r) ∧ Drawn0 w w' := by
  have HR0 := Aside0.mk hr0; have HC0 := Aside0.mk hc0; clear hr0 hc0; have H : (suffrageref41_in.l0 k l0 a1 0) = some r := h; clear h; have H' := Aside0.mk H; clear H
  go_enter Try.func34, Try.ntmps34
  go_wp2
  go_loopg [5] k (fun kq v5 w' => ∃ (x5_1 : Int), v5 = .int .i64 x5_1 ∧ Aside0 (suffrageref41_in.l0 kq l0 a1 x5_1 = some r) ∧ Aside0 (kq ≤ k) ∧ Drawn0 w w')
  case atStart => exact ⟨(0), rl_, H', ⟨Nat.le_refl _⟩, by repeat (first | exact Drawn0.refl _ | apply Drawn0.step)⟩
  case round =>
    clear H'; (try clear p2); obtain ⟨x5_1, rfl, HA, HK1, ⟨m1, rfl⟩⟩ := hrel
    cases gk with
    | zero => exact absurd HA.out (by simp [suffrageref41_in.l0])
    | succ k1 =>
      have H := HA.out; clear HA; simp only [suffrageref41_in.l0] at H
      by_cases c3 : x5_1 < (l0.length : Int)
      · rw [if_pos c3] at H; have c3b0 : decide (x5_1 < (l0.length : Int)) = true := decide_eq_true c3; clear c3
        by_cases c4 : 0 ≤ x5_1
        · rw [if_pos c4] at H; have c4b0 : decide (0 ≤ x5_1) = true := decide_eq_true c4; clear c4
          by_cases c5 : (rd l0 x5_1) = a1
          (· rw [if_pos c5] at H; have c5b0 : ((rd l0 x5_1) == a1) = true := beq_iff_eq.mpr c5; have c5b1 : ((rd l0 x5_1) != a1) = false := bne_eq_false_iff_eq.mpr c5; clear c5; obtain rfl := Option.some.inj H; have p332 : 0 ≤ (x5_1 : Int) := of_decide_eq_true as_; have q332 : x5_1 < (l0.length : Int) := of_decide_eq_true as_; obtain ⟨ad332, e332, hx332_0⟩ := Kd.at_int HR0.out x5_1 p332 q332; cases e332; replace p332 := eq_true p332; replace q332 := eq_true q332; go_wp2; go_ret; exact ⟨by first | rfl | (simp; done) | (simp [*]; done), by repeat (first | exact Drawn0.refl _ | apply Drawn0.step)⟩)
          · rw [if_neg c5] at H; have c5b0 : ((rd l0 x5_1) == a1) = false := beq_eq_false_iff_ne.mpr c5; have c5b1 : ((rd l0 x5_1) != a1) = true := bne_iff_ne.mpr c5; have H' := Aside0.mk H; clear H; have p332 : 0 ≤ (x5_1 : Int) := of_decide_eq_true as_; have q332 : x5_1 < (l0.length : Int) := of_decide_eq_true as_; obtain ⟨ad332, e332, hx332_0⟩ := Kd.at_int HR0.out x5_1 p332 q332; cases e332; replace p332 := eq_true p332; replace q332 := eq_true q332; go_wp2; go_roundg k1
            case measure => have := HK1.out; omega
            case rel => exact ⟨(wrap64 (x5_1 + 1)), rl_, H', ⟨by have := HK1.out; omega⟩, by repeat (first | exact Drawn0.refl _ | apply Drawn0.step)⟩
        (· rw [if_neg c4] at H; exact absurd H (by simp))
      (· rw [if_neg c3] at H; have c3b0 : decide (x5_1 < (l0.length : Int)) = false := decide_eq_false c3; clear c3; obtain rfl := Option.some.inj H; go_wp2; go_ret; exact ⟨by first | rfl | (simp; done) | (simp [*]; done), by repeat (first | exact Drawn0.refl _ | apply Drawn0.step)⟩)

end Go.Proofs.Ytegdcoamafcfeaa.Pr
