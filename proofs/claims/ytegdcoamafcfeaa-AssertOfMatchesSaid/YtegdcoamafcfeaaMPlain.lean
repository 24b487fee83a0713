/- The plain part of AssertOfMatches: what assert.Of computes is what the reference computes. -/
import Derived.Test.YtegdcoamafcfeaaM0
import Derived.Test.YtegdcoamafcfeaaM1
import Derived.Test.YtegdcoamafcfeaaM10
import Derived.Test.YtegdcoamafcfeaaM11
import Derived.Test.YtegdcoamafcfeaaM12
import Derived.Test.YtegdcoamafcfeaaM13
import Derived.Test.YtegdcoamafcfeaaM14
import Derived.Test.YtegdcoamafcfeaaM2
import Derived.Test.YtegdcoamafcfeaaM3
import Derived.Test.YtegdcoamafcfeaaM4
import Derived.Test.YtegdcoamafcfeaaM5
import Derived.Test.YtegdcoamafcfeaaM6
import Derived.Test.YtegdcoamafcfeaaM7
import Derived.Test.YtegdcoamafcfeaaM8
import Derived.Test.YtegdcoamafcfeaaM9
namespace Go.Proofs.Ytegdcoamafcfeaa.Plain
open Go.RowKit Go.Proofs.YtegdcoamafcfeaaW.PrintWords Go.Proofs.Ytegdcoamafcfeaa.Pr
theorem wrap_n {i : Nat} (h : i < 9223372036854775807) : wrap64 ((i : Int) + 1) = ((i + 1 : Nat) : Int) := by
  unfold wrap64
  omega
theorem rd_at (l : List Int) (i : Nat) (h : i < l.length) : rd l (i : Int) = l[i] := by
  simp [rd, List.getD_eq_getElem?_getD, List.getElem?_eq_getElem h]
theorem fuel {k n : Nat} (h : n + 1 ≤ k) : ∃ m, k = m + 1 := ⟨k - 1, by omega⟩
/-! #### in a list -/
theorem in_l0 (l : List Int) (x : Int) (hl : l.length ≤ 9223372036854775807) : ∀ (d i : Nat), i + d = l.length → Ev (fun k => suffrageref41_in.l0 k l x (i : Int)) ((l.drop i).contains x)
  | 0, i, h => ⟨1, fun k hk => by
    obtain ⟨k, rfl⟩ := fuel hk
    simp only [suffrageref41_in.l0]
    rw [if_neg (by omega), List.drop_of_length_le (by omega)]
    rfl⟩
  | d + 1, i, h => by
    obtain ⟨K, hK⟩ := in_l0 l x hl d (i + 1) (by omega)
    dsimp only at hK
    have hi : i < l.length := by omega
    refine ⟨K + 1, fun k hk => ?_⟩
    obtain ⟨k, rfl⟩ := fuel hk
    simp only [suffrageref41_in.l0]
    rw [if_pos (by omega), if_pos (by omega), rd_at l i hi, List.drop_eq_getElem_cons hi, List.contains_cons]
    by_cases hx : l[i] = x
    · rw [if_pos hx, hx]
      simp
    · rw [if_neg hx, wrap_n (by omega), hK k (by omega)]
      have : (x == l[i]) = false := by simpa using fun e => hx e.symm
      rw [this, Bool.false_or]
theorem in_ev (l : List Int) (x : Int) (hl : l.length ≤ 9223372036854775807) : Ev (fun k => suffrageref41_in.f k l x) (l.contains x) := in_l0 l x hl l.length 0 (by omega)
theorem index_l0 (l : List Int) (x : Int) (hl : l.length ≤ 9223372036854775807) : ∀ (d i : Nat), i + d = l.length → ∃ r, Ev (fun k => slices_Index_int_int.l0 k l x (l.length : Int) (i : Int)) r ∧ decide (r ≥ 0) = (l.drop i).contains x
  | 0, i, h => ⟨-1, ⟨1, fun k hk => by
    obtain ⟨k, rfl⟩ := fuel hk
    simp only [slices_Index_int_int.l0]
    rw [if_neg (by omega)]⟩, by rw [List.drop_of_length_le (by omega)]; rfl⟩
  | d + 1, i, h => by
    obtain ⟨r, ⟨K, hK⟩, hr⟩ := index_l0 l x hl d (i + 1) (by omega)
    have hi : i < l.length := by omega
    by_cases hx : x = l[i]
    · refine ⟨i, ⟨1, fun k hk => ?_⟩, by rw [List.drop_eq_getElem_cons hi, List.contains_cons, ← hx]; simp⟩
      obtain ⟨k, rfl⟩ := fuel hk
      simp only [slices_Index_int_int.l0]
      rw [if_pos (by omega), if_pos (by omega), if_pos (by omega), rd_at l i hi, if_pos hx]
    · refine ⟨r, ⟨K + 1, fun k hk => ?_⟩, by rw [List.drop_eq_getElem_cons hi, List.contains_cons, hr]; simp [hx]⟩
      obtain ⟨k, rfl⟩ := fuel hk
      simp only [slices_Index_int_int.l0]
      rw [if_pos (by omega), if_pos (by omega), if_pos (by omega), rd_at l i hi, if_neg hx, wrap_n (by omega)]
      exact hK k (by omega)
theorem contains_ev (l : List Int) (x : Int) (hl : l.length ≤ 9223372036854775807) : Ev (fun k => slices_Contains_int_int.f k l x) (l.contains x) := by
  obtain ⟨r, ⟨K, hK⟩, hr⟩ := index_l0 l x hl l.length 0 (by omega)
  refine ⟨K, fun k hk => ?_⟩
  unfold slices_Contains_int_int.f slices_Index_int_int.f
  have h0 : slices_Index_int_int.l0 k l x (l.length : Int) 0 = some r := hK k hk
  show (slices_Index_int_int.l0 k l x (l.length : Int) 0).bind _ = _
  rw [h0, Option.bind_some, hr]
  rfl
/-! #### the candidates that are left -/
theorem left_l0 (g : List Int) (n : Nat) (hn : n ≤ 1000000) (hg : g.length ≤ 9223372036854775807) : ∀ (d i : Nat), i + d = n → Ev (fun k => suffrageref41_left.l0 k g (n : Int) (othersL g i) (i : Int)) (othersL g n)
  | 0, i, h => ⟨1, fun k hk => by
    obtain ⟨k, rfl⟩ := fuel hk
    simp only [suffrageref41_left.l0]
    rw [if_neg (by omega), show i = n by omega]⟩
  | d + 1, i, h => by
    obtain ⟨K, hK⟩ := left_l0 g n hn hg d (i + 1) (by omega)
    obtain ⟨K2, hK2⟩ := in_ev g (i : Int) hg
    dsimp only at hK2
    refine ⟨K + K2 + 1, fun k hk => ?_⟩
    obtain ⟨k, rfl⟩ := fuel hk
    simp only [suffrageref41_left.l0]
    rw [if_pos (by omega), hK2 k (by omega), Option.bind_some, wrap_n (by omega)]
    have hs := othersL_succ g i
    have hle := othersL_le g i
    by_cases hc : g.contains (i : Int) = true
    · rw [if_pos hc]
      rw [if_pos hc, List.append_nil] at hs
      rw [← hs]
      exact hK k (by omega)
    · rw [if_neg hc, if_pos (by omega)]
      rw [if_neg hc] at hs
      rw [← hs]
      exact hK k (by omega)
theorem left_ev (g : List Int) (n : Nat) (hn : n ≤ 1000000) (hg : g.length ≤ 9223372036854775807) : Ev (fun k => suffrageref41_left.f k g (n : Int)) (othersL g n) := by
  have h := left_l0 g n hn hg n 0 (by omega)
  exact h
theorem others_at (g : List Int) (n : Nat) (hn : n ≤ 1000000) (hg : g.length ≤ 1000000) : assert_others.f g (n : Int) = some (othersL g n) := by
  unfold assert_others.f
  rw [if_pos ⟨hg, by omega, by omega⟩]
  rfl
theorem mem_others (g : List Int) (n : Nat) (x : Int) : (othersL g n).contains x = (decide (0 ≤ x ∧ x < n) && !(g.contains x)) := by
  rw [Bool.eq_iff_iff]
  simp only [othersL, List.contains_iff_mem, List.mem_filter, List.mem_map, List.mem_range, Bool.and_eq_true, decide_eq_true_eq]
  constructor
  · rintro ⟨⟨j, hj, rfl⟩, h⟩
    exact ⟨by omega, h⟩
  · rintro ⟨h, h2⟩
    exact ⟨⟨x.toNat, by omega, by omega⟩, h2⟩
/-! #### a runoff -/
def e4 (o : Int) (left : List Int) (l : List Int) : List S24 := (l.filter fun x => !(x == o)).map fun x => (⟨4, x, o, left⟩ : S24)
def run (n : Nat) (e0 : Int) : List (List Int) → List S24 → List Int → List S24 × Bool
  | [], acc, g => (if (othersL g n).length > 1 then acc ++ [(⟨5, e0, 0, othersL g n⟩ : S24)] else acc, true)
  | o :: r, acc, g => if o.length = 1 ∧ (othersL g n).contains (rd o 0) = true ∧ rd o 0 ≠ e0 then run n e0 r (acc ++ e4 (rd o 0) (othersL g n) (othersL g n)) (g ++ [rd o 0]) else ([], false)
theorem e4_len (o : Int) (left l : List Int) : (e4 o left l).length ≤ l.length := by
  unfold e4
  rw [List.length_map]
  exact List.length_filter_le _ _
/-- What a runoff tells holds small lists alone. -/
theorem run_small (n : Nat) (e0 : Int) : ∀ (rs : List (List Int)) (acc : List S24) (g : List Int), (∀ x ∈ acc, x.f3.length ≤ n) → (∀ x ∈ (run n e0 rs acc g).1, x.f3.length ≤ n) ∧ (run n e0 rs acc g).1.length ≤ acc.length + rs.length * n + 1
  | [], acc, g, h => by
    unfold run
    split
    · refine ⟨fun x hx => ?_, by simp⟩
      rcases List.mem_append.1 hx with hx | hx
      · exact h x hx
      · rw [List.mem_singleton.1 hx]
        exact othersL_le g n
    · exact ⟨h, by simp⟩
  | o :: r, acc, g, h => by
    unfold run
    split
    · have h2 : ∀ x ∈ acc ++ e4 (rd o 0) (othersL g n) (othersL g n), x.f3.length ≤ n := by
        intro x hx
        rcases List.mem_append.1 hx with hx | hx
        · exact h x hx
        · obtain ⟨y, _, rfl⟩ := List.mem_map.1 hx
          exact othersL_le g n
      obtain ⟨i1, i2⟩ := run_small n e0 r _ (g ++ [rd o 0]) h2
      refine ⟨i1, ?_⟩
      have := e4_len (rd o 0) (othersL g n) (othersL g n)
      have := othersL_le g n
      rw [List.length_append] at i2
      rw [List.length_cons, Nat.succ_mul]
      omega
    · exact ⟨fun x hx => by simp at hx, by simp⟩
def outs (rs : List S74) : List (List Int) := rs.map fun r => r.f3
theorem rd74_at (rs : List S74) (i : Nat) (h : i < rs.length) : rd_T74 rs (i : Int) = rs[i] := by
  simp [rd_T74, List.getD_eq_getElem?_getD, List.getElem?_eq_getElem h]
/-- The inner loop of the program. -/
theorem a_l1 (n : Nat) (g : List Int) (o : Int) (L : List Int) (xs : List S74) (m i : Int) (el : List Int) (rs : List S74) (ts : List S148) (hL : L.length ≤ 1000) (hg : g.length ≤ 1000) (r : List S24 × Bool) :
    ∀ (d j : Nat) (acc : List S24), j + d = L.length → acc.length + d ≤ 1000000 → Ev (fun k => assert_runoff.l0 k n (acc ++ e4 o L (L.drop j)) (g ++ [o]) xs m (wrap64 (i + 1)) el rs ts) r →
      Ev (fun k => assert_runoff.l1 k n acc g o L xs m i L (L.length : Int) (j : Int) el rs ts) r
  | 0, j, acc, h, ha, ⟨K, hK⟩ => by
    refine ⟨K + 1, fun k hk => ?_⟩
    obtain ⟨k, rfl⟩ := fuel hk
    simp only [assert_runoff.l1]
    rw [if_neg (by omega), if_pos (by omega)]
    have := hK k (by omega)
    rw [List.drop_of_length_le (by omega)] at this
    simpa [e4] using this
  | d + 1, j, acc, h, ha, hE => by
    have hj : j < L.length := by omega
    have hclone : slices_Clone_int_int.f L = some L := by
      unfold slices_Clone_int_int.f
      rw [if_pos (by omega)]
    by_cases hx : L[j] = o
    · obtain ⟨K, hK⟩ := a_l1 n g o L xs m i el rs ts hL hg r d (j + 1) acc (by omega) (by omega) (by
        have e : e4 o L (L.drop j) = e4 o L (L.drop (j + 1)) := by
          unfold e4
          rw [List.drop_eq_getElem_cons hj, List.filter_cons_of_neg (by simp [hx])]
        rw [← e]
        exact hE)
      refine ⟨K + 1, fun k hk => ?_⟩
      obtain ⟨k, rfl⟩ := fuel hk
      simp only [assert_runoff.l1]
      rw [if_pos (by omega), if_pos (by omega), if_pos (by omega), rd_at L j hj, if_pos hx, wrap_n (by omega)]
      exact hK k (by omega)
    · obtain ⟨K, hK⟩ := a_l1 n g o L xs m i el rs ts hL hg r d (j + 1) (acc ++ [(⟨4, L[j], o, L⟩ : S24)]) (by omega) (by rw [List.length_append, List.length_singleton]; omega) (by
        have e : e4 o L (L.drop j) = (⟨4, L[j], o, L⟩ : S24) :: e4 o L (L.drop (j + 1)) := by
          unfold e4
          rw [List.drop_eq_getElem_cons hj, List.filter_cons_of_pos (by simp [hx])]
          rfl
        rw [List.append_assoc, List.singleton_append, ← e]
        exact hE)
      refine ⟨K + 1, fun k hk => ?_⟩
      obtain ⟨k, rfl⟩ := fuel hk
      simp only [assert_runoff.l1]
      rw [if_pos (by omega), if_pos (by omega), if_pos (by omega), rd_at L j hj, if_neg hx, hclone, Option.bind_some, if_pos (by omega), wrap_n (by omega)]
      exact hK k (by omega)
/-- The program's loop over the rounds. -/
theorem a_l0 (n : Nat) (hn : n ≤ 1000) (el : List Int) (hel : 0 < el.length) (rs : List S74) (ts : List S148) (xs : List S74) (hxs : xs.length ≤ 100) :
    ∀ (d i : Nat) (acc : List S24) (g : List Int), i + d = xs.length → acc.length + d * 1000 ≤ 200000 → g.length + d ≤ 200 →
      Ev (fun k => assert_runoff.l0 k n acc g xs (xs.length : Int) (i : Int) el rs ts) (run n (rd el 0) (outs (xs.drop i)) acc g)
  | 0, i, acc, g, h, ha, hg => by
    refine ⟨1, fun k hk => ?_⟩
    obtain ⟨k, rfl⟩ := fuel hk
    simp only [assert_runoff.l0]
    rw [if_neg (by omega), others_at g n (by omega) (by omega), Option.bind_some, List.drop_of_length_le (by omega)]
    simp only [outs, List.map_nil, run]
    by_cases hl : (othersL g n).length > 1
    · rw [if_pos (by omega), if_pos (by omega), if_pos (by omega), if_pos hl]
    · rw [if_neg (by omega), if_neg hl]
  | d + 1, i, acc, g, h, ha, hg => by
    have hi : i < xs.length := by omega
    have hL := othersL_le g n
    have hx := rd74_at xs i hi
    have hdrop : outs (xs.drop i) = xs[i].f3 :: outs (xs.drop (i + 1)) := by
      rw [List.drop_eq_getElem_cons hi]
      rfl
    have hlt : (i : Int) < (xs.length : Int) := by omega
    have h0 : (0 : Int) ≤ (i : Int) := by omega
    rw [hdrop]
    generalize xs[i] = x at hx hdrop
    -- the way on
    have step : ∀ b : Bool, (b = false → x.f3.length = 1) → Ev (fun k => assert_runoff.j1 k n acc g xs (xs.length : Int) (i : Int) b el rs ts x.f0 x.f1.f0 x.f1.f1 x.f1.f2 x.f2 x.f3)
        (if b = true then ([], false) else run n (rd el 0) (outs (xs.drop (i + 1))) (acc ++ e4 (rd x.f3 0) (othersL g n) (othersL g n)) (g ++ [rd x.f3 0])) := by
      intro b hb
      cases b with
      | true =>
        refine ⟨1, fun k hk => ?_⟩
        obtain ⟨k, rfl⟩ := fuel hk
        simp only [assert_runoff.j1]
        rfl
      | false =>
        have h1 := hb rfl
        have h4 := e4_len (rd x.f3 0) (othersL g n) (othersL g n)
        obtain ⟨K, hK⟩ := a_l0 n hn el hel rs ts xs hxs d (i + 1) (acc ++ e4 (rd x.f3 0) (othersL g n) (othersL g n)) (g ++ [rd x.f3 0]) (by omega) (by rw [List.length_append]; omega) (by rw [List.length_append, List.length_singleton]; omega)
        obtain ⟨K2, hK2⟩ := a_l1 n g (rd x.f3 0) (othersL g n) xs (xs.length : Int) (i : Int) el rs ts (by omega) (by omega) _ (othersL g n).length 0 acc (by omega) (by omega) ⟨K, fun k hk => by
          rw [wrap_n (by omega)]
          exact hK k hk⟩
        refine ⟨K2 + 1, fun k hk => ?_⟩
        obtain ⟨k, rfl⟩ := fuel hk
        simp only [assert_runoff.j1, Bool.false_eq_true, if_false]
        rw [if_pos (by omega), others_at g n (by omega) (by omega), Option.bind_some]
        exact hK2 k (by omega)
    by_cases h1 : x.f3.length = 1
    · have h1' : (x.f3.length : Int) = 1 := by omega
      by_cases hin : (othersL g n).contains (rd x.f3 0) = true
      · have hin2 := hin
        rw [mem_others] at hin2
        simp only [Bool.and_eq_true, decide_eq_true_eq, Bool.not_eq_true'] at hin2
        obtain ⟨K2, hK2⟩ := contains_ev g (rd x.f3 0) (by omega)
        dsimp only at hK2
        obtain ⟨K, hK⟩ := step (rd x.f3 0 == rd el 0) (fun _ => h1)
        dsimp only at hK
        refine ⟨K + K2 + 1, fun k hk => ?_⟩
        obtain ⟨k, rfl⟩ := fuel hk
        simp only [assert_runoff.l0]
        rw [if_pos hlt, if_pos h0, if_pos hlt, hx, if_pos h1', if_pos (by omega)]
        have his : assert_is.f (rd x.f3 0) (n : Int) = some true := by
          unfold assert_is.f
          rw [if_pos hin2.1.1]
          simp [hin2.1.2]
        rw [his, Option.bind_some, if_pos rfl, hK2 k (by omega), Option.bind_some, hin2.2, if_neg (by simp), if_pos (by omega), hK k (by omega)]
        congr 1
        simp only [run]
        by_cases he : rd x.f3 0 = rd el 0
        · rw [if_pos (by simpa using he), if_neg (fun c => c.2.2 he)]
        · rw [if_neg (by simpa using he), if_pos ⟨h1, hin, he⟩]
      · obtain ⟨K, hK⟩ := step true (fun c => by cases c)
        dsimp only at hK
        obtain ⟨K2, hK2⟩ := contains_ev g (rd x.f3 0) (by omega)
        dsimp only at hK2
        refine ⟨K + K2 + 1, fun k hk => ?_⟩
        obtain ⟨k, rfl⟩ := fuel hk
        simp only [assert_runoff.l0]
        rw [if_pos hlt, if_pos h0, if_pos hlt, hx, if_pos h1', if_pos (by omega)]
        have hrun : run n (rd el 0) (x.f3 :: outs (xs.drop (i + 1))) acc g = ([], false) := by
          simp only [run]
          rw [if_neg (fun c => hin c.2.1)]
        rw [hrun]
        have hK' := hK k (by omega)
        rw [if_pos rfl] at hK'
        by_cases hr : 0 ≤ rd x.f3 0 ∧ rd x.f3 0 < (n : Int)
        · have his : assert_is.f (rd x.f3 0) (n : Int) = some true := by
            unfold assert_is.f
            rw [if_pos hr.1]
            simp [hr.2]
          have hg2 : g.contains (rd x.f3 0) = true := by
            rw [mem_others] at hin
            simpa [hr.1, hr.2] using hin
          rw [his, Option.bind_some, if_pos rfl, hK2 k (by omega), Option.bind_some, hg2, if_pos rfl]
          exact hK'
        · have his : assert_is.f (rd x.f3 0) (n : Int) = some false := by
            unfold assert_is.f
            by_cases h2 : rd x.f3 0 ≥ 0
            · rw [if_pos h2]
              simp
              omega
            · rw [if_neg h2]
          rw [his, Option.bind_some, if_neg (by simp)]
          exact hK'
    · obtain ⟨K, hK⟩ := step true (fun c => by cases c)
      dsimp only at hK
      refine ⟨K + 1, fun k hk => ?_⟩
      obtain ⟨k, rfl⟩ := fuel hk
      simp only [assert_runoff.l0]
      rw [if_pos hlt, if_pos h0, if_pos hlt, hx, if_neg (by omega)]
      have hrun : run n (rd el 0) (x.f3 :: outs (xs.drop (i + 1))) acc g = ([], false) := by
        simp only [run]
        rw [if_neg (fun c => h1 c.1)]
      rw [hrun]
      have hK' := hK k (by omega)
      rw [if_pos rfl] at hK'
      exact hK'
def runs (n : Nat) (el : List Int) (rs : List S74) : List S24 × Bool := if rs.length = 0 then ([], false) else run n (rd el 0) (outs (rs.take (rs.length - 1))) [] []
theorem a_runoff (n : Nat) (hn : n ≤ 1000) (el : List Int) (hel : 0 < el.length) (rs : List S74) (ts : List S148) (hrs : rs.length ≤ 100) : Ev (fun k => assert_runoff.f k el rs ts n) (runs n el rs) := by
  unfold runs
  by_cases h0 : rs.length = 0
  · rw [if_pos h0]
    refine ⟨0, fun k _ => ?_⟩
    unfold assert_runoff.f
    dsimp only
    rw [if_pos (by omega)]
  · rw [if_neg h0]
    obtain ⟨K, hK⟩ := a_l0 n hn el hel rs ts (rs.take (rs.length - 1)) (by rw [List.length_take]; omega) (rs.take (rs.length - 1)).length 0 [] [] (by omega) (by rw [List.length_take]; simp; omega) (by rw [List.length_take]; simp; omega)
    refine ⟨K, fun k hk => ?_⟩
    have hw : wrap64 ((rs.length : Int) - 1) = ((rs.length - 1 : Nat) : Int) := by
      unfold wrap64
      omega
    unfold assert_runoff.f
    dsimp only
    rw [if_neg (by omega), hw, if_pos (by omega), if_pos (by omega)]
    exact hK k hk
/-! #### the reference's runoff -/
theorem r_l1 (n : Nat) (hn : n ≤ 1000) (g : List Int) (l : List Int) (hl : 0 < l.length) (L : List Int) (hL : L.length ≤ 1000) (hLe : L = othersL g n) (i : Int) (el : List Int) (rs : List S74) (ts : List S148) (hg : g.length ≤ 1000) (r : List S24 × Bool) :
    ∀ (d j : Nat) (acc : List S24), j + d = L.length → acc.length + d ≤ 1000000 → Ev (fun k => suffrageref41_runoff.l0 k n (acc ++ e4 (rd l 0) L (L.drop j)) (g ++ [rd l 0]) (wrap64 (i + 1)) el rs ts) r →
      Ev (fun k => suffrageref41_runoff.l1 k n acc g i l L (j : Int) el rs ts) r
  | 0, j, acc, h, ha, ⟨K, hK⟩ => by
    refine ⟨K + 1, fun k hk => ?_⟩
    obtain ⟨k, rfl⟩ := fuel hk
    simp only [suffrageref41_runoff.l1]
    rw [if_neg (by omega), if_pos (by omega), if_pos (by omega)]
    have := hK k (by omega)
    rw [List.drop_of_length_le (by omega)] at this
    simpa [e4] using this
  | d + 1, j, acc, h, ha, hE => by
    have hj : j < L.length := by omega
    obtain ⟨K2, hK2⟩ := left_ev g n (by omega) (by omega)
    dsimp only at hK2
    rw [← hLe] at hK2
    by_cases hx : L[j] = rd l 0
    · obtain ⟨K, hK⟩ := r_l1 n hn g l hl L hL hLe i el rs ts hg r d (j + 1) acc (by omega) (by omega) (by
        have e : e4 (rd l 0) L (L.drop j) = e4 (rd l 0) L (L.drop (j + 1)) := by
          unfold e4
          rw [List.drop_eq_getElem_cons hj, List.filter_cons_of_neg (by simp [hx])]
        rw [← e]
        exact hE)
      refine ⟨K + 1, fun k hk => ?_⟩
      obtain ⟨k, rfl⟩ := fuel hk
      simp only [suffrageref41_runoff.l1]
      rw [if_pos (by omega), if_pos (by omega), if_pos (by omega), rd_at L j hj, if_pos hx, wrap_n (by omega)]
      exact hK k (by omega)
    · obtain ⟨K, hK⟩ := r_l1 n hn g l hl L hL hLe i el rs ts hg r d (j + 1) (acc ++ [(⟨4, L[j], rd l 0, L⟩ : S24)]) (by omega) (by rw [List.length_append, List.length_singleton]; omega) (by
        have e : e4 (rd l 0) L (L.drop j) = (⟨4, L[j], rd l 0, L⟩ : S24) :: e4 (rd l 0) L (L.drop (j + 1)) := by
          unfold e4
          rw [List.drop_eq_getElem_cons hj, List.filter_cons_of_pos (by simp [hx])]
          rfl
        rw [List.append_assoc, List.singleton_append, ← e]
        exact hE)
      refine ⟨K + K2 + 1, fun k hk => ?_⟩
      obtain ⟨k, rfl⟩ := fuel hk
      simp only [suffrageref41_runoff.l1]
      rw [if_pos (by omega), if_pos (by omega), if_pos (by omega), rd_at L j hj, if_neg hx, hK2 k (by omega), Option.bind_some, if_pos (by omega), wrap_n (by omega)]
      exact hK k (by omega)
theorem r_l0 (n : Nat) (hn : n ≤ 1000) (el : List Int) (hel : 0 < el.length) (rs : List S74) (ts : List S148) (hrs : rs.length ≤ 100) (h0 : 0 < rs.length) :
    ∀ (d i : Nat) (acc : List S24) (g : List Int), i + d = rs.length - 1 → acc.length + d * 1000 ≤ 200000 → g.length + d ≤ 200 →
      Ev (fun k => suffrageref41_runoff.l0 k n acc g (i : Int) el rs ts) (run n (rd el 0) (outs ((rs.take (rs.length - 1)).drop i)) acc g)
  | 0, i, acc, g, h, ha, hg => by
    obtain ⟨K2, hK2⟩ := left_ev g n (by omega) (by omega)
    dsimp only at hK2
    refine ⟨K2 + 1, fun k hk => ?_⟩
    obtain ⟨k, rfl⟩ := fuel hk
    simp only [suffrageref41_runoff.l0]
    rw [wrap_n (by omega), if_neg (by omega), hK2 k (by omega), Option.bind_some, List.drop_of_length_le (by rw [List.length_take]; omega)]
    simp only [outs, List.map_nil, run]
    have hd : decide ((rs.length : Int) > 0) = true := by simp; omega
    rw [hd]
    by_cases hl : (othersL g n).length > 1
    · rw [if_pos (by omega), if_pos (by omega), if_pos (by omega), if_pos hl]
    · rw [if_neg (by omega), if_neg hl]
  | d + 1, i, acc, g, h, ha, hg => by
    have hi : i < rs.length := by omega
    have hL := othersL_le g n
    have hx := rd74_at rs i hi
    have hdrop : outs ((rs.take (rs.length - 1)).drop i) = rs[i].f3 :: outs ((rs.take (rs.length - 1)).drop (i + 1)) := by
      rw [List.drop_eq_getElem_cons (by rw [List.length_take]; omega)]
      simp [outs]
    have hlt : (i : Int) < (rs.length : Int) := by omega
    have hz : (0 : Int) ≤ (i : Int) := by omega
    rw [hdrop]
    generalize rs[i] = x at hx hdrop
    obtain ⟨K2, hK2⟩ := left_ev g n (by omega) (by omega)
    dsimp only at hK2
    have step : ∀ b : Bool, (b = false → x.f3.length = 1) → Ev (fun k => suffrageref41_runoff.j1 k n acc g (i : Int) x.f3 (othersL g n) b el rs ts)
        (if b = true then ([], false) else run n (rd el 0) (outs ((rs.take (rs.length - 1)).drop (i + 1))) (acc ++ e4 (rd x.f3 0) (othersL g n) (othersL g n)) (g ++ [rd x.f3 0])) := by
      intro b hb
      cases b with
      | true =>
        refine ⟨1, fun k hk => ?_⟩
        obtain ⟨k, rfl⟩ := fuel hk
        simp only [suffrageref41_runoff.j1]
        rfl
      | false =>
        have h1 := hb rfl
        have h4 := e4_len (rd x.f3 0) (othersL g n) (othersL g n)
        obtain ⟨K, hK⟩ := r_l0 n hn el hel rs ts hrs h0 d (i + 1) (acc ++ e4 (rd x.f3 0) (othersL g n) (othersL g n)) (g ++ [rd x.f3 0]) (by omega) (by rw [List.length_append]; omega) (by rw [List.length_append, List.length_singleton]; omega)
        obtain ⟨K3, hK3⟩ := r_l1 n hn g x.f3 (by omega) (othersL g n) (by omega) rfl (i : Int) el rs ts (by omega) _ (othersL g n).length 0 acc (by omega) (by omega) ⟨K, fun k hk => by
          rw [wrap_n (by omega)]
          exact hK k hk⟩
        refine ⟨K3 + 1, fun k hk => ?_⟩
        obtain ⟨k, rfl⟩ := fuel hk
        simp only [suffrageref41_runoff.j1, Bool.false_eq_true, if_false]
        exact hK3 k (by omega)
    by_cases h1 : x.f3.length = 1
    · have h1' : (x.f3.length : Int) = 1 := by omega
      obtain ⟨K3, hK3⟩ := in_ev (othersL g n) (rd x.f3 0) (by omega)
      dsimp only at hK3
      by_cases hin : (othersL g n).contains (rd x.f3 0) = true
      · obtain ⟨K, hK⟩ := step (rd x.f3 0 == rd el 0) (fun _ => h1)
        dsimp only at hK
        refine ⟨K + K2 + K3 + 1, fun k hk => ?_⟩
        obtain ⟨k, rfl⟩ := fuel hk
        simp only [suffrageref41_runoff.l0]
        rw [wrap_n (by omega), if_pos (by omega), if_pos hz, if_pos hlt, hK2 k (by omega), Option.bind_some, hx, if_pos h1', if_pos (by omega), hK3 k (by omega), Option.bind_some, if_pos hin, if_pos (by omega), hK k (by omega)]
        congr 1
        simp only [run]
        by_cases he : rd x.f3 0 = rd el 0
        · rw [if_pos (by simpa using he), if_neg (fun c => c.2.2 he)]
        · rw [if_neg (by simpa using he), if_pos ⟨h1, hin, he⟩]
      · obtain ⟨K, hK⟩ := step true (fun c => by cases c)
        dsimp only at hK
        refine ⟨K + K2 + K3 + 1, fun k hk => ?_⟩
        obtain ⟨k, rfl⟩ := fuel hk
        simp only [suffrageref41_runoff.l0]
        have hrun : run n (rd el 0) (x.f3 :: outs ((rs.take (rs.length - 1)).drop (i + 1))) acc g = ([], false) := by
          simp only [run]
          rw [if_neg (fun c => hin c.2.1)]
        rw [wrap_n (by omega), if_pos (by omega), if_pos hz, if_pos hlt, hK2 k (by omega), Option.bind_some, hx, if_pos h1', if_pos (by omega), hK3 k (by omega), Option.bind_some, if_neg hin, hrun]
        have hK' := hK k (by omega)
        rw [if_pos rfl] at hK'
        exact hK'
    · obtain ⟨K, hK⟩ := step true (fun c => by cases c)
      dsimp only at hK
      refine ⟨K + K2 + 1, fun k hk => ?_⟩
      obtain ⟨k, rfl⟩ := fuel hk
      simp only [suffrageref41_runoff.l0]
      have hrun : run n (rd el 0) (x.f3 :: outs ((rs.take (rs.length - 1)).drop (i + 1))) acc g = ([], false) := by
        simp only [run]
        rw [if_neg (fun c => h1 c.1)]
      rw [wrap_n (by omega), if_pos (by omega), if_pos hz, if_pos hlt, hK2 k (by omega), Option.bind_some, hx, if_neg (by omega), hrun]
      have hK' := hK k (by omega)
      rw [if_pos rfl] at hK'
      exact hK'
/-- What the two say of a runoff is the same where it is valid. -/
theorem r_runoff (n : Nat) (hn : n ≤ 1000) (el : List Int) (hel : 0 < el.length) (rs : List S74) (ts : List S148) (hrs : rs.length ≤ 100) :
    ∃ p : List S24 × Bool, Ev (fun k => suffrageref41_runoff.f k el rs ts n) p ∧ p.2 = (runs n el rs).2 ∧ (p.2 = true → p = runs n el rs) := by
  by_cases h0 : rs.length = 0
  · obtain ⟨K2, hK2⟩ := left_ev [] n (by omega) (by simp)
    dsimp only at hK2
    refine ⟨(if (othersL [] n).length > 1 then [(⟨5, rd el 0, 0, othersL [] n⟩ : S24)] else [], false), ⟨K2 + 1, fun k hk => ?_⟩, by simp [runs, h0], fun h => by cases h⟩
    obtain ⟨k, rfl⟩ := fuel hk
    unfold suffrageref41_runoff.f
    simp only [suffrageref41_runoff.l0]
    have hw : wrap64 (0 + 1) = 1 := by
      unfold wrap64
      omega
    have hd : decide ((rs.length : Int) > 0) = false := by simp [h0]
    rw [hw, if_neg (by omega), hK2 k (by omega), Option.bind_some, hd]
    by_cases hl : (othersL [] n).length > 1
    · rw [if_pos (by omega), if_pos (by omega), if_pos (by simp), if_pos hl]
      rfl
    · rw [if_neg (by omega), if_neg hl]
  · obtain ⟨K, hK⟩ := r_l0 n hn el hel rs ts hrs (by omega) (rs.length - 1) 0 [] [] (by omega) (by simp; omega) (by simp; omega)
    refine ⟨_, ⟨K, fun k hk => ?_⟩, rfl, fun _ => rfl⟩
    unfold suffrageref41_runoff.f runs
    rw [if_neg h0]
    exact hK k hk
/-! #### the other rules -/
theorem p_l1 (by_ : Int) (n : Nat) (hn : n ≤ 1000) (el : List Int) (hel : el.length ≤ 1000) (i : Nat) (hi : i < el.length) (rs : List S74) (ts : List S148) (a0 : List S24) (ha : a0.length ≤ 1000000) (r : List S24 × Int) :
    ∀ (d j : Nat), j + d = n → Ev (fun k => suffrageref41_Of.l0 k by_ n (a0 ++ (othersL el n).map fun o => (⟨by_, rd el i, o, []⟩ : S24)) (wrap64 ((i : Int) + 1)) el rs ts) r →
      Ev (fun k => suffrageref41_Of.l1 k by_ n (a0 ++ (othersL el j).map fun o => (⟨by_, rd el i, o, []⟩ : S24)) (i : Int) (j : Int) el rs ts) r
  | 0, j, h, ⟨K, hK⟩ => by
    refine ⟨K + 1, fun k hk => ?_⟩
    obtain ⟨k, rfl⟩ := fuel hk
    simp only [suffrageref41_Of.l1]
    rw [if_neg (by omega), show j = n by omega]
    exact hK k (by omega)
  | d + 1, j, h, hE => by
    obtain ⟨K, hK⟩ := p_l1 by_ n hn el hel i hi rs ts a0 ha r d (j + 1) (by omega) hE
    dsimp only at hK
    obtain ⟨K2, hK2⟩ := in_ev el (j : Int) (by omega)
    dsimp only at hK2
    have hs := othersL_succ el j
    have hle := othersL_le el j
    refine ⟨K + K2 + 1, fun k hk => ?_⟩
    obtain ⟨k, rfl⟩ := fuel hk
    simp only [suffrageref41_Of.l1]
    rw [if_pos (by omega), hK2 k (by omega), Option.bind_some, wrap_n (by omega)]
    by_cases hc : el.contains (j : Int) = true
    · rw [if_pos hc]
      rw [if_pos hc, List.append_nil] at hs
      rw [← hs]
      exact hK k (by omega)
    · rw [if_neg hc, if_pos (by omega), if_pos (by omega), if_pos (by rw [List.length_append, List.length_map]; omega)]
      rw [if_neg hc] at hs
      have := hK k (by omega)
      rw [hs, List.map_append, List.map_cons, List.map_nil, ← List.append_assoc] at this
      exact this
theorem p_l0 (by_ : Int) (n : Nat) (hn : n ≤ 1000) (el : List Int) (hel : el.length ≤ 1000) (rs : List S74) (ts : List S148) :
    ∀ (d i : Nat), i + d = el.length → Ev (fun k => suffrageref41_Of.l0 k by_ n (plainL by_ el n (el.take i)) (i : Int) el rs ts) (plainL by_ el n el, 0)
  | 0, i, h => by
    refine ⟨1, fun k hk => ?_⟩
    obtain ⟨k, rfl⟩ := fuel hk
    simp only [suffrageref41_Of.l0]
    rw [if_neg (by omega), List.take_of_length_le (by omega)]
  | d + 1, i, h => by
    have hi : i < el.length := by omega
    obtain ⟨K, hK⟩ := p_l0 by_ n hn el hel rs ts d (i + 1) (by omega)
    have hlen := plainL_len by_ el n (el.take i)
    have hle := othersL_le el n
    have hb : (plainL by_ el n (el.take i)).length ≤ 1000000 := by
      rw [hlen]
      calc (el.take i).length * (othersL el n).length ≤ 1000 * 1000 := Nat.mul_le_mul (by rw [List.length_take]; omega) (by omega)
        _ = 1000000 := by omega
    obtain ⟨K2, hK2⟩ := p_l1 by_ n hn el hel i hi rs ts (plainL by_ el n (el.take i)) hb _ n 0 (by omega) ⟨K, fun k hk => by
      have e : plainL by_ el n (el.take i) ++ (othersL el n).map (fun o => (⟨by_, rd el i, o, []⟩ : S24)) = plainL by_ el n (el.take (i + 1)) := by
        rw [List.take_succ_eq_append_getElem hi, plainL_snoc, rd_at el i hi]
      rw [wrap_n (by omega), e]
      exact hK k hk⟩
    refine ⟨K2 + 1, fun k hk => ?_⟩
    obtain ⟨k, rfl⟩ := fuel hk
    simp only [suffrageref41_Of.l0]
    rw [if_pos (by omega)]
    have := hK2 k (by omega)
    have e0 : othersL el 0 = [] := rfl
    rw [e0] at this
    simpa using this
theorem plain_small (by_ : Int) (zs : List Int) (c : Nat) (ws : List Int) : ∀ x ∈ plainL by_ zs c ws, x.f3.length ≤ 1000 := by
  intro x hx
  rw [plainL_nil3 by_ zs c ws x hx]
  simp
/-! #### who is elected -/
theorem is_iff (a c : Int) : ∃ q, assert_is.f a c = some q ∧ (q = true ↔ 0 ≤ a ∧ a < c) := by
  unfold assert_is.f
  by_cases h : a ≥ 0
  · exact ⟨decide (a < c), by rw [if_pos h], by simp; omega⟩
  · exact ⟨false, by rw [if_neg h], by simp; omega⟩
theorem rising_l0 (l : List Int) (c : Int) (hl : l.length ≤ 9223372036854775807) : ∀ (d i : Nat), i + d = l.length →
    ∃ b, Ev (fun k => assert_rising.l0 k l c l (l.length : Int) (i : Int)) b ∧ (b = true ↔ ∀ (a : Nat) (ha : a < l.length), i ≤ a → (0 ≤ l[a] ∧ l[a] < c) ∧ (0 < a → l[a - 1] < l[a]))
  | 0, i, h => ⟨true, ⟨1, fun k hk => by
    obtain ⟨k, rfl⟩ := fuel hk
    simp only [assert_rising.l0]
    rw [if_neg (by omega)]⟩, by
      refine ⟨fun _ a ha hi => by omega, fun _ => rfl⟩⟩
  | d + 1, i, h => by
    have hi : i < l.length := by omega
    obtain ⟨b, ⟨K, hK⟩, hb⟩ := rising_l0 l c hl d (i + 1) (by omega)
    dsimp only at hK
    obtain ⟨q, hq, hq2⟩ := is_iff l[i] c
    have hw := wrap_n (i := i) (by omega)
    have stay : (0 ≤ l[i] ∧ l[i] < c) → (0 < i → l[i - 1] < l[i]) → ((∀ (a : Nat) (ha : a < l.length), i + 1 ≤ a → (0 ≤ l[a] ∧ l[a] < c) ∧ (0 < a → l[a - 1] < l[a])) ↔ ∀ (a : Nat) (ha : a < l.length), i ≤ a → (0 ≤ l[a] ∧ l[a] < c) ∧ (0 < a → l[a - 1] < l[a])) := by
      intro h1 h2
      refine ⟨fun H a ha hia => ?_, fun H a ha hia => H a ha (by omega)⟩
      rcases Nat.eq_or_lt_of_le hia with e | hlt
      · subst e
        exact ⟨h1, h2⟩
      · exact H a ha hlt
    by_cases hq1 : q = true
    · have hr := hq2.1 hq1
      by_cases h0 : 0 < i
      · have hm : wrap64 ((i : Int) - 1) = ((i - 1 : Nat) : Int) := by
          unfold wrap64
          omega
        by_cases hle : l[i] ≤ l[i - 1]
        · refine ⟨false, ⟨1, fun k hk => ?_⟩, ?_⟩
          · obtain ⟨k, rfl⟩ := fuel hk
            simp only [assert_rising.l0]
            rw [if_pos (by omega), if_pos (by omega), if_pos (by omega), rd_at l i hi, hq, Option.bind_some, if_pos hq1, if_pos (by omega), hm, if_pos (by omega), if_pos (by omega), rd_at l (i - 1) (by omega), if_pos hle]
          · refine ⟨fun h => (by cases h), fun H => ?_⟩
            have := (H i hi (Nat.le_refl _)).2 h0
            omega
        · refine ⟨b, ⟨K + 1, fun k hk => ?_⟩, hb.trans (stay hr (fun _ => by omega))⟩
          obtain ⟨k, rfl⟩ := fuel hk
          simp only [assert_rising.l0]
          rw [if_pos (by omega), if_pos (by omega), if_pos (by omega), rd_at l i hi, hq, Option.bind_some, if_pos hq1, if_pos (by omega), hm, if_pos (by omega), if_pos (by omega), rd_at l (i - 1) (by omega), if_neg hle, hw]
          exact hK k (by omega)
      · refine ⟨b, ⟨K + 1, fun k hk => ?_⟩, hb.trans (stay hr (fun h => absurd h h0))⟩
        obtain ⟨k, rfl⟩ := fuel hk
        simp only [assert_rising.l0]
        rw [if_pos (by omega), if_pos (by omega), if_pos (by omega), rd_at l i hi, hq, Option.bind_some, if_pos hq1, if_neg (by omega), hw]
        exact hK k (by omega)
    · refine ⟨false, ⟨1, fun k hk => ?_⟩, ⟨fun h => (by cases h), fun H => absurd (hq2.2 (H i hi (Nat.le_refl _)).1) hq1⟩⟩
      obtain ⟨k, rfl⟩ := fuel hk
      simp only [assert_rising.l0]
      rw [if_pos (by omega), if_pos (by omega), if_pos (by omega), rd_at l i hi, hq, Option.bind_some, if_neg hq1]
theorem elected_l0 (l : List Int) (c : Int) (hl : l.length ≤ 9223372036854775807) : ∀ (d i : Nat), i + d = l.length →
    ∃ b, Ev (fun k => suffrageref41_elected.l0 k l c (i : Int)) b ∧ (b = true ↔ ∀ (a : Nat) (ha : a < l.length), i ≤ a → (0 ≤ l[a] ∧ l[a] < c) ∧ (l.take a).contains l[a] = false)
  | 0, i, h => ⟨true, ⟨1, fun k hk => by
    obtain ⟨k, rfl⟩ := fuel hk
    simp only [suffrageref41_elected.l0]
    rw [if_neg (by omega)]⟩, by
      refine ⟨fun _ a ha hi => by omega, fun _ => rfl⟩⟩
  | d + 1, i, h => by
    have hi : i < l.length := by omega
    obtain ⟨b, ⟨K, hK⟩, hb⟩ := elected_l0 l c hl d (i + 1) (by omega)
    dsimp only at hK
    obtain ⟨K2, hK2⟩ := in_ev (l.take i) l[i] (by rw [List.length_take]; omega)
    dsimp only at hK2
    have hw := wrap_n (i := i) (by omega)
    by_cases h1 : l[i] < 0
    · refine ⟨false, ⟨1, fun k hk => ?_⟩, ⟨fun h => (by cases h), fun H => (by have := (H i hi (Nat.le_refl _)).1; omega)⟩⟩
      obtain ⟨k, rfl⟩ := fuel hk
      simp only [suffrageref41_elected.l0]
      rw [if_pos (by omega), if_pos (by omega), rd_at l i hi, if_pos h1]
    · by_cases h2 : l[i] ≥ c
      · refine ⟨false, ⟨1, fun k hk => ?_⟩, ⟨fun h => (by cases h), fun H => (by have := (H i hi (Nat.le_refl _)).1; omega)⟩⟩
        obtain ⟨k, rfl⟩ := fuel hk
        simp only [suffrageref41_elected.l0]
        rw [if_pos (by omega), if_pos (by omega), rd_at l i hi, if_neg h1, if_pos h2]
      · by_cases h3 : (l.take i).contains l[i] = true
        · refine ⟨false, ⟨K2 + 1, fun k hk => ?_⟩, ⟨fun h => (by cases h), fun H => by rw [(H i hi (Nat.le_refl _)).2] at h3; cases h3⟩⟩
          obtain ⟨k, rfl⟩ := fuel hk
          simp only [suffrageref41_elected.l0]
          rw [if_pos (by omega), if_pos (by omega), rd_at l i hi, if_neg h1, if_neg h2, if_pos (by omega), Int.toNat_natCast, hK2 k (by omega), Option.bind_some, if_pos h3]
        · refine ⟨b, ⟨K + K2 + 1, fun k hk => ?_⟩, hb.trans ⟨fun H a ha hia => ?_, fun H a ha hia => H a ha (by omega)⟩⟩
          · obtain ⟨k, rfl⟩ := fuel hk
            simp only [suffrageref41_elected.l0]
            rw [if_pos (by omega), if_pos (by omega), rd_at l i hi, if_neg h1, if_neg h2, if_pos (by omega), Int.toNat_natCast, hK2 k (by omega), Option.bind_some, if_neg h3, hw]
            exact hK k (by omega)
          · rcases Nat.eq_or_lt_of_le hia with e | hlt
            · subst e
              exact ⟨by omega, by simpa using h3⟩
            · exact H a ha hlt
/-- In rising order, or each once: the same. -/
theorem rising_elected (l s : List Int) (c : Int) (hp : s.Perm l) (hs : s.Pairwise fun x y => decide (x ≤ y) = true) :
    (∀ (a : Nat) (ha : a < s.length), 0 ≤ a → (0 ≤ s[a] ∧ s[a] < c) ∧ (0 < a → s[a - 1] < s[a])) ↔ ∀ (a : Nat) (ha : a < l.length), 0 ≤ a → (0 ≤ l[a] ∧ l[a] < c) ∧ (l.take a).contains l[a] = false := by
  have hnd : l.Nodup ↔ s.Nodup := hp.symm.nodup_iff
  constructor
  · intro H a ha _
    have hall : ∀ x ∈ l, 0 ≤ x ∧ x < c := by
      intro x hx
      have hx2 := hp.mem_iff.2 hx
      obtain ⟨j, hj, rfl⟩ := List.mem_iff_getElem.1 hx2
      exact (H j hj (Nat.zero_le _)).1
    refine ⟨hall _ (List.getElem_mem ha), ?_⟩
    have hlt : ∀ (d j : Nat) (hj : j + d + 1 < s.length), s[j] < s[j + d + 1] := by
      intro d
      induction d with
      | zero => intro j hj; exact (H (j + 1) hj (Nat.zero_le _)).2 (by omega)
      | succ d ih => intro j hj; exact Int.lt_trans (ih j (by omega)) ((H (j + (d + 1) + 1) hj (Nat.zero_le _)).2 (by omega))
    have hsn : s.Nodup := by
      rw [List.Nodup, List.pairwise_iff_getElem]
      intro i j hi hj hij
      obtain ⟨d, rfl⟩ : ∃ d, j = i + d + 1 := ⟨j - i - 1, by omega⟩
      have := hlt d i hj
      omega
    have hl := hnd.2 hsn
    rw [← Bool.not_eq_true, List.contains_iff_mem]
    intro hm
    obtain ⟨b, hb, he⟩ := List.mem_iff_getElem.1 hm
    rw [List.length_take] at hb
    rw [List.getElem_take] at he
    have := (List.pairwise_iff_getElem.1 hl) b a (by omega) ha (by omega)
    exact this he
  · intro H a ha _
    have hall : ∀ x ∈ s, 0 ≤ x ∧ x < c := by
      intro x hx
      obtain ⟨j, hj, rfl⟩ := List.mem_iff_getElem.1 (hp.mem_iff.1 hx)
      exact (H j hj (Nat.zero_le _)).1
    refine ⟨hall _ (List.getElem_mem ha), fun h0 => ?_⟩
    have hln : l.Nodup := by
      rw [List.Nodup, List.pairwise_iff_getElem]
      intro i j hi hj hij he
      have := (H j hj (Nat.zero_le _)).2
      rw [← Bool.not_eq_true, List.contains_iff_mem] at this
      exact this (List.mem_iff_getElem.2 ⟨i, by rw [List.length_take]; omega, by rw [List.getElem_take]; exact he⟩)
    have hsn := hnd.1 hln
    have h1 := (List.pairwise_iff_getElem.1 hs) (a - 1) a (by omega) ha (by omega)
    have h2 := (List.pairwise_iff_getElem.1 hsn) (a - 1) a (by omega) ha (by omega)
    simp at h1
    omega
/-! #### kinds -/
theorem by_ev (n : Int) : Ev (fun k => suffrageref41_By.f k n) ((kindOf n).getD 0) := by
  refine ⟨1, fun k hk => ?_⟩
  obtain ⟨k, rfl⟩ := fuel hk
  unfold suffrageref41_By.f kindOf
  simp only [suffrageref41_By.j0]
  by_cases h1 : n = 1
  · simp [h1]
  · by_cases h2 : n = 2
    · simp [h2]
    · by_cases h5 : n = 5
      · simp [h5]
      · by_cases h6 : n = 6
        · simp [h6]
        · by_cases h7 : n = 7
          · simp [h7]
          · by_cases h8 : n = 8
            · simp [h8]
            · by_cases h9 : n = 9
              · simp [h9]
              · simp [h1, h2, h5, h6, h7, h8, h9]
theorem kindOf_zero (n : Int) : (kindOf n).getD 0 = 0 ↔ kindOf n = none := by
  unfold kindOf
  repeat' split
  all_goals simp
/-! #### lists of assertions that are equal -/
theorem ints_l0 (l : List Int) (hl : l.length ≤ 9223372036854775807) : ∀ (d i : Nat), i + d = l.length → Ev (fun k => suffrageref08_Ints.l0 k l l (i : Int)) true
  | 0, i, h => ⟨1, fun k hk => by
    obtain ⟨k, rfl⟩ := fuel hk
    simp only [suffrageref08_Ints.l0]
    rw [if_neg (by omega)]⟩
  | d + 1, i, h => by
    obtain ⟨K, hK⟩ := ints_l0 l hl d (i + 1) (by omega)
    refine ⟨K + 1, fun k hk => ?_⟩
    obtain ⟨k, rfl⟩ := fuel hk
    simp only [suffrageref08_Ints.l0]
    rw [if_pos (by omega), if_pos (by omega), if_pos (by omega), if_pos trivial, wrap_n (by omega)]
    exact hK k (by omega)
theorem ints_ev (l : List Int) (hl : l.length ≤ 9223372036854775807) : Ev (fun k => suffrageref08_Ints.f k l l) true := by
  obtain ⟨K, hK⟩ := ints_l0 l hl l.length 0 (by omega)
  refine ⟨K, fun k hk => ?_⟩
  unfold suffrageref08_Ints.f
  dsimp only
  rw [if_pos rfl]
  exact hK k hk
theorem all_l0 (l : List S24) (hl : l.length ≤ 9223372036854775807) (h3 : ∀ x ∈ l, x.f3.length ≤ 9223372036854775807) : ∀ (d i : Nat), i + d = l.length → Ev (fun k => suffrageref41_All.l0 k l l (i : Int)) true
  | 0, i, h => ⟨1, fun k hk => by
    obtain ⟨k, rfl⟩ := fuel hk
    simp only [suffrageref41_All.l0]
    rw [if_neg (by omega)]⟩
  | d + 1, i, h => by
    have hi : i < l.length := by omega
    obtain ⟨K, hK⟩ := all_l0 l hl h3 d (i + 1) (by omega)
    have hx : rd_T24 l (i : Int) = l[i] := by simp [rd_T24, List.getD_eq_getElem?_getD, List.getElem?_eq_getElem hi]
    obtain ⟨K2, hK2⟩ := ints_ev l[i].f3 (h3 _ (List.getElem_mem hi))
    dsimp only at hK2
    refine ⟨K + K2 + 1, fun k hk => ?_⟩
    obtain ⟨k, rfl⟩ := fuel hk
    simp only [suffrageref41_All.l0]
    have hsame : suffrageref41_Same.f k l[i].f0 l[i].f1 l[i].f2 l[i].f3 l[i].f0 l[i].f1 l[i].f2 l[i].f3 = some true := by
      unfold suffrageref41_Same.f
      rw [if_pos rfl, if_pos rfl, if_pos rfl, hK2 k (by omega)]
      rfl
    rw [if_pos (by omega), if_pos (by omega), if_pos (by omega), hx, hsame, Option.bind_some, if_pos rfl, wrap_n (by omega)]
    exact hK k (by omega)
theorem all_ev (l : List S24) (hl : l.length ≤ 9223372036854775807) (h3 : ∀ x ∈ l, x.f3.length ≤ 9223372036854775807) : Ev (fun k => suffrageref41_All.f k l l) true := by
  obtain ⟨K, hK⟩ := all_l0 l hl h3 l.length 0 (by omega)
  refine ⟨K, fun k hk => ?_⟩
  unfold suffrageref41_All.f
  dsimp only
  rw [if_pos rfl]
  exact hK k hk
/-! #### names -/
theorem toList_nil (s : ByteArray) : s.toList.isEmpty = decide (s.size < 1) := by
  rw [ByteArray.toList_eq, Bool.eq_iff_iff, List.isEmpty_iff_length_eq_zero, decide_eq_true_eq, data_length]
  omega
theorem name_l0 (s : ByteArray) (hs : s.size ≤ 9223372036854775807) : ∀ (d i : Nat), i + d = s.size → Ev (fun k => suffrageref07_Name.l0 k s (i : Int)) (!(((bytesOf s).drop i).any oddChar))
  | 0, i, h => ⟨1, fun k hk => by
    obtain ⟨k, rfl⟩ := fuel hk
    simp only [suffrageref07_Name.l0]
    rw [if_neg (by omega), List.drop_of_length_le (by rw [bytesOf_length]; omega)]
    rfl⟩
  | d + 1, i, h => by
    obtain ⟨K, hK⟩ := name_l0 s hs d (i + 1) (by omega)
    dsimp only at hK
    have hi : i < (bytesOf s).length := by rw [bytesOf_length]; omega
    have hb : bt s (i : Int) = (bytesOf s)[i] := by rw [← rd_bytesOf, rd_at _ i hi]
    refine ⟨K + 1, fun k hk => ?_⟩
    obtain ⟨k, rfl⟩ := fuel hk
    simp only [suffrageref07_Name.l0]
    rw [if_pos (by omega), if_pos (by omega), hb, List.drop_eq_getElem_cons hi, List.any_cons, wrap_n (by omega), hK k (by omega)]
    generalize (bytesOf s)[i] = c
    unfold oddChar
    by_cases h1 : c < 33
    · simp [h1]
    · by_cases h2 : c > 126
      · simp [h1, h2]
      · simp [h1, h2]
theorem name_ev (s : ByteArray) (hs : s.size ≤ 9223372036854775807) : Ev (fun k => suffrageref07_Name.f k s) (!(oddName s)) := by
  obtain ⟨K, hK⟩ := name_l0 s hs s.size 0 (by omega)
  refine ⟨K + 1, fun k hk => ?_⟩
  obtain ⟨k, rfl⟩ := fuel hk
  unfold suffrageref07_Name.f oddName
  rw [toList_nil]
  by_cases h1 : s.size < 1
  · simp only [suffrageref07_Name.j0]
    rw [if_pos (by omega)]
    simp [h1]
  · by_cases h2 : 40 < s.size
    · simp only [suffrageref07_Name.j0]
      rw [if_neg (by omega), if_pos (by simp; omega)]
      simp [h2]
    · simp only [suffrageref07_Name.j0]
      rw [if_neg (by omega), if_neg (by simp; omega)]
      have := hK k (by omega)
      simp only [List.drop_zero] at this
      rw [show (0 : Int) = ((0 : Nat) : Int) from rfl, this]
      simp [h1, h2, anyOdd]
/-! #### names that occur twice -/
abbrev nameAt (cs : List ByteArray) (a : Nat) : List UInt8 := (rdOf ByteArray.empty cs (a : Int)).toList
theorem rdOf_take (cs : List ByteArray) (i a : Nat) (h : a < i) : rdOf ByteArray.empty (cs.take i) (a : Int) = rdOf ByteArray.empty cs (a : Int) := by
  simp [rdOf, List.getD_eq_getElem?_getD, h]
theorem sindex_l0 (l : List ByteArray) (x : ByteArray) (hl : l.length ≤ 9223372036854775807) : ∀ (d i : Nat), i + d = l.length →
    ∃ r, Ev (fun k => slices_Index_string_string.l0 k l x (l.length : Int) (i : Int)) r ∧ (r ≥ 0 ↔ ∃ a, i ≤ a ∧ a < l.length ∧ x.toList = nameAt l a)
  | 0, i, h => ⟨-1, ⟨1, fun k hk => by
    obtain ⟨k, rfl⟩ := fuel hk
    simp only [slices_Index_string_string.l0]
    rw [if_neg (by omega)]⟩, ⟨fun h => by omega, fun ⟨a, h1, h2, _⟩ => by omega⟩⟩
  | d + 1, i, h => by
    obtain ⟨r, ⟨K, hK⟩, hr⟩ := sindex_l0 l x hl d (i + 1) (by omega)
    by_cases hx : x.toList = nameAt l i
    · refine ⟨i, ⟨1, fun k hk => ?_⟩, ⟨fun _ => ⟨i, Nat.le_refl _, by omega, hx⟩, fun _ => by omega⟩⟩
      obtain ⟨k, rfl⟩ := fuel hk
      simp only [slices_Index_string_string.l0]
      rw [if_pos (by omega), if_pos (by omega), if_pos (by omega), if_pos hx]
    · refine ⟨r, ⟨K + 1, fun k hk => ?_⟩, hr.trans ⟨fun ⟨a, h1, h2, h3⟩ => ⟨a, by omega, h2, h3⟩, fun ⟨a, h1, h2, h3⟩ => ?_⟩⟩
      · obtain ⟨k, rfl⟩ := fuel hk
        simp only [slices_Index_string_string.l0]
        rw [if_pos (by omega), if_pos (by omega), if_pos (by omega), if_neg hx, wrap_n (by omega)]
        exact hK k (by omega)
      · rcases Nat.eq_or_lt_of_le h1 with e | hlt
        · subst e
          exact absurd h3 hx
        · exact ⟨a, hlt, h2, h3⟩
theorem twice_l0 (cs : List ByteArray) (hl : cs.length ≤ 9223372036854775807) : ∀ (d i : Nat), i + d = cs.length →
    ∃ t, Ev (fun k => contest_twice.l0 k cs cs (cs.length : Int) (i : Int)) t ∧ (t = true ↔ ∃ a b, i ≤ a ∧ a < cs.length ∧ b < a ∧ nameAt cs a = nameAt cs b)
  | 0, i, h => ⟨false, ⟨1, fun k hk => by
    obtain ⟨k, rfl⟩ := fuel hk
    simp only [contest_twice.l0]
    rw [if_neg (by omega)]⟩, ⟨fun h => (by cases h), fun ⟨a, b, h1, h2, _⟩ => by omega⟩⟩
  | d + 1, i, h => by
    obtain ⟨t, ⟨K, hK⟩, ht⟩ := twice_l0 cs hl d (i + 1) (by omega)
    have htl : (cs.take i).length = i := by rw [List.length_take]; omega
    obtain ⟨r, ⟨K2, hK2⟩, hr⟩ := sindex_l0 (cs.take i) (rdOf ByteArray.empty cs (i : Int)) (by omega) i 0 (by omega)
    have hcon : ∀ k, K2 ≤ k → slices_Contains_string_string.f k (cs.take i) (rdOf ByteArray.empty cs (i : Int)) = some (decide (r ≥ 0)) := by
      intro k hk
      have h0 : slices_Index_string_string.l0 k (cs.take i) (rdOf ByteArray.empty cs (i : Int)) ((cs.take i).length : Int) 0 = some r := hK2 k hk
      unfold slices_Contains_string_string.f slices_Index_string_string.f
      rw [h0]
      rfl
    by_cases hx : r ≥ 0
    · obtain ⟨b, _, hb, he⟩ := hr.1 hx
      refine ⟨true, ⟨K2 + 1, fun k hk => ?_⟩, ⟨fun _ => ⟨i, b, Nat.le_refl _, by omega, by omega, ?_⟩, fun _ => rfl⟩⟩
      · obtain ⟨k, rfl⟩ := fuel hk
        simp only [contest_twice.l0]
        rw [if_pos (by omega), if_pos (by omega), if_pos (by omega), if_pos (by omega), Int.toNat_natCast, hcon k (by omega), Option.bind_some, if_pos (by simpa using hx)]
      · unfold nameAt at he ⊢
        rw [rdOf_take cs i b (by omega)] at he
        exact he
    · refine ⟨t, ⟨K + K2 + 1, fun k hk => ?_⟩, ht.trans ⟨fun ⟨a, b, h1, h2⟩ => ⟨a, b, by omega, h2⟩, fun ⟨a, b, h1, h2, h3, h4⟩ => ?_⟩⟩
      · obtain ⟨k, rfl⟩ := fuel hk
        simp only [contest_twice.l0]
        rw [if_pos (by omega), if_pos (by omega), if_pos (by omega), if_pos (by omega), Int.toNat_natCast, hcon k (by omega), Option.bind_some, if_neg (by simpa using hx), wrap_n (by omega)]
        exact hK k (by omega)
      · rcases Nat.eq_or_lt_of_le h1 with e | hlt
        · subst e
          refine absurd (hr.2 ⟨b, Nat.zero_le _, by omega, ?_⟩) hx
          unfold nameAt at h4 ⊢
          rw [rdOf_take cs i b h3]
          exact h4
        · exact ⟨a, b, hlt, h2, h3, h4⟩
/-! #### the reference's May -/
def seatsB (rule seats : Int) (n : Nat) : Bool := if 5 ≤ rule ∧ rule ≤ 10 then seats == 1 else if 14 ≤ rule ∧ rule ≤ 16 then true else decide (seats ≤ (n : Int))
theorem one_at (r : Int) : suffrageref07_One.f r = some (decide (5 ≤ r ∧ r ≤ 10)) := by
  unfold suffrageref07_One.f
  by_cases h : r ≥ 5
  · rw [if_pos h]
    congr 1
    rw [Bool.eq_iff_iff]
    simp
    omega
  · rw [if_neg h]
    congr 1
    simp
    omega
theorem lists_at (r : Int) : suffrageref07_Lists.f r = some (decide (14 ≤ r ∧ r ≤ 16)) := by
  unfold suffrageref07_Lists.f
  by_cases h : r ≥ 14
  · rw [if_pos h]
    congr 1
    rw [Bool.eq_iff_iff]
    simp
    omega
  · rw [if_neg h]
    congr 1
    simp
    omega
theorem is_at (r : Int) : suffrageref07_Is.f r = some (decide (1 ≤ r ∧ r ≤ 16)) := by
  unfold suffrageref07_Is.f
  by_cases h : r ≥ 1
  · rw [if_pos h]
    congr 1
    rw [Bool.eq_iff_iff]
    simp
    omega
  · rw [if_neg h]
    congr 1
    simp
    omega
theorem m_l1 (nm : ByteArray) (cs : List ByteArray) (seats rule : Int) (i : Nat) (hi : i < cs.length) (hl : cs.length ≤ 1000) (r : Bool) (hE : Ev (fun k => suffrageref07_May.l0 k (wrap64 ((i : Int) + 1)) nm cs seats rule) r) :
    ∀ (d j : Nat), j + d = i → ∃ t, Ev (fun k => suffrageref07_May.l1 k (i : Int) (j : Int) nm cs seats rule) t ∧ (t = true ↔ (∀ b, j ≤ b → b < i → nameAt cs i ≠ nameAt cs b) ∧ r = true)
  | 0, j, h => by
    obtain ⟨K, hK⟩ := hE
    refine ⟨r, ⟨K + 1, fun k hk => ?_⟩, ⟨fun h => ⟨fun b h1 h2 => by omega, h⟩, fun h => h.2⟩⟩
    obtain ⟨k, rfl⟩ := fuel hk
    simp only [suffrageref07_May.l1]
    rw [if_neg (by omega)]
    exact hK k (by omega)
  | d + 1, j, h => by
    obtain ⟨t, ⟨K, hK⟩, ht⟩ := m_l1 nm cs seats rule i hi hl r hE d (j + 1) (by omega)
    by_cases hx : nameAt cs j = nameAt cs i
    · refine ⟨false, ⟨1, fun k hk => ?_⟩, ⟨fun h => (by cases h), fun H => absurd hx.symm (H.1 j (Nat.le_refl _) (by omega))⟩⟩
      obtain ⟨k, rfl⟩ := fuel hk
      simp only [suffrageref07_May.l1]
      rw [if_pos (by omega), if_pos (by omega), if_pos (by omega), if_pos (by omega), if_pos (by omega), if_pos hx]
    · refine ⟨t, ⟨K + 1, fun k hk => ?_⟩, ht.trans ⟨fun H => ⟨fun b h1 h2 => ?_, H.2⟩, fun H => ⟨fun b h1 h2 => H.1 b (by omega) h2, H.2⟩⟩⟩
      · obtain ⟨k, rfl⟩ := fuel hk
        simp only [suffrageref07_May.l1]
        rw [if_pos (by omega), if_pos (by omega), if_pos (by omega), if_pos (by omega), if_pos (by omega), if_neg hx, wrap_n (by omega)]
        exact hK k (by omega)
      · rcases Nat.eq_or_lt_of_le h1 with e | hlt
        · subst e
          exact fun e => hx e.symm
        · exact H.1 b hlt h2
theorem m_l0 (nm : ByteArray) (cs : List ByteArray) (seats rule : Int) (hl : cs.length ≤ 1000) (hs : ∀ s ∈ cs, s.size ≤ 9223372036854775807) : ∀ (d i : Nat), i + d = cs.length →
    ∃ t, Ev (fun k => suffrageref07_May.l0 k (i : Int) nm cs seats rule) t ∧ (t = true ↔ (∀ a, i ≤ a → a < cs.length → oddName (rdOf ByteArray.empty cs (a : Int)) = false ∧ ∀ b, b < a → nameAt cs a ≠ nameAt cs b) ∧ seatsB rule seats cs.length = true)
  | 0, i, h => by
    refine ⟨seatsB rule seats cs.length, ⟨1, fun k hk => ?_⟩, ⟨fun h => ⟨fun a h1 h2 => by omega, h⟩, fun h => h.2⟩⟩
    obtain ⟨k, rfl⟩ := fuel hk
    simp only [suffrageref07_May.l0]
    rw [if_neg (by omega), one_at, Option.bind_some]
    unfold seatsB
    by_cases h1 : 5 ≤ rule ∧ rule ≤ 10
    · rw [if_pos (by simpa using h1), if_pos h1]
    · rw [if_neg (by simpa using h1), if_neg h1, lists_at, Option.bind_some]
      by_cases h2 : 14 ≤ rule ∧ rule ≤ 16
      · rw [if_pos (by simpa using h2), if_pos h2]
      · rw [if_neg (by simpa using h2), if_neg h2]
  | d + 1, i, h => by
    have hi : i < cs.length := by omega
    obtain ⟨t, hE, ht⟩ := m_l0 nm cs seats rule hl hs d (i + 1) (by omega)
    have hmem : rdOf ByteArray.empty cs (i : Int) ∈ cs := by
      simp [rdOf, List.getD_eq_getElem?_getD, List.getElem?_eq_getElem hi]
    obtain ⟨K2, hK2⟩ := name_ev (rdOf ByteArray.empty cs (i : Int)) (hs _ hmem)
    dsimp only at hK2
    obtain ⟨t2, ⟨K, hK⟩, ht2⟩ := m_l1 nm cs seats rule i hi hl t (by rw [wrap_n (by omega)]; exact hE) i 0 (by omega)
    cases hn : oddName (rdOf ByteArray.empty cs (i : Int)) with
    | true =>
      refine ⟨false, ⟨K2 + 1, fun k hk => ?_⟩, ⟨fun h => (by cases h), fun H => ?_⟩⟩
      · obtain ⟨k, rfl⟩ := fuel hk
        simp only [suffrageref07_May.l0]
        rw [if_pos (by omega), if_pos (by omega), hK2 k (by omega), Option.bind_some, hn]
        rfl
      · have := (H.1 i (Nat.le_refl _) hi).1
        rw [hn] at this
        cases this
    | false =>
      refine ⟨t2, ⟨K + K2 + 1, fun k hk => ?_⟩, ht2.trans ⟨fun H => ⟨fun a h1 h2 => ?_, (ht.1 H.2).2⟩, fun H => ⟨fun b _ h2 => (H.1 i (Nat.le_refl _) hi).2 b h2, ht.2 ⟨fun a h1 h2 => H.1 a (by omega) h2, H.2⟩⟩⟩⟩
      · obtain ⟨k, rfl⟩ := fuel hk
        simp only [suffrageref07_May.l0]
        rw [if_pos (by omega), if_pos (by omega), hK2 k (by omega), Option.bind_some, hn, if_pos (by simp)]
        exact hK k (by omega)
      · rcases Nat.eq_or_lt_of_le h1 with e | hlt
        · subst e
          exact ⟨hn, fun b hb => H.1 b (Nat.zero_le _) hb⟩
        · exact (ht.1 H.2).1 a hlt h2
/-! #### both checks -/
def Fine (nm : ByteArray) (cs : List ByteArray) (seats rule : Int) : Prop :=
  oddName nm = false ∧ 1 ≤ cs.length ∧ cs.length ≤ 10 ∧ (1 ≤ rule ∧ rule ≤ 16) ∧ (1 ≤ seats ∧ seats ≤ 10) ∧ (∀ a, a < cs.length → oddName (rdOf ByteArray.empty cs (a : Int)) = false ∧ ∀ b, b < a → nameAt cs a ≠ nameAt cs b) ∧ seatsB rule seats cs.length = true
theorem r_check (nm : ByteArray) (cs : List ByteArray) (seats rule : Int) (hnm : nm.size ≤ 9223372036854775807) (hs : ∀ s ∈ cs, s.size ≤ 9223372036854775807) :
    ∃ e, Ev (fun k => suffrageref07_Check.f k nm cs seats rule) e ∧ (cs.length > 10 → e = 4) ∧ (cs.length ≤ 10 → (e = 0 ∨ e = 8) ∧ (e = 0 ↔ Fine nm cs seats rule)) := by
  by_cases h10 : cs.length > 10
  · refine ⟨4, ⟨0, fun k _ => ?_⟩, fun _ => rfl, fun h => by omega⟩
    unfold suffrageref07_Check.f
    dsimp only
    rw [if_pos (by omega)]
  · have hmay : ∃ m, Ev (fun k => suffrageref07_May.f k nm cs seats rule) m ∧ (m = true ↔ Fine nm cs seats rule) := by
      obtain ⟨K2, hK2⟩ := name_ev nm hnm
      dsimp only at hK2
      have bad : ∀ k, suffrageref07_May.j0 (k + 1) true nm cs seats rule = some false := fun k => by simp [suffrageref07_May.j0]
      cases hn : oddName nm with
      | true =>
        refine ⟨false, ⟨K2 + 1, fun k hk => ?_⟩, ⟨fun h => (by cases h), fun H => (by have := H.1; rw [hn] at this; cases this)⟩⟩
        obtain ⟨k, rfl⟩ := fuel hk
        unfold suffrageref07_May.f
        dsimp only
        rw [hK2 _ (by omega), Option.bind_some, hn, if_neg (by simp), bad]
      | false =>
        by_cases h1 : cs.length < 1
        · refine ⟨false, ⟨K2 + 1, fun k hk => ?_⟩, ⟨fun h => (by cases h), fun H => (by have := H.2.1; omega)⟩⟩
          obtain ⟨k, rfl⟩ := fuel hk
          unfold suffrageref07_May.f
          dsimp only
          rw [hK2 _ (by omega), Option.bind_some, hn, if_pos (by simp), if_pos (by omega), bad]
        · by_cases hr : 1 ≤ rule ∧ rule ≤ 16
          · by_cases hse : 1 ≤ seats ∧ seats ≤ 10
            · obtain ⟨t, ⟨K, hK⟩, ht⟩ := m_l0 nm cs seats rule (by omega) hs cs.length 0 (by omega)
              refine ⟨t, ⟨K + K2 + 1, fun k hk => ?_⟩, ht.trans ⟨fun H => ⟨hn, by omega, by omega, hr, hse, fun a ha => H.1 a (Nat.zero_le _) ha, H.2⟩, fun H => ⟨fun a _ ha => H.2.2.2.2.2.1 a ha, H.2.2.2.2.2.2⟩⟩⟩
              obtain ⟨k, rfl⟩ := fuel hk
              unfold suffrageref07_May.f
              have hd : decide (seats > 10) = false := by simp; omega
              dsimp only
              rw [hK2 _ (by omega), Option.bind_some, hn, if_pos (by simp), if_neg (by omega), if_neg (by omega), is_at, Option.bind_some, if_pos (by simpa using hr), if_neg (by omega), hd]
              simp only [suffrageref07_May.j0, Bool.false_eq_true, if_false]
              exact hK k (by omega)
            · refine ⟨false, ⟨K2 + 1, fun k hk => ?_⟩, ⟨fun h => (by cases h), fun H => absurd H.2.2.2.2.1 hse⟩⟩
              obtain ⟨k, rfl⟩ := fuel hk
              unfold suffrageref07_May.f
              dsimp only
              rw [hK2 _ (by omega), Option.bind_some, hn, if_pos (by simp), if_neg (by omega), if_neg (by omega), is_at, Option.bind_some, if_pos (by simpa using hr)]
              by_cases h2 : seats < 1
              · rw [if_pos h2, bad]
              · have hd : decide (seats > 10) = true := by simp; omega
                rw [if_neg h2, hd, bad]
          · refine ⟨false, ⟨K2 + 1, fun k hk => ?_⟩, ⟨fun h => (by cases h), fun H => absurd H.2.2.2.1 hr⟩⟩
            obtain ⟨k, rfl⟩ := fuel hk
            unfold suffrageref07_May.f
            dsimp only
            rw [hK2 _ (by omega), Option.bind_some, hn, if_pos (by simp), if_neg (by omega), if_neg (by omega), is_at, Option.bind_some, if_neg (by simpa using hr), bad]
    obtain ⟨m, ⟨K, hK⟩, hm⟩ := hmay
    dsimp only at hK
    refine ⟨if m = true then 0 else 8, ⟨K, fun k hk => ?_⟩, fun h => absurd h h10, fun _ => ⟨by split <;> simp, ?_⟩⟩
    · unfold suffrageref07_Check.f
      dsimp only
      rw [if_neg (by omega), hK k hk, Option.bind_some]
      split <;> rfl
    · rw [← hm]
      cases m <;> simp
theorem a_check (nm : ByteArray) (cs : List ByteArray) (seats rule : Int) (hr : 0 ≤ rule ∧ rule ≤ 255) :
    ∃ e, Ev (fun k => contest_Check.f k nm cs seats rule) e ∧ (cs.length > 10 → e = 4) ∧ (cs.length ≤ 10 → (e = 0 ∨ e = 8) ∧ (e = 0 ↔ Fine nm cs seats rule)) := by
  by_cases h10 : cs.length > 10
  · refine ⟨4, ⟨0, fun k _ => ?_⟩, fun _ => rfl, fun h => by omega⟩
    unfold contest_Check.f
    dsimp only
    rw [if_pos (by omega)]
  · by_cases h0 : cs.length = 0
    · refine ⟨8, ⟨0, fun k _ => ?_⟩, fun h => absurd h h10, fun _ => ⟨.inr rfl, fun h => (by cases h), fun H => (by have := H.2.1; omega)⟩⟩
      unfold contest_Check.f
      dsimp only
      rw [if_neg (by omega), if_pos (by omega)]
    · have hodd1 : contest_odd.f [nm] = some (oddName nm) := by simp [contest_odd.f, anyName]
      have z1 : 1 ≤ cs.length := by omega
      have z2 : cs.length ≤ 10 := by omega
      have z3 : ¬ ((cs.length : Int) > 10) := by omega
      have z4 : ¬ ((cs.length : Int) = 0) := by omega
      cases hn : oddName nm with
      | true =>
        refine ⟨8, ⟨0, fun k _ => ?_⟩, fun h => absurd h h10, fun _ => ⟨.inr rfl, fun h => (by cases h), fun H => (by have := H.1; rw [hn] at this; cases this)⟩⟩
        unfold contest_Check.f
        dsimp only
        rw [if_neg (by omega), if_neg (by omega), hodd1, Option.bind_some, if_pos hn]
      | false =>
        have hany : (anyName cs = true ↔ ∃ a, a < cs.length ∧ oddName (rdOf ByteArray.empty cs (a : Int)) = true) := by
          unfold anyName
          rw [List.any_eq_true]
          constructor
          · rintro ⟨x, hx, h⟩
            obtain ⟨a, ha, rfl⟩ := List.mem_iff_getElem.1 hx
            exact ⟨a, ha, by simpa [rdOf, List.getD_eq_getElem?_getD, List.getElem?_eq_getElem ha] using h⟩
          · rintro ⟨a, ha, h⟩
            exact ⟨cs[a], List.getElem_mem ha, by simpa [rdOf, List.getD_eq_getElem?_getD, List.getElem?_eq_getElem ha] using h⟩
        have hodd2 : contest_odd.f cs = some (anyName cs) := rfl
        cases ha : anyName cs with
        | true =>
          obtain ⟨a, ha1, ha2⟩ := hany.1 ha
          refine ⟨8, ⟨0, fun k _ => ?_⟩, fun h => absurd h h10, fun _ => ⟨.inr rfl, fun h => (by cases h), fun H => (by have := (H.2.2.2.2.2.1 a ha1).1; rw [ha2] at this; cases this)⟩⟩
          unfold contest_Check.f
          dsimp only
          rw [if_neg (by omega), if_neg (by omega), hodd1, Option.bind_some, if_neg (by simp [hn]), hodd2, Option.bind_some, if_pos ha]
        | false =>
          have hnone : ∀ a, a < cs.length → oddName (rdOf ByteArray.empty cs (a : Int)) = false := by
            intro a ha1
            cases h : oddName (rdOf ByteArray.empty cs (a : Int)) with
            | false => rfl
            | true => rw [hany.2 ⟨a, ha1, h⟩] at ha; cases ha
          obtain ⟨t, ⟨K, hK⟩, ht⟩ := twice_l0 cs (by omega) cs.length 0 (by omega)
          have hK' : ∀ k, K ≤ k → contest_twice.f k cs = some t := hK
          by_cases htt : t = true
          · obtain ⟨a, b, _, h2, h3, h4⟩ := ht.1 htt
            refine ⟨8, ⟨K, fun k hk => ?_⟩, fun h => absurd h h10, fun _ => ⟨.inr rfl, fun h => (by cases h), fun H => absurd h4 ((H.2.2.2.2.2.1 a h2).2 b h3)⟩⟩
            unfold contest_Check.f
            dsimp only
            rw [if_neg (by omega), if_neg (by omega), hodd1, Option.bind_some, if_neg (by simp [hn]), hodd2, Option.bind_some, if_neg (by simp [ha]), hK' k hk, Option.bind_some, if_pos htt]
          · have hfits : ∃ f, (∀ k, 1 ≤ k → contest_fits.f k nm cs seats rule = some f) ∧ (f = true ↔ (1 ≤ rule ∧ rule ≤ 16) ∧ (1 ≤ seats ∧ seats ≤ 10) ∧ seatsB rule seats cs.length = true) := by
              by_cases hse : 1 ≤ seats ∧ seats ≤ 10
              · have hof : contest_of.f rule = some (ruleRow rule.toNat) := by
                  unfold contest_of.f
                  rw [if_pos hr.1, if_pos hr.2]
                have hd : decide (seats > 10) = false := by simp; omega
                obtain ⟨m, rfl⟩ : ∃ m : Nat, rule = (m : Int) := ⟨rule.toNat, by omega⟩
                have hrow : (ruleRow m).2.2.1 = if 5 ≤ m ∧ m ≤ 10 then 1 else if 14 ≤ m ∧ m ≤ 16 then 3 else if 1 ≤ m ∧ m ≤ 16 then 2 else 0 := by
                  rcases Nat.lt_or_ge m 17 with h17 | h17
                  · have : m = 0 ∨ m = 1 ∨ m = 2 ∨ m = 3 ∨ m = 4 ∨ m = 5 ∨ m = 6 ∨ m = 7 ∨ m = 8 ∨ m = 9 ∨ m = 10 ∨ m = 11 ∨ m = 12 ∨ m = 13 ∨ m = 14 ∨ m = 15 ∨ m = 16 := by omega
                    rcases this with rfl | rfl | rfl | rfl | rfl | rfl | rfl | rfl | rfl | rfl | rfl | rfl | rfl | rfl | rfl | rfl | rfl <;> rfl
                  · rw [if_neg (by omega), if_neg (by omega), if_neg (by omega)]
                    unfold ruleRow
                    split <;> first | rfl | omega
                refine ⟨if 5 ≤ m ∧ m ≤ 10 then seats == 1 else if 14 ≤ m ∧ m ≤ 16 then true else if 1 ≤ m ∧ m ≤ 16 then decide (seats ≤ (cs.length : Int)) else false, fun k hk => ?_, ?_⟩
                · obtain ⟨k, rfl⟩ := fuel hk
                  unfold contest_fits.f
                  rw [if_neg (by omega), hd]
                  simp only [contest_fits.j0, Bool.false_eq_true, if_false, hof, Option.bind_some, Int.toNat_natCast, hrow]
                  by_cases c1 : 5 ≤ m ∧ m ≤ 10
                  · rw [if_pos c1, if_pos c1, if_pos rfl]
                  · rw [if_neg c1, if_neg c1]
                    by_cases c2 : 14 ≤ m ∧ m ≤ 16
                    · rw [if_pos c2, if_pos c2, if_neg (by decide), if_neg (by decide), if_pos rfl]
                    · rw [if_neg c2, if_neg c2]
                      by_cases c3 : 1 ≤ m ∧ m ≤ 16
                      · rw [if_pos c3, if_pos c3, if_neg (by decide), if_pos rfl]
                      · rw [if_neg c3, if_neg c3, if_neg (by decide), if_neg (by decide), if_neg (by decide)]
                · unfold seatsB
                  by_cases c1 : 5 ≤ m ∧ m ≤ 10
                  · rw [if_pos c1, if_pos (show 5 ≤ (m : Int) ∧ (m : Int) ≤ 10 by omega)]
                    exact ⟨fun h => ⟨by omega, hse, h⟩, fun h => h.2.2⟩
                  · rw [if_neg c1, if_neg (show ¬ (5 ≤ (m : Int) ∧ (m : Int) ≤ 10) by omega)]
                    by_cases c2 : 14 ≤ m ∧ m ≤ 16
                    · rw [if_pos c2, if_pos (show 14 ≤ (m : Int) ∧ (m : Int) ≤ 16 by omega)]
                      exact ⟨fun h => ⟨by omega, hse, h⟩, fun h => h.2.2⟩
                    · rw [if_neg c2, if_neg (show ¬ (14 ≤ (m : Int) ∧ (m : Int) ≤ 16) by omega)]
                      by_cases c3 : 1 ≤ m ∧ m ≤ 16
                      · rw [if_pos c3]
                        exact ⟨fun h => ⟨by omega, hse, h⟩, fun h => h.2.2⟩
                      · rw [if_neg c3]
                        exact ⟨fun h => (by cases h), fun h => (by omega)⟩
              · refine ⟨false, fun k hk => ?_, ⟨fun h => (by cases h), fun h => absurd h.2.1 hse⟩⟩
                obtain ⟨k, rfl⟩ := fuel hk
                unfold contest_fits.f
                by_cases h2 : seats < 1
                · rw [if_pos h2]
                  simp [contest_fits.j0]
                · have hd : decide (seats > 10) = true := by simp; omega
                  rw [if_neg h2, hd]
                  simp [contest_fits.j0]
            obtain ⟨f, hf, hf2⟩ := hfits
            refine ⟨if f = true then 0 else 8, ⟨K + 1, fun k hk => ?_⟩, fun h => absurd h h10, fun _ => ⟨by split <;> simp, ?_⟩⟩
            · unfold contest_Check.f
              dsimp only
              rw [if_neg z3, if_neg z4, hodd1, Option.bind_some, if_neg (by simp [hn]), hodd2, Option.bind_some, if_neg (by simp [ha]), hK' k (Nat.le_of_succ_le hk), Option.bind_some, if_neg htt, hf k (Nat.le_trans (Nat.le_add_left 1 K) hk), Option.bind_some]
              split <;> rfl
            · have : ((if f = true then (0 : Int) else 8) = 0 ↔ f = true) := by cases f <;> simp
              rw [this, hf2]
              unfold Fine
              refine ⟨fun h => ⟨hn, z1, z2, h.1, h.2.1, fun a h1 => ⟨hnone a h1, fun b h2 h3 => htt (ht.2 ⟨a, b, Nat.zero_le _, h1, h2, h3⟩)⟩, h.2.2⟩, fun H => ⟨H.2.2.2.1, H.2.2.2.2.1, H.2.2.2.2.2.2⟩⟩
/-! #### what is too large -/
theorem g07_l0 (nm : ByteArray) (cs : List ByteArray) (seats rule : Int) (hl : cs.length ≤ 1000) : ∀ (d i : Nat), i + d = cs.length → ∃ b, Ev (fun k => suffrageref07_Great.l0 k (i : Int) nm cs seats rule) b
  | 0, i, h => ⟨false, 1, fun k hk => by
    obtain ⟨k, rfl⟩ := fuel hk
    simp only [suffrageref07_Great.l0]
    rw [if_neg (by omega)]⟩
  | d + 1, i, h => by
    obtain ⟨b, K, hK⟩ := g07_l0 nm cs seats rule hl d (i + 1) (by omega)
    by_cases hx : ((rdOf ByteArray.empty cs (i : Int)).size : Int) > 1000
    · refine ⟨true, 1, fun k hk => ?_⟩
      obtain ⟨k, rfl⟩ := fuel hk
      simp only [suffrageref07_Great.l0]
      rw [if_pos (by omega), if_pos (by omega), if_pos hx]
    · refine ⟨b, K + 1, fun k hk => ?_⟩
      obtain ⟨k, rfl⟩ := fuel hk
      simp only [suffrageref07_Great.l0]
      rw [if_pos (by omega), if_pos (by omega), if_neg hx, wrap_n (by omega)]
      exact hK k (by omega)
theorem g07 (nm : ByteArray) (cs : List ByteArray) (seats rule : Int) : ∃ b, Ev (fun k => suffrageref07_Great.f k nm cs seats rule) b ∧ (b = false → cs.length ≤ 100) := by
  by_cases h : cs.length > 100
  · refine ⟨true, ⟨1, fun k hk => ?_⟩, fun e => (by cases e)⟩
    obtain ⟨k, rfl⟩ := fuel hk
    unfold suffrageref07_Great.f
    dsimp only
    rw [if_pos (by omega)]
    simp [suffrageref07_Great.j0]
  · obtain ⟨b, K, hK⟩ := g07_l0 nm cs seats rule (by omega) cs.length 0 (by omega)
    refine ⟨if nm.size > 1000 then true else b, ⟨K + 1, fun k hk => ?_⟩, fun _ => by omega⟩
    obtain ⟨k, rfl⟩ := fuel hk
    unfold suffrageref07_Great.f
    dsimp only
    rw [if_neg (by omega)]
    by_cases h2 : nm.size > 1000
    · have hd : decide ((nm.size : Int) > 1000) = true := by simp; omega
      rw [hd, if_pos h2]
      simp [suffrageref07_Great.j0]
    · have hd : decide ((nm.size : Int) > 1000) = false := by simp; omega
      rw [hd, if_neg h2]
      simp only [suffrageref07_Great.j0, Bool.false_eq_true, if_false]
      exact hK k (by omega)
theorem g41_j1 (el : List Int) (rs : List S74) (ts : List S148) (i : Int) : ∃ b, (∀ k, suffrageref41_Great.j1 (k + 1) i false 0 0 0 [] el rs ts = some b) ∧ (b = false → rs.length ≤ 40 ∧ el.length ≤ 40) := by
  by_cases h : rs.length > 40
  · refine ⟨true, fun k => ?_, fun e => (by cases e)⟩
    simp only [suffrageref41_Great.j1, Bool.false_eq_true, if_false]
    rw [if_neg (by simp), if_pos (by omega)]
  · refine ⟨decide ((el.length : Int) > 40), fun k => ?_, fun e => ⟨by omega, by simp at e; omega⟩⟩
    simp only [suffrageref41_Great.j1, Bool.false_eq_true, if_false]
    rw [if_neg (by simp), if_neg (by omega)]
theorem g41_l0 (el : List Int) (rs : List S74) (ts : List S148) : ∀ (d i : Nat), i + d = 41 → ∃ b, Ev (fun k => suffrageref41_Great.l0 k (i : Int) 0 0 0 [] el rs ts) b ∧ (b = false → rs.length ≤ 40 ∧ el.length ≤ 40)
  | 0, i, h => by
    obtain ⟨b, hb, hf⟩ := g41_j1 el rs ts (i : Int)
    refine ⟨b, ⟨2, fun k hk => ?_⟩, hf⟩
    obtain ⟨k, rfl⟩ : ∃ m, k = m + 2 := ⟨k - 2, by omega⟩
    simp only [suffrageref41_Great.l0]
    have hd : decide ((i : Int) ≤ 40) = false := by simp; omega
    rw [hd, ite_self]
    exact hb k
  | d + 1, i, h => by
    obtain ⟨b, ⟨K, hK⟩, hf⟩ := g41_l0 el rs ts d (i + 1) (by omega)
    by_cases hi : i < rs.length
    · have hd : decide ((i : Int) ≤ 40) = true := by simp; omega
      by_cases hx : (((rd_T74 rs (i : Int)).f3).length : Int) > 40
      · refine ⟨true, ⟨2, fun k hk => ?_⟩, fun e => (by cases e)⟩
        obtain ⟨k, rfl⟩ : ∃ m, k = m + 2 := ⟨k - 2, by omega⟩
        simp only [suffrageref41_Great.l0]
        rw [if_pos (by omega), hd]
        simp only [suffrageref41_Great.j1]
        rw [if_pos trivial, if_pos (by omega), if_pos (by omega), if_pos hx]
      · refine ⟨b, ⟨K + 2, fun k hk => ?_⟩, hf⟩
        obtain ⟨k, rfl⟩ : ∃ m, k = m + 2 := ⟨k - 2, by omega⟩
        simp only [suffrageref41_Great.l0]
        rw [if_pos (by omega), hd]
        simp only [suffrageref41_Great.j1]
        rw [if_pos trivial, if_pos (by omega), if_pos (by omega), if_neg hx, wrap_n (by omega)]
        exact hK k (by omega)
    · obtain ⟨b, hb, hf⟩ := g41_j1 el rs ts (i : Int)
      refine ⟨b, ⟨2, fun k hk => ?_⟩, hf⟩
      obtain ⟨k, rfl⟩ : ∃ m, k = m + 2 := ⟨k - 2, by omega⟩
      simp only [suffrageref41_Great.l0]
      rw [if_neg (by omega)]
      exact hb k
/-! #### the assertions of an outcome -/
theorem both (nm : ByteArray) (cs : List ByteArray) (seats rule : Int) (el : List Int) (rs : List S74) (ts : List S148) (hnm : nm.size ≤ 9223372036854775807) (hs : ∀ s ∈ cs, s.size ≤ 9223372036854775807) (hr : 0 ≤ rule ∧ rule ≤ 255) (hc : cs.length ≤ 100) (hrs : rs.length ≤ 40) (hel : el.length ≤ 40) :
    ∃ p : List S24 × Int, Ev (fun k => assert_Of.f k nm cs seats rule el rs ts) p ∧ Ev (fun k => suffrageref41_Of.f k nm cs seats rule el rs ts) p ∧ p.1.length ≤ 9223372036854775807 ∧ ∀ x ∈ p.1, x.f3.length ≤ 9223372036854775807 := by
  obtain ⟨e, ⟨K1, h1⟩, e1, e2⟩ := a_check nm cs seats rule hr
  obtain ⟨e', ⟨K2, h2⟩, e1', e2'⟩ := r_check nm cs seats rule hnm hs
  dsimp only at h1 h2
  obtain rfl : e = e' := by
    by_cases h10 : cs.length > 10
    · rw [e1 h10, e1' h10]
    · have a1 := e2 (by omega)
      have a2 := e2' (by omega)
      by_cases hf : Fine nm cs seats rule
      · rw [a1.2.2 hf, a2.2.2 hf]
      · have b1 : e ≠ 0 := fun h => hf (a1.2.1 h)
        have b2 : e' ≠ 0 := fun h => hf (a2.2.1 h)
        omega
  have small : ∀ q : Int, (([], q) : List S24 × Int).1.length ≤ 9223372036854775807 ∧ ∀ x ∈ (([], q) : List S24 × Int).1, x.f3.length ≤ 9223372036854775807 := fun q => ⟨by simp, fun x hx => by simp at hx⟩
  by_cases he : e = 0
  · have hfine : Fine nm cs seats rule := by
      by_cases h10 : cs.length > 10
      · have := e1 h10
        omega
      · exact (e2 (by omega)).2.1 he
    obtain ⟨K3, h3⟩ := by_ev rule
    dsimp only at h3
    by_cases hk : kindOf rule = none
    · refine ⟨([], 6), ⟨K1, fun k hkk => ?_⟩, ⟨K2 + K3, fun k hkk => ?_⟩, small 6⟩
      · unfold assert_Of.f
        dsimp only
        rw [h1 k hkk, Option.bind_some, if_pos he, if_pos hk]
      · unfold suffrageref41_Of.f
        dsimp only
        rw [h2 k (by omega), Option.bind_some, if_pos he, h3 k (by omega), Option.bind_some, if_pos ((kindOf_zero rule).2 hk)]
    · have hk0 : ¬ ((kindOf rule).getD 0 = 0) := fun h => hk ((kindOf_zero rule).1 h)
      have hp := List.mergeSort_perm el fun x y => decide (x ≤ y)
      have hsort := List.pairwise_mergeSort (le := fun x y : Int => decide (x ≤ y)) (fun a b c h1 h2 => by simp at *; omega) (fun a b => by simp; omega) el
      have hlen : (el.mergeSort fun x y => decide (x ≤ y)).length = el.length := hp.length_eq
      generalize hS : (el.mergeSort fun x y => decide (x ≤ y)) = s at *
      obtain ⟨t, ⟨K4, h4⟩, ht⟩ := rising_l0 s (cs.length : Int) (by omega) s.length 0 (by omega)
      obtain ⟨t', ⟨K5, h5⟩, ht'⟩ := elected_l0 el (cs.length : Int) (by omega) el.length 0 (by omega)
      have h4' : ∀ k, K4 ≤ k → assert_rising.f k s (cs.length : Int) = some t := h4
      have h5' : ∀ k, K5 ≤ k → suffrageref41_elected.l0 k el (cs.length : Int) 0 = some t' := h5
      have htt : t = t' := by
        rw [Bool.eq_iff_iff, ht, ht']
        exact rising_elected el s (cs.length : Int) hp hsort
      subst htt
      by_cases hseat : (el.length : Int) = seats
      · by_cases htr : t = true
        · have hpos : 0 < el.length := by
            have := hfine.2.2.2.2.1.1
            omega
          by_cases h4k : (kindOf rule).getD 0 = 4
          · obtain ⟨K6, h6⟩ := a_runoff cs.length (by omega) el hpos rs ts (by omega)
            obtain ⟨p, ⟨K7, h7⟩, hp2, hp3⟩ := r_runoff cs.length (by omega) el hpos rs ts (by omega)
            dsimp only at h6 h7
            refine ⟨if (runs cs.length el rs).2 = true then ((runs cs.length el rs).1, 0) else ([], 8), ⟨K1 + K4 + K6, fun k hkk => ?_⟩, ⟨K2 + K3 + K5 + K7, fun k hkk => ?_⟩, ?_⟩
            · unfold assert_Of.f
              dsimp only
              rw [h1 k (by omega), Option.bind_some, if_pos he, if_neg hk, if_pos (by omega), hS, if_pos (by omega), h4' k (by omega), Option.bind_some, if_pos htr, if_pos h4k, h6 k (by omega), Option.bind_some]
              split <;> rfl
            · unfold suffrageref41_Of.f suffrageref41_elected.f
              dsimp only
              rw [h2 k (by omega), Option.bind_some, if_pos he, h3 k (by omega), Option.bind_some, if_neg hk0, if_pos hseat, h5' k (by omega), Option.bind_some, if_pos htr, if_pos h4k, h7 k (by omega), Option.bind_some, hp2]
              by_cases hru : (runs cs.length el rs).2 = true
              · rw [if_pos hru, if_pos hru, hp3 (hp2.trans hru)]
              · rw [if_neg hru, if_neg hru]
            · split
              · have := run_small cs.length (rd el 0) (outs (rs.take (rs.length - 1))) [] [] (fun x hx => by simp at hx)
                unfold runs
                by_cases h0 : rs.length = 0
                · rw [if_pos h0]
                  exact ⟨by simp, fun x hx => by simp at hx⟩
                · rw [if_neg h0]
                  refine ⟨?_, fun x hx => Nat.le_trans (this.1 x hx) (by omega)⟩
                  have h9 := this.2
                  have : (outs (rs.take (rs.length - 1))).length ≤ 40 := by
                    unfold outs
                    rw [List.length_map, List.length_take]
                    omega
                  have h10 : (outs (rs.take (rs.length - 1))).length * cs.length ≤ 40 * 100 := Nat.mul_le_mul this hc
                  have h11 : ([] : List S24).length = 0 := rfl
                  show (run cs.length (rd el 0) (outs (rs.take (rs.length - 1))) [] []).1.length ≤ _
                  omega
              · exact small 8
          · obtain ⟨K6, h6⟩ := p_l0 ((kindOf rule).getD 0) cs.length (by omega) el (by omega) rs ts el.length 0 (by omega)
            have h6' : ∀ k, K6 ≤ k → suffrageref41_Of.l0 k ((kindOf rule).getD 0) cs.length [] 0 el rs ts = some (plainL ((kindOf rule).getD 0) el cs.length el, 0) := h6
            refine ⟨(plainL ((kindOf rule).getD 0) el cs.length el, 0), ⟨K1 + K4, fun k hkk => ?_⟩, ⟨K2 + K3 + K5 + K6, fun k hkk => ?_⟩, ?_, fun x hx => Nat.le_trans (plain_small _ _ _ _ x hx) (by omega)⟩
            · have hpl : assert_plain.f ((kindOf rule).getD 0) el (cs.length : Int) = some (plainL ((kindOf rule).getD 0) el cs.length el) := by
                unfold assert_plain.f
                rw [if_pos ⟨by omega, by omega, by omega⟩]
                rfl
              unfold assert_Of.f
              dsimp only
              rw [h1 k (by omega), Option.bind_some, if_pos he, if_neg hk, if_pos (by omega), hS, if_pos (by omega), h4' k (by omega), Option.bind_some, if_pos htr, if_neg h4k, hpl, Option.bind_some]
            · unfold suffrageref41_Of.f suffrageref41_elected.f
              dsimp only
              rw [h2 k (by omega), Option.bind_some, if_pos he, h3 k (by omega), Option.bind_some, if_neg hk0, if_pos hseat, h5' k (by omega), Option.bind_some, if_pos htr, if_neg h4k, h6' k (by omega)]
            · show (plainL ((kindOf rule).getD 0) el cs.length el).length ≤ _
              rw [plainL_len]
              have h10 : el.length * (othersL el cs.length).length ≤ 40 * 100 := Nat.mul_le_mul hel (Nat.le_trans (othersL_le el cs.length) hc)
              omega
        · refine ⟨([], 8), ⟨K1 + K4, fun k hkk => ?_⟩, ⟨K2 + K3 + K5, fun k hkk => ?_⟩, small 8⟩
          · unfold assert_Of.f
            dsimp only
            rw [h1 k (by omega), Option.bind_some, if_pos he, if_neg hk, if_pos (by omega), hS, if_pos (by omega), h4' k (by omega), Option.bind_some, if_neg htr]
          · unfold suffrageref41_Of.f suffrageref41_elected.f
            dsimp only
            rw [h2 k (by omega), Option.bind_some, if_pos he, h3 k (by omega), Option.bind_some, if_neg hk0, if_pos hseat, h5' k (by omega), Option.bind_some, if_neg htr]
      · refine ⟨([], 8), ⟨K1, fun k hkk => ?_⟩, ⟨K2 + K3, fun k hkk => ?_⟩, small 8⟩
        · unfold assert_Of.f
          dsimp only
          rw [h1 k (by omega), Option.bind_some, if_pos he, if_neg hk, if_pos (by omega), hS, if_neg (by omega)]
        · unfold suffrageref41_Of.f suffrageref41_elected.f
          dsimp only
          rw [h2 k (by omega), Option.bind_some, if_pos he, h3 k (by omega), Option.bind_some, if_neg hk0, if_neg hseat, Option.bind_some, if_neg (by simp)]
  · refine ⟨([], e), ⟨K1, fun k hkk => ?_⟩, ⟨K2, fun k hkk => ?_⟩, small e⟩
    · unfold assert_Of.f
      dsimp only
      rw [h1 k hkk, Option.bind_some, if_neg he]
    · unfold suffrageref41_Of.f
      dsimp only
      rw [h2 k hkk, Option.bind_some, if_neg he]
theorem AssertOfMatches (nm : ByteArray) (cs : List ByteArray) (seats rule : Int) (el : List Int) (rs : List S74) (ts : List S148) (hnm : nm.size ≤ 9223372036854775807) (hs : ∀ s ∈ cs, s.size ≤ 9223372036854775807) (hr : 0 ≤ rule ∧ rule ≤ 255) :
    ∃ k, suffragelaw41_AssertOfMatches.f k nm cs seats rule el rs ts = some true := by
  have hE : suffragelaw41_AssertExamples.f = some true := rfl
  obtain ⟨b, ⟨K1, h1⟩, hb⟩ := g07 nm cs seats rule
  dsimp only at h1
  have bad : ∀ k, suffragelaw41_AssertOfMatches.j0 (k + 1) true nm cs seats rule el rs ts = some true := fun k => by simp [suffragelaw41_AssertOfMatches.j0, hE]
  cases b with
  | true =>
    refine ⟨K1 + 1, ?_⟩
    unfold suffragelaw41_AssertOfMatches.f
    rw [h1 _ (by omega), Option.bind_some, if_pos rfl, bad]
  | false =>
    obtain ⟨b2, ⟨K2, h2⟩, hb2⟩ := g41_l0 el rs ts 41 0 (by omega)
    have h2' : ∀ k, K2 ≤ k → suffrageref41_Great.f k 0 0 0 [] el rs ts = some b2 := h2
    cases b2 with
    | true =>
      refine ⟨K1 + K2 + 1, ?_⟩
      unfold suffragelaw41_AssertOfMatches.f
      rw [h1 _ (by omega), Option.bind_some, if_neg (by simp), h2' _ (by omega), Option.bind_some, bad]
    | false =>
      obtain ⟨hrs, hel⟩ := hb2 rfl
      obtain ⟨p, ⟨K3, h3⟩, ⟨K4, h4⟩, hp1, hp2⟩ := both nm cs seats rule el rs ts hnm hs hr (hb rfl) hrs hel
      obtain ⟨K5, h5⟩ := all_ev p.1 hp1 hp2
      dsimp only at h3 h4 h5
      refine ⟨K1 + K2 + K3 + K4 + K5 + 1, ?_⟩
      unfold suffragelaw41_AssertOfMatches.f
      rw [h1 _ (by omega), Option.bind_some, if_neg (by simp), h2' _ (by omega), Option.bind_some]
      simp only [suffragelaw41_AssertOfMatches.j0, Bool.false_eq_true, if_false]
      rw [h3 _ (by omega), Option.bind_some, h4 _ (by omega), Option.bind_some, h5 _ (by omega), Option.bind_some, if_pos rfl, if_pos rfl, hE]
      rfl
end Go.Proofs.Ytegdcoamafcfeaa.Plain
