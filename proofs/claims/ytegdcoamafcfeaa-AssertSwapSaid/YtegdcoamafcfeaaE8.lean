-- Written by a program of this session (the kit's print, many functions in one namespace). Not trusted: Lean checks it.
import Derived.Test.YtegdcoamafcfeaaE0
import Derived.Test.YtegdcoamafcfeaaE1
import Derived.Test.YtegdcoamafcfeaaE7
namespace Go.Proofs.Ytegdcoamafcfeaa.Pr
open Go.RowKit Go.Proofs.YtegdcoamafcfeaaW.PrintWords Go.Proofs.YtegdcoamafcfeaaW.PrintLast
set_option linter.unusedVariables false
set_option linter.unusedSimpArgs false
/-! ### assert_plain: function 25 (by hand) -/
section
attribute [local go_sem] Oper.semAt_some
open Go.Shelf
/-! ### assert.plain -/
def flat1 (x : S24) : List Value := [.int .u8 x.f0, .int .i64 x.f1, .int .i64 x.f2, .slice none 0 0]
def flat (xs : List S24) : List Value := xs.flatMap flat1
theorem flat_append (xs ys : List S24) : flat (xs ++ ys) = flat xs ++ flat ys := List.flatMap_append
theorem flat_length (xs : List S24) : (flat xs).length = xs.length * 4 := by
  induction xs with
  | nil => rfl
  | cons x xs ih => rw [flat, List.flatMap_cons, List.length_append, ← flat, ih]; simp [flat1]; omega
/-- A row of such structs, none of which leads to memory. -/
theorem S_of_flat {w : World} {base : Nat} {v : Value} {xs : List S24} (h : w.ownsRow base 24 4 v xs.length (flat xs)) (h3 : ∀ x ∈ xs, x.f3 = []) : Kd.S k24 24 w base (fun _ => True) v xs := by
  refine Kd.S_bare ⟨fun _ _ => trivial, flat xs, h, flat_length xs, fun j p hj => ?_⟩
  have hp : p.f3 = [] := h3 p (List.mem_of_getElem? hj)
  have he : ((flat xs).drop (j * 4)).take 4 = flat1 p := by
    clear h h3 hp
    induction xs generalizing j with
    | nil => simp at hj
    | cons x xs ih =>
      cases j with
      | zero =>
        obtain rfl : x = p := by simpa using hj
        simp [flat, flat1, List.flatMap_cons]
      | succ j =>
        have := ih j (by simpa using hj)
        rw [show (j + 1) * 4 = j * 4 + 4 by omega]
        exact this
  show k24.M w base (fun _ => False) p _
  rw [show (Kd.bare k24).sz = 4 from rfl, he, flat1]
  refine k24_mkM w base _ p ?_
  rw [hp]
  exact Kd.R_nil _ _ _ _ _
def marksOf (dl : List Nat) : List Deferred := dl.map fun D => { target := .collected D, args := #[] }
/-- The marks that ranges over functions have left are closed one after the other. -/
theorem leaves_marks {fn : Func} {tmps : Array Value} {R : Ending → World → Prop} {F : Fence} {n : Nat} : ∀ (dl : List Nat) (W : World), dl.Pairwise (fun a b => a ≠ b) → (∀ D ∈ dl, W.heap[D]? = some (.deferred (some []))) →
    (∀ W', (∀ k, k ∉ dl → W'.heap[k]? = W.heap[k]?) → W'.heap.size = W.heap.size → (∀ b, b ≤ W.heap.size → (∀ D ∈ dl, b ≤ D) → Below b W W') → (∀ {base : Nat} {e : TypeId} {size : Nat} {v : Value} {k : Nat} {xs : List Value}, W.ownsRow base e size v k xs → W'.ownsRow base e size v k xs) → LeavesInM F n Try.prog fn tmps R [] .returning W') →
    LeavesInM F n Try.prog fn tmps R (marksOf dl) .returning W := by
  intro dl
  induction dl with
  | nil => exact fun W _ _ h => h W (fun _ _ => rfl) rfl (fun b hb _ => Below.refl _ _) (fun h => h)
  | cons D dl ih =>
    intro W hnd hall h
    have hD := hall D List.mem_cons_self
    refine ⟨by simp, .inl ⟨D, _, rfl, run_takeDeferred hD, ?_⟩⟩
    rw [List.pairwise_cons] at hnd
    have hlt : D < W.heap.size := (Array.getElem?_eq_some_iff.1 hD).1
    refine ih _ hnd.2 (fun D' hD' => (World.putObj_heap_other (fun e => hnd.1 D' hD' e.symm)).trans (hall D' (List.mem_cons_of_mem _ hD'))) ?_
    intro W' h1 h2 h3 h4
    refine h W' (fun k hk => ?_) ?_ (fun b hb hbd => ?_) (fun ho => h4 (ownsRow_putObj ho _ hD rfl))
    · rw [List.mem_cons, not_or] at hk
      exact (h1 k hk.2).trans (World.putObj_heap_other hk.1)
    · rw [h2]; simp
    · refine Below.trans ?_ (h3 b (by simpa using hb) (fun D' hD' => hbd D' (List.mem_cons_of_mem _ hD')))
      exact (Below.refl b W).grown (grownBy_putObj' W D _) hb (fun k e => by cases e; exact hbd D List.mem_cons_self)
theorem cells_new (w : World) (cs : List Value) (t : TypeId) (b : Nat) (hb : w.heap.size = b) : ∀ j u, cs[j]? = some u → (w.alloc (.cells cs.toArray t)).cell? ((⟨b, 0, none⟩ : Addr).add j) = some u := by
  intro j u hj
  subst hb
  have : ((⟨w.heap.size, 0, none⟩ : Addr).add j) = ⟨w.heap.size, j, none⟩ := by cases j <;> simp [Addr.add]
  rw [this]
  simp only [World.cell?, World.alloc_heap_new]
  simpa using hj
theorem boxed_own {β : Type} (B : Nat) (t : TypeId) (v : Value) : Own (fun (_ : β) W => Boxed W B t v) := by
  rintro _ W W' row h hg hr
  refine h.kept hg fun e => ?_
  obtain ⟨o, ho, hc⟩ := hr B e.symm
  rw [show W.heap[B]? = _ from h] at ho
  cases ho
  cases hc
theorem heap_from {β : Type} (B b : Nat) (o : Obj) (h : b < B) : OwnFrom B (fun (_ : β) W => W.heap[b]? = some o) := by
  rintro _ W W' row hb hg hr
  exact (hg.block b (Array.getElem?_eq_some_iff.1 hb).1 (fun e => by have := (hr b e.symm).1; omega)).trans hb
theorem heap_at_from {β : Type} (B b : Nat) (x : Option Obj) (hx : x.isSome = true) (h : b < B) : OwnFrom B (fun (_ : β) W => W.heap[b]? = x) := by
  obtain ⟨o, rfl⟩ := Option.isSome_iff_exists.1 hx
  exact heap_from B b o h
theorem OwnFrom.all {β γ : Type} {B : Nat} {I : γ → β → World → Prop} (h : ∀ c, OwnFrom B (I c)) : OwnFrom B (fun s W => ∀ c, I c s W) := fun s W W' row hs hg hr c => h c s W W' row (hs c) hg hr
theorem OwnFrom.imp {β : Type} {B : Nat} {I : β → World → Prop} {p : Prop} (h : p → OwnFrom B I) : OwnFrom B (fun s W => p → I s W) := fun s W W' row hs hg hr hp => h hp s W W' row (hs hp) hg hr
theorem row_cells {W : World} {n₀ : Nat} {e : TypeId} {size k : Nat} {v : Value} {xs : List Value} (h : W.ownsRow n₀ e size v k xs) {b : Nat} {o : Obj} (hb : W.heap[b]? = some o) (ho : o.isCells = false) : some b ≠ v.ownBlock := by
  rcases h.2 with ⟨rfl, _⟩ | ⟨g, cap, cur, rfl, _, hgb, _⟩
  · simp [Value.ownBlock]
  · intro e'
    obtain rfl : b = g := by simpa [Value.ownBlock] using e'
    rw [hgb] at hb; cases hb; cases ho
theorem heap_past {W w1 : World} {b B : Nat} {o : Obj} {tmp : Obj} {v v' : Value} (hb : W.heap[b]? = some o) (hr : some b ≠ v.ownBlock) (hgrow : (W.alloc tmp).grownBy w1 v.ownBlock) (hne : b ≠ B) : (w1.setCell ⟨B, 0, none⟩ v').heap[b]? = some o := by
  have hlt := (Array.getElem?_eq_some_iff.1 hb).1
  have h1 : (W.alloc tmp).heap[b]? = some o := (Below.heap_alloc _ _ _ hlt).trans hb
  have h2 : w1.heap[b]? = some o := (hgrow.block b (by simp; omega) hr).trans h1
  exact ((grownBy_setCell' w1 B v').block b (Array.getElem?_eq_some_iff.1 h2).1 (fun e => hne (Option.some.inj e))).trans h2
def plainL (kind : Int) (zs : List Int) (c : Nat) (ws : List Int) : List S24 := ws.flatMap fun x => (othersL zs c).map fun o => (⟨kind, x, o, []⟩ : S24)
theorem plainL_snoc (kind : Int) (zs : List Int) (c : Nat) (ws : List Int) (x : Int) : plainL kind zs c (ws ++ [x]) = plainL kind zs c ws ++ (othersL zs c).map fun o => (⟨kind, x, o, []⟩ : S24) := by
  simp [plainL, List.flatMap_append]
theorem plainL_len (kind : Int) (zs : List Int) (c : Nat) (ws : List Int) : (plainL kind zs c ws).length = ws.length * (othersL zs c).length := by
  simp only [plainL, List.length_flatMap, List.length_map]
  induction ws with
  | nil => simp
  | cons y ys ih => simp only [List.map_cons, List.sum_cons, ih, List.length_cons]; rw [Nat.succ_mul, Nat.add_comm]
theorem plainL_nil3 (kind : Int) (zs : List Int) (c : Nat) (ws : List Int) : ∀ x ∈ plainL kind zs c ws, x.f3 = [] := by
  intro x hx
  simp only [plainL, List.mem_flatMap, List.mem_map] at hx
  obtain ⟨_, _, _, _, rfl⟩ := hx
  rfl
def plainP (kind : Int) (zs : List Int) (c : Nat) (ws : List Int) (x : Int) (pre : List Int) : List S24 := plainL kind zs c ws ++ pre.map fun o => (⟨kind, x, o, []⟩ : S24)
theorem plainP_nil (kind : Int) (zs : List Int) (c : Nat) (ws : List Int) (x : Int) : plainP kind zs c ws x [] = plainL kind zs c ws := by simp [plainP]
theorem plainP_snoc (kind : Int) (zs : List Int) (c : Nat) (ws : List Int) (x : Int) (pre : List Int) (o : Int) : plainP kind zs c ws x (pre ++ [o]) = plainP kind zs c ws x pre ++ [⟨kind, x, o, []⟩] := by simp [plainP]
theorem plainP_done (kind : Int) (zs : List Int) (c : Nat) (ws : List Int) (x : Int) : plainP kind zs c ws x (othersL zs c) = plainL kind zs c (ws ++ [x]) := by rw [plainL_snoc]; rfl
theorem plainP_len (kind : Int) (zs : List Int) (c : Nat) (ws : List Int) (x : Int) (pre : List Int) : (plainP kind zs c ws x pre).length = ws.length * (othersL zs c).length + pre.length := by rw [plainP, List.length_append, List.length_map, plainL_len]
def assert_plain.f (a0 : Int) (l1 : List Int) (a2 : Int) : Option (List (S24)) :=
  if l1.length ≤ 1000 ∧ 0 ≤ a2 ∧ a2 ≤ 1000 then some (plainL a0 l1 a2.toNat l1) else none
theorem info_ass : (Try.prog.info? 24).map (fun i => (i.zero, i.size, i.bytes)) = some (some (.agg #[(.int .u8 0), (.int .i64 0), (.int .i64 0), (.slice none 0 0)]), 4, 48) := by kernel_rfl
/-- What one outer round finds and leaves. -/
structure PlainAt (w : World) (a0 : Int) (l1 : List Int) (c : Nat) (ws : List Int) (dl : List Nat) (W : World) : Prop where
  v : ∃ v, Boxed W (w.heap.size + 1) 35 v ∧ W.ownsRow w.heap.size 24 4 v (plainL a0 l1 c ws).length (flat (plainL a0 l1 c ws))
  b : Boxed W w.heap.size 5 (.int .u8 a0)
  h : Below w.heap.size w W
  nd : dl.Pairwise (fun a b => a ≠ b)
  al : ∀ D ∈ dl, w.heap.size ≤ D ∧ W.heap[D]? = some (.deferred (some []))
set_option maxHeartbeats 4000000 in
set_option maxRecDepth 100000 in
theorem assert_plain.calls (a0 : Int) (A1 : Option Addr) (c1 : Nat) (l1 : List Int) (a2 : Int) (r : List (S24)) (w : World) (hr1 : Kd.C (Kd.int .i64) w A1 l1.length l1) (hc1 : l1.length ≤ c1) (h : assert_plain.f a0 l1 a2 = some r) :
    Calls Try.prog 25 #[.int .u8 a0, .slice A1 l1.length c1, .int .i64 a2] w fun e w' => ∃ v0_ : Value, e = .returned (v0_) ∧ Kd.S k24 24 w' w.heap.size (fun _ => True) v0_ r ∧ Below w.heap.size w w' := by
  unfold assert_plain.f at h
  split at h
  case isFalse => cases h
  rename_i hb
  obtain ⟨hl, h0, h9⟩ := hb
  obtain rfl := Option.some.inj h
  clear h
  obtain ⟨c, rfl⟩ := Int.eq_ofNat_of_zero_le h0
  have hcn : (Int.ofNat c).toNat = c := rfl
  have HR := Aside0.mk hr1
  have HC := Aside0.mk hc1
  clear hr1 hc1
  obtain ⟨i0, hi, hz0, hz1, hz2⟩ := info_parts info_ass
  refine (callsIn_wide (n := 3)).1 (callsIn_of_wp_marks Try.func25 rfl trivial ?_ rfl)
  simp only [Try.ntmps25, List.size_toArray, List.length_cons, List.length_nil, Nat.reduceAdd, Nat.reduceSub, Array.replicate_succ, Array.replicate_zero, List.push_toArray, List.append_toArray, List.nil_append, List.cons_append]
  gi_wp2
  refine wpIn_loop (fun a wr => ∃ (k : Nat) (dl : List Nat) (u8 u13 u14 u15 u16 u17 u18 u27 : Value), k ≤ l1.length ∧ a = { tmps := #[.int .u8 a0, .slice A1 l1.length c1, .int .i64 c, .pointer (some ⟨w.heap.size, 0, none⟩), undef, undef, .pointer (some ⟨w.heap.size + 1, 0, none⟩), undef, u8, undef, .slice A1 l1.length c1, .int .i64 l1.length, .int .i64 k, u13, u14, u15, u16, u17, u18, undef, undef, undef, undef, undef, undef, undef, undef, u27, undef], defers := marksOf dl } ∧ PlainAt w a0 l1 c (l1.take k) dl wr) (fun a _ => l1.length - (intOf (a.tmps.getD 12 undef)).toNat) ?_ ?_
  · refine ⟨0, [], undef, undef, undef, undef, undef, undef, undef, undef, Nat.zero_le _, rfl, ⟨⟨.slice none 0 0, ?_, ?_⟩, ?_, ?_, List.Pairwise.nil, by simp⟩⟩
    · have := Boxed.new (w.alloc (.cells #[.int .u8 a0] 5)) 35 (.slice none 0 0)
      simpa using this
    · simpa [plainL, flat] using World.ownsRow_nil _ _ _ _
    · exact (Boxed.new w 5 (.int .u8 a0)).alloc _
    · exact ((Below.refl _ w).alloc (Nat.le_refl _) _).alloc (by simp) _
  · rintro _ wr ⟨k, dl, u8, u13, u14, u15, u16, u17, u18, u27, hk, rfl, HP⟩
    by_cases hlt : k < l1.length
    · obtain ⟨ad, rfl, hx⟩ := Kd.at_int (Kd.C_below HR.out HP.h) k (by omega) (by omega)
      have hx' : wr.cell? (ad.add k) = some (.int .i64 (rd l1 k)) := hx
      clear hx
      gi_wp2
      refine ⟨trivial, (callsIn_wide.2 (others_calls (some ad) l1.length c1 c _)).mono ?_⟩
      rintro e W4 ⟨rfl, hW4⟩
      have hz : (wr.alloc (.cells #[.int .i64 (rd l1 k)] 3)).heap.size = wr.heap.size + 1 := by simp
      rw [hz]
      obtain ⟨v, hv, hrow⟩ := HP.v
      have q6 : Boxed W4 (w.heap.size + 1) 35 v := by subst hW4; exact ((hv.alloc _).alloc _).alloc _
      have q3 : Boxed W4 w.heap.size 5 (.int .u8 a0) := by subst hW4; exact ((HP.b.alloc _).alloc _).alloc _
      have q8 : Boxed W4 wr.heap.size 3 (.int .i64 (rd l1 k)) := by subst hW4; exact ((Boxed.new wr _ _).alloc _).alloc _
      have qs : Boxed W4 (wr.heap.size + 1) 22 (.slice (some ad) l1.length c1) := by
        subst hW4
        have := (Boxed.new (wr.alloc (.cells #[.int .i64 (rd l1 k)] 3)) 22 (.slice (some ad) l1.length c1)).alloc (.cells #[.int .i64 c] 3)
        rwa [hz] at this
      have qc : Boxed W4 (wr.heap.size + 2) 3 (.int .i64 c) := by
        subst hW4
        have := Boxed.new ((wr.alloc (.cells #[.int .i64 (rd l1 k)] 3)).alloc (.cells #[.slice (some ad) l1.length c1] 22)) 3 (.int .i64 c)
        rw [World.size_alloc, hz] at this
        exact this
      have qr : W4.ownsRow w.heap.size 24 4 v (plainL a0 l1 c (l1.take k)).length (flat (plainL a0 l1 c (l1.take k))) := by subst hW4; exact ((hrow.alloc _).alloc _).alloc _
      have qb : Below w.heap.size w W4 := by subst hW4; exact ((HP.h.alloc HP.h.size _).alloc (by have := HP.h.size; simp; omega) _).alloc (by have := HP.h.size; simp; omega) _
      have qz : W4.heap.size = wr.heap.size + 3 := by subst hW4; simp
      have qd : ∀ D ∈ dl, w.heap.size ≤ D ∧ W4.heap[D]? = some (.deferred (some [])) := fun D hD => ⟨(HP.al D hD).1, by
        have := (HP.al D hD).2
        have hlt := (Array.getElem?_eq_some_iff.1 this).1
        subst hW4
        exact (Below.heap_alloc _ _ _ (by simp; omega)).trans ((Below.heap_alloc _ _ _ (by simp; omega)).trans ((Below.heap_alloc _ _ _ hlt).trans this))⟩
      have qn := HP.h.size
      have qnd := HP.nd
      have qn2 := hv.lt
      clear hW4 hv hrow HP hx'
      gi_wp2
      have hLn : ∀ pre : List Int, pre.length < (othersL l1 c).length → ((plainP a0 l1 c (l1.take k) (rd l1 k) pre).length + 1) * 48 ≤ 140737488355328 := fun pre hp => by
        have e1 := othersL_le l1 c
        rw [plainP_len, List.length_take]
        have e2 : min k l1.length * (othersL l1 c).length ≤ 1000 * 1000 := Nat.mul_le_mul (by omega) (by omega)
        omega
      refine wpIn_rangeFunc_ownG rfl (by decide) (gf := 68) (lb := #[.pointer (some ⟨wr.heap.size + 1 + 1, 0, none⟩), .pointer (some ⟨wr.heap.size + 1, 0, none⟩)]) rfl trivial (enters_of Try.func68 (by kernel_rfl) rfl)
        (others_stops 2 (by decide) (l1.length + 1) (wr.heap.size + 1 + 1) (wr.heap.size + 1) w.heap.size c1 c (some ad) l1 (fun j _ => contains_tells l1 j (by omega)) (by omega) W4 (by omega) (by omega) (by omega) qc.cell qs.cell HC.out ((iter_of_C HR.out).below qb))
        ItKeeps.trans (ItKeeps.putObj (by omega) (by omega)) (Below.refl _ _) (fun _ => rfl)
        (fun pre W => (∃ v, Boxed W (w.heap.size + 1) 35 v ∧ W.ownsRow w.heap.size 24 4 v (plainP a0 l1 c (l1.take k) (rd l1 k) pre).length (flat (plainP a0 l1 c (l1.take k) (rd l1 k) pre)) ∧ True) ∧ (Boxed W w.heap.size 5 (.int .u8 a0) ∧ Boxed W wr.heap.size 3 (.int .i64 (rd l1 k)) ∧ Boxed W (wr.heap.size + 1) 22 (.slice (some ad) l1.length c1)) ∧ Below w.heap.size w W ∧ ∀ D, D ∈ dl → W.heap[D]? = some (.deferred (some [])))
        (fun _ _ _ => False)
        (OwnFrom.and (Own.from (holdsRow_own w.heap.size (w.heap.size + 1) 35 24 4 (fun pre => (plainP a0 l1 c (l1.take k) (rd l1 k) pre).length) (fun pre => flat (plainP a0 l1 c (l1.take k) (rd l1 k) pre)) (fun pre v => True)) _)
          (OwnFrom.and (OwnFrom.and (Own.from (boxed_own _ _ _) _) (OwnFrom.and (Own.from (boxed_own _ _ _) _) (Own.from (boxed_own _ _ _) _))) (OwnFrom.and (ownFrom_below (Nat.le_refl _) (by omega)) (OwnFrom.all fun D => OwnFrom.imp fun hD => heap_from _ _ _ (Array.getElem?_eq_some_iff.1 (qd D hD).2).1))))
        (fun _ _ _ _ _ hs _ _ => hs)
        ⟨⟨v, q6, by rw [plainP_nil]; exact qr, trivial⟩, ⟨q3, q8, qs⟩, qb, fun D hD => (qd D hD).2⟩
        (fun x => { tmps := #[.int .u8 a0, .slice (some ad) l1.length c1, .int .i64 c, .pointer (some ⟨w.heap.size, 0, none⟩), undef, undef, .pointer (some ⟨w.heap.size + 1, 0, none⟩), undef, .pointer (some ⟨wr.heap.size, 0, none⟩), .int .i64 x, .slice (some ad) l1.length c1, .int .i64 l1.length, .int .i64 k, .bool true, .pointer (some (ad.add k)), .int .i64 (rd l1 k), .slice (some ad) l1.length c1, .int .i64 c, .func (.func 68) #[] #[.pointer (some ⟨wr.heap.size + 1 + 1, 0, none⟩), .pointer (some ⟨wr.heap.size + 1, 0, none⟩)], .int .i64 x, undef, undef, undef, undef, undef, undef, undef, u27, undef], defers := [] }) ?assign ?body ?done ?stop
      case assign =>
        intro l x W K hK
        gi_wp2
        exact hK
      case body =>
        rintro l pre x W ⟨⟨v, hv, hrow, _⟩, ⟨b3, b8, bs⟩, hB, hD⟩ hlt'
        have hc := hv.cell
        have hc3 := b3.cell
        have hc8 := b8.cell
        have hLN := hLn pre hlt'
        gi_wp2_with (gi_at_builtin; refine wpListIn_append_own _ rfl _ _ 35 rfl w.heap.size 24 i0 (.agg #[(.int .u8 0), (.int .i64 0), (.int .i64 0), (.slice none 0 0)]) 4 48 Try.underlying35 hi hz0 hz1 hz2 rfl (by decide) _ _ _ rfl (hrow.alloc _) ⟨W.heap.size, 0, none⟩ 1 1 (flat1 ⟨a0, rd l1 k, x, []⟩) rfl rfl (cells_new W (flat1 ⟨a0, rd l1 k, x, []⟩) _ _ rfl) (by simp [flat1, Value.oneCell']) (by simp only [maxLen]; omega) (by omega) (by have := hB.size; simp; omega) ?_; intro v' w1 hown' hgrow _; obtain ⟨g', cap', rfl⟩ := ownsRow_succ hown'; obtain ⟨hv1, hv2, hr2, hk2, hb2⟩ := hv.appended (by decide) hrow hB.size (Nat.le_succ _) hown' hgrow; have hc1 := hv1.cell; have hf1 := hv1.frozen)
        have c3 := heap_past (B := w.heap.size + 1) (v' := .slice (some ⟨g', 0, none⟩) ((plainP a0 l1 c (l1.take k) (rd l1 k) pre).length + 1) cap') b3 (b3.not_row (by decide) hrow) hgrow (by omega)
        have c8 := heap_past (B := w.heap.size + 1) (v' := .slice (some ⟨g', 0, none⟩) ((plainP a0 l1 c (l1.take k) (rd l1 k) pre).length + 1) cap') b8 (b8.not_row (by decide) hrow) hgrow (by omega)
        have cs := heap_past (B := w.heap.size + 1) (v' := .slice (some ⟨g', 0, none⟩) ((plainP a0 l1 c (l1.take k) (rd l1 k) pre).length + 1) cap') bs (bs.not_row (by decide) hrow) hgrow (by omega)
        refine ⟨hk2.from _, ⟨hb2, cs.trans (Eq.symm bs)⟩, ⟨_, hv2, ?_, trivial⟩, ⟨c3, c8, cs⟩, hB.trans hb2, fun D hDm => heap_past (hD D hDm) (row_cells hrow (hD D hDm) rfl) hgrow ?_⟩
        · rw [plainP_snoc, List.length_append, flat_append]
          simpa [flat] using hr2
        · rintro rfl
          have := (hD _ hDm).symm.trans (show W.heap[w.heap.size + 1]? = _ from hv)
          cases this
      case done =>
        rintro D ys W hD rfl ⟨⟨v, hv, hrow, _⟩, ⟨b3, b8, bs⟩, hB, hDs⟩ hK
        gi_wp2
        refine ⟨⟨k + 1, D :: dl, _, _, _, _, _, _, _, _, hlt, rfl, ⟨⟨v, hv, ?_⟩, b3, hB, ?_, ?_⟩⟩, ?_⟩
        · rw [plainP_done, ← take_rd l1 k hlt] at hrow
          exact hrow
        · refine List.pairwise_cons.2 ⟨fun D' hD' e => ?_, qnd⟩
          have := (Array.getElem?_eq_some_iff.1 (qd D' hD').2).1
          omega
        · intro D' hD'
          rcases List.mem_cons.1 hD' with rfl | h'
          · exact ⟨by omega, hK⟩
          · exact ⟨(qd D' h').1, hDs D' h'⟩
        · simp [intOf]; omega
      case stop =>
        rintro D c pre W _ _ h _
        exact h.elim
    · obtain rfl : k = l1.length := by omega
      obtain ⟨v, hv, hrow⟩ := HP.v
      have hc := hv.cell
      have hf := hv.frozen
      obtain ⟨A', n', cap', rfl⟩ : ∃ A' n' cap', v = .slice A' n' cap' := by
        rcases hrow.2 with ⟨rfl, _⟩ | ⟨g, cap, cur, rfl, _⟩ <;> exact ⟨_, _, _, rfl⟩
      gi_wp2
      have hB6 := (hv.set (.slice A' n' cap'))
      have hr6 := hrow.kept (grownBy_setCell' wr (w.heap.size + 1) (.slice A' n' cap')) (.inr (hv.not_row (by decide) hrow).symm)
      have hD6 : ∀ D ∈ dl, (wr.setCell ⟨w.heap.size + 1, 0, none⟩ (.slice A' n' cap')).heap[D]? = some (.deferred (some [])) := fun D hD => by
        have h1 := (HP.al D hD).2
        refine ((grownBy_setCell' wr (w.heap.size + 1) _).block D (Array.getElem?_eq_some_iff.1 h1).1 (fun e => ?_)).trans h1
        obtain rfl := Option.some.inj e
        rw [show wr.heap[w.heap.size + 1]? = _ from hv] at h1
        cases h1
      have hb6 : Below w.heap.size w (wr.setCell ⟨w.heap.size + 1, 0, none⟩ (.slice A' n' cap')) := HP.h.setCell (p := ⟨w.heap.size + 1, 0, none⟩) (Nat.le_succ _) _
      refine leaves_marks dl _ HP.nd hD6 ?_
      intro W' h1 h2 h3 h4
      have hW : Boxed W' (w.heap.size + 1) 35 (.slice A' n' cap') := (h1 _ (fun hm => by
        have := (hD6 _ hm).symm.trans (show (wr.setCell ⟨w.heap.size + 1, 0, none⟩ (.slice A' n' cap')).heap[w.heap.size + 1]? = _ from hB6)
        cases this)).trans hB6
      have hr := hW.cell
      refine ⟨.slice A' n' cap', by simp [results, hr, go_sem, Try.f25], _, rfl, S_of_flat (by have hh := h4 hr6; rw [List.take_length] at hh; exact hh) (plainL_nil3 _ _ _ _), hb6.trans (h3 _ (by simpa using HP.h.size) (fun D hD => (HP.al D hD).1))⟩
end
/-! ### slices_Clone_int_int: function 54 (by hand) -/
def slices_Clone_int_int.f (l0 : List Int) : Option (List Int) := if l0.length * 8 ≤ 140737488355328 then some l0 else none
theorem info_int : (Try.prog.info? 3).map (fun i => (i.zero, i.size, i.bytes)) = some (some (.int .i64 0), 1, 8) := by kernel_rfl
theorem R_of_nums {w : World} {base : Nat} {v : Value} {xs : List Int} (h : w.ownsRow base 3 1 v xs.length (nums .i64 xs)) : (Kd.int .i64).R 3 w base (fun _ => True) v xs :=
  Kd.R_of_own (h1 := fun _ => rfl) h (fun _ _ => True.intro)
set_option maxHeartbeats 4000000 in
set_option maxRecDepth 100000 in
theorem slices_Clone_int_int.calls (A0 : Option Addr) (c0 : Nat) (l0 : List Int) (r : List Int) (w : World) (hr0 : Kd.C (Kd.int .i64) w A0 l0.length l0) (hc0 : l0.length ≤ c0) (h : slices_Clone_int_int.f l0 = some r) :
    Calls Try.prog 54 #[.slice A0 l0.length c0] w fun e w' => ∃ v0_ : Value, e = .returned (v0_) ∧ Kd.R (Kd.int .i64) 3 w' w.heap.size (fun _ => True) v0_ r ∧ Below w.heap.size w w' := by
  unfold slices_Clone_int_int.f at h
  split at h
  case isFalse => cases h
  rename_i hl
  obtain rfl := Option.some.inj h
  clear h
  have HR := Aside0.mk hr0
  clear hr0
  have hq : ∀ (A : Option Addr) (n c : Nat) (W : World), (binOp .eql 22 (.slice A n c) (.slice none 0 0)).run Try.prog W = .ok (.bool A.isNone) W := fun A n c W => by
    have := Lib.run_eql_slice_nil (P := Try.prog) W 22 3 A n c 0 0 Try.underlying22
    cases A <;> simpa using this
  rcases A0 with _ | ad
  · have hz : l0 = [] := by
      rcases Nat.eq_zero_or_pos l0.length with h0 | h0
      · exact List.eq_nil_of_length_eq_zero h0
      · obtain ⟨ad, e, _⟩ := HR.out.2.2 h0
        cases e
    subst hz
    go_enter Try.func54, Try.ntmps54
    go_wp2
    go_ret
    exact ⟨_, rfl, Kd.R_nil _ _ _ _ _, Below.refl _ _⟩
  · go_enter Try.func54, Try.ntmps54
    go_wp2_with (first | (at_builtin; refine print_append_row (w0 := w) w.heap.size rfl _ _ 22 3 .i64 8 rfl Try.underlying22 info_int (by decide) (.slice (some ⟨w.heap.size, 0, none⟩) 0 0) [] l0 (some ad) l0.length c0 rfl rfl (own_lit w w.heap.size 3 .i64 [] (Nat.le_refl _) (by simp)) (ReadsInt.allocS (readsInt_of_C HR.out) _) (below_box _) (by simp) (by simpa using hl) ?_; intro v1 w1 ho hb _ _; have HO := Aside0.mk ho; have HB := Aside0.mk hb; clear ho hb))
    go_ret
    exact ⟨_, rfl, R_of_nums HO.out, HB.out⟩

end Go.Proofs.Ytegdcoamafcfeaa.Pr
