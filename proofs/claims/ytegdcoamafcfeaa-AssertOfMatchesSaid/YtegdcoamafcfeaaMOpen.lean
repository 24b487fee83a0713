/- What a row's argument, read as data, says of its cells, kind by kind (this session's own words). -/
import Derived.Test.YtegdcoamafcfeaaMWords
import Derived.ChangeArms
import Derived.ChangeOld
import Derived.WideShapes
import Derived.DataReads
namespace Go.Proofs.YtegdcoamafcfeaaW.PrintOpen
open Go.ChangeShapes Go.WideShapes Go.RowKit Go.Proofs.YtegdcoamafcfeaaW.PrintWords
/-- Whatever is read of type t is of the kind d. -/
def Opens {α : Type} (P : Program) (t : TypeId) (d : Kd α) (ok : α → Prop) : Prop :=
  ∀ (H : Type) (enc : TypeId × Value → H) (W : World) (base : Nat) (spare : Nat → Bool) (held : Bool) (fuel : Nat) (cs : List Value) (y : DataW H × List MemPlace),
    DataW.trod enc P W base spare held fuel t cs = some y → ∃ x : α, d.K W x cs ∧ ok x
theorem exists_list {α : Type} {p : Nat → α → Prop} : ∀ (n : Nat), (∀ i, i < n → ∃ x, p i x) → ∃ l : List α, l.length = n ∧ ∀ i x, l[i]? = some x → p i x
  | 0, _ => ⟨[], rfl, fun i x h => by simp at h⟩
  | n + 1, h => by
    obtain ⟨l, hl, hp⟩ := exists_list (p := p) n fun i hi => h i (by omega)
    obtain ⟨x, hx⟩ := h n (by omega)
    refine ⟨l ++ [x], by simp [hl], fun i z hz => ?_⟩
    by_cases hi : i < l.length
    · rw [List.getElem?_append_left hi] at hz
      exact hp i z hz
    · rw [List.getElem?_append_right (by omega)] at hz
      rcases Nat.lt_or_ge i (n + 1) with h1 | h1
      · have e : i = n := by omega
        subst e
        rw [hl, Nat.sub_self] at hz
        injection hz with hz
        exact hz ▸ hx
      · have : i - l.length ≠ 0 := by omega
        cases e : i - l.length with
        | zero => exact absurd e this
        | succ m => rw [e] at hz; simp at hz
section
variable {P : Program} {t e : TypeId}
theorem opens_int {k : IntKind} (ht : P.underlying t = some (.int k)) : Opens P t (Kd.int k) (fun x => (Lit.int k x).wf = true) := by
  intro H enc W base spare held fuel cs y h
  obtain ⟨n, rfl, _, hw⟩ := DataW.trod_int ht h
  exact ⟨n, rfl, hw⟩
theorem opens_bool (ht : P.underlying t = some .bool) : Opens P t Kd.bool (fun _ => True) := by
  intro H enc W base spare held fuel cs y h
  obtain ⟨b, rfl, _⟩ := DataW.trod_bool ht h
  exact ⟨b, rfl, trivial⟩
theorem opens_string (ht : P.underlying t = some .string) : Opens P t Kd.string (fun s => s.size ≤ maxLen) := by
  intro H enc W base spare held fuel cs y h
  obtain ⟨s, rfl, _, hs⟩ := DataW.trod_string ht h
  exact ⟨s, rfl, hs⟩
theorem opens_slice {α : Type} {d : Kd α} {ok : α → Prop} (ht : P.underlying t = some (.slice e)) (hc : P.cellsOf e = d.sz) (he : Opens P e d ok) : Opens P t (Kd.slice e d) (fun xs => xs.length ≤ maxLen ∧ ∀ x ∈ xs, ok x) := by
  intro H enc W base spare held fuel cs y h
  rcases DataW.trod_slice ht h with ⟨rfl, _⟩ | ⟨a, len, cap, elems, rest, n, _, rfl, _, _, hl, hm, hel, hi, _, _⟩
  · exact ⟨[], ⟨none, 0, rfl, Nat.le_refl _, rfl, by simp, fun hp => absurd hp (by simp)⟩, by simp, fun x hx => by simp at hx⟩
  · obtain ⟨xs, hxl, hxs⟩ := exists_list (p := fun i (x : α) => (∃ c, c.length = d.sz ∧ d.K W x c ∧ ∀ j u, c[j]? = some u → W.cell? (a.add (i * d.sz + j)) = some u) ∧ ok x) len fun i hil => by
      have h1 := hi i hil
      have h2 : elems[i]? = some elems[i] := List.getElem?_eq_getElem (by omega)
      rw [h2] at h1
      obtain ⟨c, hc1, hc2⟩ := Option.bind_eq_some_iff.1 h1
      obtain ⟨x, hx, hok⟩ := he H enc W base spare held n c _ hc2
      obtain ⟨_, hcl, hat⟩ := World.cells?_some hc1
      refine ⟨x, ⟨c, by rw [hcl, hc], hx, fun j u hu => ?_⟩, hok⟩
      have hj : j < P.cellsOf e := by
        have : j < c.length := (List.getElem?_eq_some_iff.1 hu).1
        omega
      have h3 := hat j hj
      rw [hu] at h3
      rw [← h3, hc]
      congr 1
      unfold Addr.add
      by_cases z1 : i * d.sz = 0 <;> by_cases z2 : j = 0 <;> simp [z1, z2, Nat.add_assoc]
    refine ⟨xs, ⟨some a, cap, by rw [hxl], by rw [hxl]; exact hl, rfl, by rw [hxl]; simp only [maxLen] at hm; omega, fun _ => ⟨a, rfl, fun j p hj => (hxs j p hj).1⟩⟩, by rw [hxl]; omega, fun x hx => ?_⟩
    obtain ⟨j, hj, rfl⟩ := List.mem_iff_getElem.1 hx
    exact (hxs j _ (List.getElem?_eq_getElem hj)).2
/-- The fields of a struct from cell o on. -/
def Fields {α : Type} (P : Program) (o total : Nat) (fs : List Field) (d : Kd α) (ok : α → Prop) : Prop :=
  ∀ (H : Type) (enc : TypeId × Value → H) (W : World) (base : Nat) (spare : Nat → Bool) (held : Bool) (n : Nat) (cs : List Value), cs.length = total →
    (∀ f ∈ fs, ∃ y, DataW.trod enc P W base spare held n f.type ((cs.drop f.offset).take (P.cellsOf f.type)) = some y) → ∃ x : α, d.K W x (cs.drop o) ∧ ok x
theorem fields_last {α : Type} {d : Kd α} {ok : α → Prop} {o s total : Nat} {f : Field} (ho : f.offset = o) (hs : P.cellsOf f.type = s) (hT : o + s = total) (h : Opens P f.type d ok) : Fields P o total [f] d ok := by
  intro H enc W base spare held n cs hl hf
  obtain ⟨y, hy⟩ := hf f (by simp)
  rw [ho, hs, List.take_of_length_le (by simp; omega)] at hy
  exact h H enc W base spare held n _ y hy
theorem fields_cons {α β : Type} {d : Kd α} {d' : Kd β} {ok : α → Prop} {ok' : β → Prop} {o s total : Nat} {f : Field} {fs : List Field} (ho : f.offset = o) (hs : P.cellsOf f.type = s) (h : Opens P f.type d ok) (hr : Fields P (o + s) total fs d' ok') :
    Fields P o total (f :: fs) (Kd.pair d d') (fun x => ok x.1 ∧ ok' x.2) := by
  intro H enc W base spare held n cs hl hf
  obtain ⟨y, hy⟩ := hf f (by simp)
  obtain ⟨x, hx, hox⟩ := h H enc W base spare held n _ y hy
  obtain ⟨x', hx', hox'⟩ := hr H enc W base spare held n cs hl fun g hg => hf g (by simp [hg])
  refine ⟨(x, x'), ⟨_, _, ?_, hx, hx'⟩, hox, hox'⟩
  rw [ho, hs, ← List.drop_drop, List.take_append_drop]
theorem opens_struct {α β : Type} {d : Kd α} {ok : α → Prop} {fs : Array Field} {total : Nat} {f : β → α} (g : α → β) (ht : P.underlying t = some (.struct fs)) (hc : P.cellsOf t = total) (hg : ∀ x, f (g x) = x) (h : Fields P 0 total fs.toList d ok) :
    Opens P t (Kd.iso d f) (fun x => ok (f x)) := by
  intro H enc W base spare held fuel cs y hy
  obtain ⟨xs, n, _, _, hl, hxl, hf⟩ := DataW.trod_struct ht hy
  obtain ⟨x, hx, hok⟩ := h H enc W base spare held n cs (hl.trans hc) fun q hq => by
    obtain ⟨i, hi, rfl⟩ := List.mem_iff_getElem.1 hq
    have hi' : i < fs.size := by simpa using hi
    have h1 := hf i fs[i] (Array.getElem?_eq_getElem hi')
    rw [List.getElem?_eq_getElem (by omega)] at h1
    exact ⟨_, by simpa using h1⟩
  refine ⟨g x, ?_, by show ok (f (g x)); rw [hg]; exact hok⟩
  show d.K W (f (g x)) cs
  rw [hg]
  exact hx
/-- An argument that is read. -/
theorem Opens.arg {α : Type} {d : Kd α} {ok : α → Prop} (h : Opens P t d ok) {H : Type} {enc : TypeId × Value → H} {W : World} {base : Nat} {spare : Nat → Bool} {held : Bool} {v : Value} {D : DataW H} {ps : List MemPlace} (hr : DataW.Trod enc P W base spare held t v D ps) :
    ∃ x : α, d.K W x v.cells.toList ∧ ok x := by
  obtain ⟨fuel, hf⟩ := hr
  exact h H enc W base spare held fuel _ _ hf
end
end Go.Proofs.YtegdcoamafcfeaaW.PrintOpen
