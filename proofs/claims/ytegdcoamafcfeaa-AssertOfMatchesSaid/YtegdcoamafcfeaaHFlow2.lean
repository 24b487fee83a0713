import Derived.Orders
import Derived.WalkKit
namespace Go.Flow2
/-- What is known of a slot that op i of a region writes. -/
def Has (ops : Array Oper) (F : Nat → Value → World → Prop) (a : Act) (w : World) (i : Nat) : Prop :=
  ∃ v, F i v w ∧ ∀ o, ops[i]? = some o → (o.dst.elim undef fun d => a.tmps.getD d undef) = v
/-- Slots that the region doesn't write. -/
def Same (ops : Array Oper) (a0 a : Act) : Prop :=
  a.defers = a0.defers ∧ a.tmps.size = a0.tmps.size ∧ ∀ t, (ops.any fun o => o.dst == some t) = false → a.tmps.getD t undef = a0.tmps.getD t undef
def okB (ops : Array Oper) (n : Nat) : Bool :=
  (List.range ops.size).all fun i => match ops[i]? with
    | some o => (o.after.all fun e => !Region.binds .any e || decide (e.on < i)) && (match o.dst with | some d => decide (d < n) && ((List.range i).all fun j => (match ops[j]? with | some oj => oj.dst != some d | none => true)) | none => true)
    | none => true
section
variable {P : Program} {ops : Array Oper} {Q : Exit → Act → World → Prop} {F : Nat → Value → World → Prop} {S : World → Prop} {E : World → World → Prop} {a0 : Act}
def left (l : Array Bool) : Nat := (l.toList.filter (!·)).length
theorem left_set {l : Array Bool} {i : Nat} (h : l[i]? = some false) : left (l.setIfInBounds i true) + 1 = left l := by
  obtain ⟨l⟩ := l
  simp only [left, List.setIfInBounds_toArray] at *
  simp at h
  induction l generalizing i with
  | nil => simp at h
  | cons b r ih =>
    cases i with
    | zero => simp at h; subst h; simp
    | succ i => simp at h; have := ih (i := i) (by simpa using h); cases b <;> simp_all <;> omega
theorem okB_edge {n : Nat} (h : okB ops n = true) {i : Nat} {o : Oper} (ho : ops[i]? = some o) {e : Edge} (he : e ∈ o.after) (hb : Region.binds .any e = true) : e.on < i := by
  have hi : i < ops.size := (Array.getElem?_eq_some_iff.1 ho).1
  have := List.all_eq_true.1 h i (List.mem_range.2 hi)
  rw [ho] at this
  simp only [Bool.and_eq_true, Array.all_eq_true_iff_forall_mem] at this
  have h2 := this.1 e he
  rw [hb] at h2
  simpa using h2
theorem okB_dst {n : Nat} (h : okB ops n = true) {i : Nat} {o : Oper} (ho : ops[i]? = some o) {d : Nat} (hd : o.dst = some d) : d < n ∧ ∀ j oj, j < i → ops[j]? = some oj → oj.dst ≠ some d := by
  have hi : i < ops.size := (Array.getElem?_eq_some_iff.1 ho).1
  have := List.all_eq_true.1 h i (List.mem_range.2 hi)
  rw [ho] at this
  simp only [hd, Bool.and_eq_true] at this
  refine ⟨by simpa using this.2.1, fun j oj hj hoj => ?_⟩
  have h2 := List.all_eq_true.1 this.2.2 j (List.mem_range.2 hj)
  rw [hoj] at h2
  simpa using h2
theorem okB_ne {n : Nat} (h : okB ops n = true) {i j : Nat} {o oj : Oper} (ho : ops[i]? = some o) (hoj : ops[j]? = some oj) (hne : i ≠ j) {d : Nat} (hd : o.dst = some d) : oj.dst ≠ some d := by
  rcases Nat.lt_or_gt_of_ne hne with hl | hl
  · intro e; exact (okB_dst h hoj e).2 i o hl ho hd
  · exact (okB_dst h ho hd).2 j oj hl hoj
theorem flow_go (hok : okB ops a0.tmps.size = true) (hE : ∀ i v w w', F i v w → E w w' → F i v w')
    (step : ∀ i o, ops[i]? = some o → ∀ (a : Act) (w : World), S w → Same ops a0 a → (∀ e ∈ o.after, Region.binds .any e = true → Has ops F a w e.on) →
      wpOp P ops Q i (fun a' w' => ∃ v, a' = a.put o.dst v ∧ (o.dst = none → v = undef) ∧ F i v w' ∧ S w' ∧ E w w') a w)
    (fin : ∀ a w, S w → Same ops a0 a → (∀ i, i < ops.size → Has ops F a w i) → Q .normal a w) :
    ∀ (fuel : Nat) (listed : Array Bool) (a : Act) (w : World), listed.size = ops.size → left listed ≤ fuel → S w → Same ops a0 a → (∀ i, listed[i]? = some true → Has ops F a w i) → wpAny P .any ops Q fuel listed a w := by
  have hready : ∀ (listed : Array Bool), listed.size = ops.size → Region.ready .any ops listed = [] → ∀ i, i < ops.size → listed[i]? = some true := by
    intro listed hsz hr i
    induction i using Nat.strongRecOn with
    | _ i ih =>
      intro hi
      rcases hb : listed[i]? with _ | b
      · rw [Array.getElem?_eq_none_iff] at hb; omega
      · cases b
        · exfalso
          have ho : ops[i]? = some ops[i] := Array.getElem?_eq_getElem hi
          have hm : i ∈ Region.ready .any ops listed := by
            rw [Region.ready, List.mem_filter]
            refine ⟨List.mem_range.2 hi, ?_⟩
            rw [ho]
            have h1 : listed.getD i true = false := by rw [Array.getD_eq_getD_getElem?, hb]; rfl
            rw [h1]
            simp only [Bool.not_false, Bool.true_and, Option.map_some, Option.getD_some, Array.all_eq_true_iff_forall_mem]
            intro e he
            by_cases hbd : Region.binds .any e = true
            · have hlt := okB_edge hok ho he hbd
              have := ih e.on hlt (by omega)
              rw [Array.getD_eq_getD_getElem?, this]
              simp
            · simp [hbd]
          rw [hr] at hm
          cases hm
        · rfl
  have hdone : ∀ (listed : Array Bool) (a : Act) (w : World), listed.size = ops.size → S w → Same ops a0 a → (∀ i, listed[i]? = some true → Has ops F a w i) → Region.ready .any ops listed = [] → Q .normal a w :=
    fun listed a w hsz hS hs hh hr => fin a w hS hs fun i hi => hh i (hready listed hsz hr i hi)
  intro fuel
  induction fuel with
  | zero =>
    intro listed a w hsz hl hS hs hh
    have hr : Region.ready .any ops listed = [] := by
      rw [Region.ready, List.filter_eq_nil_iff]
      intro i hi
      rcases hb : listed[i]? with _ | b
      · simp [Array.getD_eq_getD_getElem?, hb]
      · cases b
        · have := left_set hb; omega
        · simp [Array.getD_eq_getD_getElem?, hb]
    exact ⟨hr, hdone listed a w hsz hS hs hh hr⟩
  | succ fuel ih =>
    intro listed a w hsz hl hS hs hh
    refine ⟨hdone listed a w hsz hS hs hh, fun i hi => ?_⟩
    rw [Region.ready, List.mem_filter] at hi
    obtain ⟨hi, hb⟩ := hi
    have hi := List.mem_range.1 hi
    have ho : ops[i]? = some ops[i] := Array.getElem?_eq_getElem hi
    rw [ho] at hb
    simp only [Bool.and_eq_true, Bool.not_eq_true', Option.map_some, Option.getD_some, Array.all_eq_true_iff_forall_mem, Bool.or_eq_true] at hb
    have hun : listed[i]? = some false := by
      have h1 : i < listed.size := by omega
      rw [Array.getD_eq_getD_getElem?, Array.getElem?_eq_getElem h1] at hb
      rw [Array.getElem?_eq_getElem h1]
      simpa using hb.1
    refine wpOp_mono (fun a' w' hx => ?_) (step i ops[i] ho a w hS hs fun e he hbind => ?_)
    · obtain ⟨v, rfl, hn, hv, hS', hE'⟩ := hx
      refine ih _ _ _ (by simpa using hsz) (by have := left_set hun; omega) hS' ?_ ?_
      · refine ⟨by cases ops[i].dst <;> exact hs.1, ?_, fun t ht => ?_⟩
        · cases ops[i].dst <;> simp [Act.put, hs.2.1]
        · rw [← hs.2.2 t ht]
          rcases hd : ops[i].dst with _ | d
          · rfl
          · have hne : d ≠ t := by
              intro e
              subst e
              have hx : (ops.any fun o => o.dst == some d) = true := by
                rw [Array.any_eq_true]
                exact ⟨i, hi, by simp [hd]⟩
              rw [hx] at ht
              cases ht
            simp [Act.put, Array.getD_eq_getD_getElem?, Array.getElem?_setIfInBounds_ne hne]
      · intro j hj
        by_cases e : i = j
        · subst e
          refine ⟨v, hv, fun o ho' => ?_⟩
          rw [ho] at ho'
          cases ho'
          rcases hd : ops[i].dst with _ | d
          · exact (hn hd).symm
          · have hlt := (okB_dst hok ho hd).1
            simp [Act.put, Array.getD_eq_getD_getElem?, show d < a.tmps.size by rw [hs.2.1]; exact hlt]
        · rw [Array.getElem?_setIfInBounds_ne e] at hj
          obtain ⟨u, hu, hslot⟩ := hh j hj
          refine ⟨u, hE _ _ _ _ hu hE', fun o hoj => ?_⟩
          rw [← hslot o hoj]
          rcases hd : o.dst with _ | d
          · rfl
          rcases hdi : ops[i].dst with _ | di
          · rfl
          · have hne : di ≠ d := by
              intro e2
              subst e2
              exact okB_ne hok ho hoj e hdi hd
            simp [Act.put, Array.getD_eq_getD_getElem?, Array.getElem?_setIfInBounds_ne hne]
    · refine hh e.on ?_
      have := hb.2 e he
      rcases this with h | h
      · rw [hbind] at h; cases h
      · rcases hx : listed[e.on]? with _ | b
        · rw [Array.getD_eq_getD_getElem?, hx] at h; cases h
        · rw [Array.getD_eq_getD_getElem?, hx] at h; simp at h; rw [h]
/-- The slots, with what the region's operations have told. -/
def fillFrom (a : Act) (vs : Nat → Value) : Nat → List Oper → Act
  | _, [] => a
  | i, o :: r => fillFrom (a.put o.dst (vs i)) vs (i + 1) r
/-- What an operation may lean on: what is known of those that it waits for. -/
def Deps (F : Nat → Value → World → Prop) (vs : Nat → Value) (w : World) : List Edge → Prop
  | [] => True
  | e :: r => F e.on (vs e.on) w ∧ Deps F vs w r
def bound (l : List Edge) : List Edge := l.filter (Region.binds .any)
def Steps (P : Program) (ops : Array Oper) (Q : Exit → Act → World → Prop) (S : World → Prop) (F : Nat → Value → World → Prop) (E : World → World → Prop) (a0 : Act) : Nat → List Oper → Prop
  | _, [] => True
  | i, o :: r => (∀ (vs : Nat → Value) (w : World), S w → Deps F vs w (bound o.after.toList) →
      if Region.wanted o (yielded ops (fillFrom a0 vs 0 ops.toList).tmps) then o.wp P (fillFrom a0 vs 0 ops.toList) w (fun a' w' => ∃ v, a' = (fillFrom a0 vs 0 ops.toList).put o.dst v ∧ (o.dst = none → v = undef) ∧ F i v w' ∧ S w' ∧ E w w') Q
      else F i undef w) ∧ Steps P ops Q S F E a0 (i + 1) r
def Ends (F : Nat → Value → World → Prop) (vs : Nat → Value) (w : World) : Nat → List Oper → Prop
  | _, [] => True
  | i, _ :: r => F i (vs i) w ∧ Ends F vs w (i + 1) r
theorem steps_at : ∀ (l : List Oper) (k : Nat), Steps P ops Q S F E a0 k l → ∀ i o, l[i]? = some o → ∀ (vs : Nat → Value) (w : World), S w → Deps F vs w (bound o.after.toList) →
      if Region.wanted o (yielded ops (fillFrom a0 vs 0 ops.toList).tmps) then o.wp P (fillFrom a0 vs 0 ops.toList) w (fun a' w' => ∃ v, a' = (fillFrom a0 vs 0 ops.toList).put o.dst v ∧ (o.dst = none → v = undef) ∧ F (k + i) v w' ∧ S w' ∧ E w w') Q
      else F (k + i) undef w
  | [], _, _, i, o, h => by simp at h
  | o' :: r, k, h, 0, o, ho => by simp at ho; subst ho; exact h.1
  | o' :: r, k, h, i + 1, o, ho => by
    have := steps_at r (k + 1) h.2 i o (by simpa using ho)
    rwa [show k + 1 + i = k + (i + 1) by omega] at this
theorem ends_of (vs : Nat → Value) (w : World) : ∀ (l : List Oper) (k : Nat), (∀ i, i < l.length → F (k + i) (vs (k + i)) w) → Ends F vs w k l
  | [], _, _ => trivial
  | _ :: r, k, h => ⟨h 0 (by simp), ends_of vs w r (k + 1) fun i hi => by
      have := h (i + 1) (by simp; omega)
      rwa [show k + (i + 1) = k + 1 + i by omega] at this⟩
theorem deps_of (vs : Nat → Value) (w : World) : ∀ (l : List Edge), (∀ e ∈ l, F e.on (vs e.on) w) → Deps F vs w l
  | [], _ => trivial
  | e :: r, h => ⟨h e (by simp), deps_of vs w r fun e' he => h e' (by simp [he])⟩
theorem fillFrom_defers (vs : Nat → Value) : ∀ (l : List Oper) (k : Nat) (a : Act), (fillFrom a vs k l).defers = a.defers ∧ (fillFrom a vs k l).tmps.size = a.tmps.size
  | [], _, a => ⟨rfl, rfl⟩
  | o :: r, k, a => by
    have := fillFrom_defers vs r (k + 1) (a.put o.dst (vs k))
    refine ⟨this.1.trans (by cases o.dst <;> rfl), this.2.trans (by cases o.dst <;> simp [Act.put])⟩
theorem fillFrom_none (vs : Nat → Value) (t : Nat) : ∀ (l : List Oper) (k : Nat) (a : Act), (∀ o ∈ l, o.dst ≠ some t) → (fillFrom a vs k l).tmps[t]? = a.tmps[t]?
  | [], _, a, _ => rfl
  | o :: r, k, a, h => by
    rw [fillFrom, fillFrom_none vs t r (k + 1) _ fun o' ho => h o' (by simp [ho])]
    rcases hd : o.dst with _ | d
    · rfl
    · have hne : d ≠ t := fun e => h o (by simp) (by rw [hd, e])
      simp [Act.put, Array.getElem?_setIfInBounds_ne hne]
theorem fillFrom_some (vs : Nat → Value) (t : Nat) : ∀ (l : List Oper) (k : Nat) (a : Act) (i : Nat) (o : Oper), l[i]? = some o → o.dst = some t → t < a.tmps.size → (∀ j oj, i < j → l[j]? = some oj → oj.dst ≠ some t) → (fillFrom a vs k l).tmps[t]? = some (vs (k + i))
  | [], _, a, i, o, h, _, _, _ => by simp at h
  | o' :: r, k, a, 0, o, h, hd, ht, hn => by
    simp at h; subst h
    rw [fillFrom, fillFrom_none vs t r (k + 1) _ ?_]
    · simp [Act.put, hd, ht]
    · intro oj hoj
      obtain ⟨j, hj, rfl⟩ := List.getElem_of_mem hoj
      exact hn (j + 1) _ (by omega) (by simp [List.getElem?_eq_getElem hj])
  | o' :: r, k, a, i + 1, o, h, hd, ht, hn => by
    rw [fillFrom, fillFrom_some vs t r (k + 1) _ i o (by simpa using h) hd (by cases o'.dst <;> simp [Act.put, ht]) fun j oj hj hoj => hn (j + 1) oj (by omega) (by simpa using hoj)]
    rw [show k + 1 + i = k + (i + 1) by omega]
/-- A REGION THAT DRAWS ITS ORDER, op by op: what is known of the result of each (F), of the world throughout (S). -/
theorem region_flow {id : Nat} {w0 : World} (hm : P.follows .mixedOrders = true) (S : World → Prop) (F : Nat → Value → World → Prop) (E : World → World → Prop) (hok : okB ops a0.tmps.size = true) (hE : ∀ i v w w', F i v w → E w w' → F i v w') (hS : S w0.drew)
    (step : ∀ i o, ops[i]? = some o → ∀ (a : Act) (w : World), S w → Same ops a0 a → (∀ e ∈ o.after, Region.binds .any e = true → Has ops F a w e.on) →
      wpOp P ops Q i (fun a' w' => ∃ v, a' = a.put o.dst v ∧ (o.dst = none → v = undef) ∧ F i v w' ∧ S w' ∧ E w w') a w)
    (fin : ∀ a w, S w → Same ops a0 a → (∀ i, i < ops.size → Has ops F a w i) → Q .normal a w) :
    (Code.region id ops true).wp P Q a0 w0 := by
  refine wp_region_any hm (flow_go hok hE step fin ops.size _ a0 _ (by simp) ?_ hS ⟨rfl, rfl, fun _ _ => rfl⟩ ?_)
  · simp [left]
  · intro i hi
    rw [Array.getElem?_replicate] at hi
    split at hi <;> cases hi
theorem same_fill (hok : okB ops a0.tmps.size = true) {a : Act} (hs : Same ops a0 a) : a = fillFrom a0 (fun i => ((ops[i]?).bind (·.dst)).elim undef fun d => a.tmps.getD d undef) 0 ops.toList := by
  have hf := fillFrom_defers (fun i => ((ops[i]?).bind (·.dst)).elim undef fun d => a.tmps.getD d undef) ops.toList 0 a0
  have htmps : a.tmps = (fillFrom a0 (fun i => ((ops[i]?).bind (·.dst)).elim undef fun d => a.tmps.getD d undef) 0 ops.toList).tmps := by
    apply Array.ext
    · rw [hf.2, hs.2.1]
    · intro t h1 h2
      have key : a.tmps[t]? = (fillFrom a0 (fun i => ((ops[i]?).bind (·.dst)).elim undef fun d => a.tmps.getD d undef) 0 ops.toList).tmps[t]? := by
        by_cases hx : (ops.any fun o => o.dst == some t) = true
        · rw [Array.any_eq_true] at hx
          obtain ⟨i, hi, hd⟩ := hx
          have hd : ops[i].dst = some t := by simpa using hd
          have ho : ops[i]? = some ops[i] := Array.getElem?_eq_getElem hi
          rw [fillFrom_some _ t ops.toList 0 a0 i ops[i] (by simp) hd (okB_dst hok ho hd).1 ?_]
          · simp [ho, hd, Array.getD_eq_getD_getElem?, Array.getElem?_eq_getElem h1]
          · intro j oj hj hoj
            exact okB_ne hok ho (by simpa using hoj) (by omega) hd
        · have hx' : (ops.any fun o => o.dst == some t) = false := by simpa using hx
          rw [fillFrom_none _ t ops.toList 0 a0 ?_]
          · have := hs.2.2 t hx'
            have h3 : t < a0.tmps.size := by rw [← hs.2.1]; exact h1
            simp [Array.getD_eq_getD_getElem?, Array.getElem?_eq_getElem h1, Array.getElem?_eq_getElem h3] at this ⊢
            exact this
          · intro o ho e
            obtain ⟨i, hi, rfl⟩ := List.getElem_of_mem ho
            apply hx
            rw [Array.any_eq_true]
            exact ⟨i, by simpa using hi, by simpa using e⟩
      rw [Array.getElem?_eq_getElem h1, Array.getElem?_eq_getElem h2] at key
      exact Option.some.inj key
  have hdef := hs.1.trans hf.1.symm
  obtain ⟨ta, da⟩ := a
  simp only at htmps hdef
  subst hdef
  generalize (fillFrom a0 _ 0 ops.toList) = b at *
  obtain ⟨tb, db⟩ := b
  simp only at htmps
  subst htmps
  rfl
/-- The same, the slots written out: 'vs i' is what operation i has told. -/
theorem region_flow' {id : Nat} {w0 : World} (S : World → Prop) (F : Nat → Value → World → Prop) (E : World → World → Prop) (hm : P.follows .mixedOrders = true) (hok : okB ops a0.tmps.size = true) (hEr : ∀ w, E w w) (hE : ∀ i v w w', F i v w → E w w' → F i v w') (hS : S w0.drew)
    (steps : Steps P ops Q S F E a0 0 ops.toList)
    (fin : ∀ (vs : Nat → Value) (w : World), S w → Ends F vs w 0 ops.toList → Q .normal (fillFrom a0 vs 0 ops.toList) w) :
    (Code.region id ops true).wp P Q a0 w0 := by
  have hval : ∀ {a : Act} {w : World} {i : Nat}, i < ops.size → Has ops F a w i → F i (((ops[i]?).bind (·.dst)).elim undef fun d => a.tmps.getD d undef) w := by
    intro a w i hi h
    obtain ⟨v, hv, hsl⟩ := h
    have ho : ops[i]? = some ops[i] := Array.getElem?_eq_getElem hi
    have := hsl _ ho
    simp only [ho, Option.bind_some]
    rw [this]
    exact hv
  refine region_flow hm S F E hok hE hS (fun i o ho a w hS hs hd => ?_) (fun a w hS hs hall => ?_)
  · have hi : i < ops.size := (Array.getElem?_eq_some_iff.1 ho).1
    have hst := steps_at ops.toList 0 steps i o (by simpa using ho) (fun i => ((ops[i]?).bind (·.dst)).elim undef fun d => a.tmps.getD d undef) w hS
      (deps_of _ _ _ fun e he => by
        have he2 := List.mem_filter.1 he
        have he' : e ∈ o.after := by simpa using he2.1
        have hlt := okB_edge hok ho he' he2.2
        exact hval (by omega) (hd e he' he2.2))
    rw [← same_fill hok hs, Nat.zero_add] at hst
    unfold wpOp
    rw [ho]
    simp only
    split
    · rename_i hw; rw [if_pos hw] at hst; exact .inl hst
    · rename_i hw; rw [if_neg hw] at hst; exact ⟨_, rfl, fun _ => rfl, hst, hS, hEr _⟩
  · have := fin (fun i => ((ops[i]?).bind (·.dst)).elim undef fun d => a.tmps.getD d undef) w hS (ends_of _ _ _ _ fun i hi => by
      rw [Nat.zero_add]
      exact hval (by simpa using hi) (hall i (by simpa using hi)))
    rwa [← same_fill hok hs] at this
end
theorem wants {c : Bool} {A B : Prop} (hc : c = true) (h : A) : if c = true then A else B := by rw [if_pos hc]; exact h
theorem unwanted {c : Bool} {A B : Prop} (hc : c = false) (h : B) : if c = true then A else B := by rw [hc]; exact h
end Go.Flow2
