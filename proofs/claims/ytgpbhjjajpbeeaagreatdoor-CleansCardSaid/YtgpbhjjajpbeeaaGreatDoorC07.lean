/-
  Maps in memory, told as lists of pairs in the order of their laying: look-up, store, delete, length, ranging. No condition.
-/
import Derived.Test.YtgpbhjjajpbeeaaGreatDoorC06
import Derived.Maps.Keyed
import Derived.Laws.IdiomRangeMap
set_option linter.unusedSimpArgs false
set_option linter.unusedVariables false
set_option linter.unnecessarySimpa false
namespace Go.Proofs.YtgpbhjjajpbeeaaGreatDoor
open Go.RowKit Go.Lib Go.Maps

section pure
variable {α β : Type} [DecidableEq α]
/-- the pairs' second at a first -/
def aLook (l : List (α × β)) (x : α) : Option β := (l.find? fun p => decide (p.1 = x)).map (·.2)
def aPut (l : List (α × β)) (x : α) (y : β) : List (α × β) := if x ∈ l.map (·.1) then l.map fun p => if p.1 = x then (x, y) else p else l ++ [(x, y)]
def aDel (l : List (α × β)) (x : α) : List (α × β) := l.filter fun p => decide (p.1 ≠ x)
theorem aLook_none {l : List (α × β)} {x : α} (h : ∀ p ∈ l, p.1 ≠ x) : aLook l x = none := by
  unfold aLook
  rw [List.find?_eq_none.2 (fun p hp => by simpa using h p hp)]; rfl
theorem aLook_at {l : List (α × β)} {j : Nat} {p : α × β} (hn : (l.map (·.1)).Nodup) (hj : l[j]? = some p) : aLook l p.1 = some p.2 := by
  induction l generalizing j with
  | nil => simp at hj
  | cons q l ih =>
    rw [List.map_cons, List.nodup_cons] at hn
    cases j with
    | zero => simp at hj; subst hj; simp [aLook]
    | succ j =>
      simp at hj
      have hm : p ∈ l := List.mem_of_getElem? hj
      have hne : ¬ q.1 = p.1 := fun e => hn.1 (e ▸ List.mem_map_of_mem hm)
      have := ih hn.2 hj
      unfold aLook at *
      rw [List.find?_cons_of_neg (by simpa using hne)]; exact this
theorem aLook_mem {l : List (α × β)} {x : α} {y : β} (h : aLook l x = some y) : (x, y) ∈ l := by
  unfold aLook at h
  obtain ⟨p, hp, rfl⟩ := Option.map_eq_some_iff.1 h
  have h1 := List.find?_some hp
  have h2 := List.mem_of_find?_eq_some hp
  simp at h1
  rw [← h1]; exact h2
theorem aPut_keys (l : List (α × β)) (x : α) (y : β) : (aPut l x y).map (·.1) = if x ∈ l.map (·.1) then l.map (·.1) else l.map (·.1) ++ [x] := by
  unfold aPut
  split
  · rw [List.map_map]
    apply List.map_congr_left
    intro p _
    simp only [Function.comp]
    split
    · rename_i h; exact h.symm
    · rfl
  · simp
theorem aPut_nodup {l : List (α × β)} (h : (l.map (·.1)).Nodup) (x : α) (y : β) : ((aPut l x y).map (·.1)).Nodup := by
  rw [aPut_keys]
  split
  · exact h
  · rename_i hx
    rw [List.nodup_append]
    exact ⟨h, by simp, fun a ha b hb => by simp at hb; subst hb; exact fun e => hx (e ▸ ha)⟩
theorem aDel_nodup {l : List (α × β)} (h : (l.map (·.1)).Nodup) (x : α) : ((aDel l x).map (·.1)).Nodup :=
  h.sublist (List.filter_sublist.map _)
theorem aPut_mem {l : List (α × β)} {x : α} {y : β} {p : α × β} (h : p ∈ aPut l x y) : p = (x, y) ∨ p ∈ l := by
  unfold aPut at h
  split at h
  · obtain ⟨q, hq, rfl⟩ := List.mem_map.1 h
    split
    · exact .inl rfl
    · exact .inr hq
  · rcases List.mem_append.1 h with h | h
    · exact .inr h
    · exact .inl (by simpa using h)
theorem aDel_mem {l : List (α × β)} {x : α} {p : α × β} (h : p ∈ aDel l x) : p ∈ l := (List.mem_filter.1 h).1
end pure

theorem map_eraseIdx' {γ δ : Type} (f : γ → δ) (l : List γ) (j : Nat) : (l.eraseIdx j).map f = (l.map f).eraseIdx j := by
  induction l generalizing j with
  | nil => rfl
  | cons x l ih => cases j with
    | zero => rfl
    | succ j => simp [ih]

section heap
variable {α β : Type} {P : Program} {k : TypeId} {kf : α → Value} {vf : β → Value} {w : World} {r : Nat} {l : List (α × β)}

/-- the map in block r holds just these pairs, laid in this order -/
def MapOf (P : Program) (k : TypeId) (kf : α → Value) (vf : β → Value) (w : World) (r : Nat) (l : List (α × β)) : Prop :=
  ∃ es clock, w.heap[r]? = some (.map es clock) ∧ es.toList.map (fun e => (e.key, e.val)) = l.map (fun p => (kf p.1, vf p.2)) ∧ (∀ e ∈ es.toList, e.born < clock) ∧ (es.toList.map (·.born)).Nodup ∧
    (∀ p ∈ l, ∃ t, keyOf P k (kf p.1) = some t) ∧ (l.map (·.1)).Nodup

theorem MapOf.nodup (h : MapOf P k kf vf w r l) : (l.map (·.1)).Nodup := h.choose_spec.choose_spec.2.2.2.2.2
theorem MapOf.keyed (h : MapOf P k kf vf w r l) : ∀ p ∈ l, ∃ t, keyOf P k (kf p.1) = some t := h.choose_spec.choose_spec.2.2.2.2.1
theorem MapOf.lt (h : MapOf P k kf vf w r l) : r < w.heap.size := by
  obtain ⟨es, clock, hb, _⟩ := h
  rcases Nat.lt_or_ge r w.heap.size with h | h
  · exact h
  · rw [Array.getElem?_eq_none h] at hb; cases hb
theorem MapOf.block {w' : World} (h : MapOf P k kf vf w r l) (hb : w'.heap[r]? = w.heap[r]?) : MapOf P k kf vf w' r l := by
  obtain ⟨es, clock, h1, h2⟩ := h
  exact ⟨es, clock, hb.trans h1, h2⟩
theorem MapOf.off {w' : World} {g : Nat} (h : MapOf P k kf vf w r l) (hO : Off g w w') (hg : r ≠ g) : MapOf P k kf vf w' r l := h.block (hO.block r hg)
theorem MapOf.ext {w' : World} (h : MapOf P k kf vf w r l) (hE : Ext w w') : MapOf P k kf vf w' r l := h.block (hE.block r h.lt)
theorem MapOf.made (w : World) : MapOf (α := α) (β := β) P k kf vf (w.alloc (.map #[] 0)) w.heap.size [] :=
  ⟨#[], 0, heap_alloc_new w _, rfl, by simp, by simp, by simp, by simp⟩

theorem zip_at {es : Array MapEntry} (h2 : es.toList.map (fun e => (e.key, e.val)) = l.map (fun p => (kf p.1, vf p.2))) {j : Nat} {e : MapEntry} (hj : es.toList[j]? = some e) : ∃ p, l[j]? = some p ∧ e.key = kf p.1 ∧ e.val = vf p.2 := by
  have h3 : (es.toList.map (fun e => (e.key, e.val)))[j]? = some (e.key, e.val) := by rw [List.getElem?_map, hj]; rfl
  rw [h2, List.getElem?_map] at h3
  obtain ⟨p, hp, he⟩ := Option.map_eq_some_iff.1 h3
  injection he with ha hb
  exact ⟨p, hp, ha.symm, hb.symm⟩
theorem zip_back {es : Array MapEntry} (h2 : es.toList.map (fun e => (e.key, e.val)) = l.map (fun p => (kf p.1, vf p.2))) {j : Nat} {p : α × β} (hj : l[j]? = some p) : ∃ e, es.toList[j]? = some e ∧ e.key = kf p.1 ∧ e.val = vf p.2 := by
  have h3 : (l.map (fun p => (kf p.1, vf p.2)))[j]? = some (kf p.1, vf p.2) := by rw [List.getElem?_map, hj]; rfl
  rw [← h2, List.getElem?_map] at h3
  obtain ⟨e, he, hp⟩ := Option.map_eq_some_iff.1 h3
  injection hp with ha hb
  exact ⟨e, he, ha, hb⟩
theorem all_keyed {es : Array MapEntry} (h2 : es.toList.map (fun e => (e.key, e.val)) = l.map (fun p => (kf p.1, vf p.2))) (h5 : ∀ p ∈ l, ∃ t, keyOf P k (kf p.1) = some t) : ∀ e ∈ es.toList, ∃ t, keyOf P k e.key = some t := by
  intro e he
  obtain ⟨j, hj⟩ := List.mem_iff_getElem?.1 he
  obtain ⟨p, hp, hk, _⟩ := zip_at h2 hj
  rw [hk]; exact h5 p (List.mem_of_getElem? hp)

/-- which entry, or none -/
theorem MapOf.find (h : MapOf P k kf vf w r l) (K : Keyed P k) (hinj : ∀ x y, kf x = kf y → x = y) {x : α} {t : Lit} (hx : keyOf P k (kf x) = some t) {es : Array MapEntry} {clock : Nat} (hb : w.heap[r]? = some (.map es clock)) :
    ((Instr.findKey k (kf x) es.toList).run P w = .ok none w ∧ (∀ p ∈ l, p.1 ≠ x)) ∨ ∃ (j : Nat) (e : MapEntry) (y : β), (Instr.findKey k (kf x) es.toList).run P w = .ok (some (j, vf y)) w ∧ es.toList[j]? = some e ∧ e.key = kf x ∧ e.val = vf y ∧ l[j]? = some (x, y) := by
  obtain ⟨es', clock', hb', h2, h3, h4, h5, h6⟩ := h
  rw [hb] at hb'; injection hb' with hb'; injection hb' with e1 e2; subst e1; subst e2
  rcases K.find w hx es.toList (all_keyed h2 h5) with ⟨h, hne⟩ | ⟨j, e, h, hj, he⟩
  · refine .inl ⟨h, fun p hp e => ?_⟩
    obtain ⟨j, hj⟩ := List.mem_iff_getElem?.1 hp
    obtain ⟨e0, he0, hk, _⟩ := zip_back h2 hj
    exact hne e0 (List.mem_of_getElem? he0) (by rw [hk, e])
  · obtain ⟨p, hp, hk, hv⟩ := zip_at h2 hj
    have hpx : p.1 = x := hinj _ _ (hk.symm.trans he)
    subst hpx
    exact .inr ⟨j, e, p.2, by rw [h, hv], hj, he, hv, hp⟩

theorem run_mapDesc {t e : TypeId} (ht : P.underlying t = some (.map k e)) : (underlying t).run P w = .ok (.map k e) w := run_underlying ht w

/-- v := m[x] -/
theorem MapOf.look [DecidableEq α] (h : MapOf P k kf vf w r l) (K : Keyed P k) (hinj : ∀ x y, kf x = kf y → x = y) {t e : TypeId} (ht : P.underlying t = some (.map k e)) {z : Value} (hz : (zeroValue e).run P w = .ok z w) {x : α} {lt : Lit} (hx : keyOf P k (kf x) = some lt) :
    (Instr.lookup t (.map (some r)) (kf x) false).run P w = .ok (((aLook l x).map vf).getD z) w := by
  have h0 := h
  obtain ⟨es, clock, hb, h2, h3, h4, h5, h6⟩ := h0
  rcases h.find K hinj hx hb with ⟨hf, hne⟩ | ⟨j, e0, y, hf, hj, he, hv, hp⟩
  · rw [aLook_none hne]
    simp [Instr.lookup, run_underlying ht, MapKept.run_getObj_map hb, K.check w es.isEmpty hx, hf, hz]
  · have := aLook_at h6 hp
    rw [this]
    simp [Instr.lookup, run_underlying ht, MapKept.run_getObj_map hb, K.check w es.isEmpty hx, hf]
/-- v, ok := m[x] -/
theorem MapOf.lookOk [DecidableEq α] (h : MapOf P k kf vf w r l) (K : Keyed P k) (hinj : ∀ x y, kf x = kf y → x = y) {t e : TypeId} (ht : P.underlying t = some (.map k e)) {z : Value} (hz : (zeroValue e).run P w = .ok z w) {x : α} {lt : Lit} (hx : keyOf P k (kf x) = some lt) :
    (Instr.lookup t (.map (some r)) (kf x) true).run P w = .ok (.tuple #[((aLook l x).map vf).getD z, .bool (aLook l x).isSome]) w := by
  have h0 := h
  obtain ⟨es, clock, hb, h2, h3, h4, h5, h6⟩ := h0
  rcases h.find K hinj hx hb with ⟨hf, hne⟩ | ⟨j, e0, y, hf, hj, he, hv, hp⟩
  · rw [aLook_none hne]
    simp [Instr.lookup, run_underlying ht, MapKept.run_getObj_map hb, K.check w es.isEmpty hx, hf, hz]
  · have := aLook_at h6 hp
    rw [this]
    simp [Instr.lookup, run_underlying ht, MapKept.run_getObj_map hb, K.check w es.isEmpty hx, hf]

/-- the block r alone is laid anew -/
theorem off_set (w : World) (r : Nat) (o : Obj) : Off r w { w with heap := w.heap.setIfInBounds r o } :=
  ⟨rfl, rfl, rfl, by simp, fun j hj => by simp [Array.getElem?_setIfInBounds, Ne.symm hj]⟩
theorem set_get {w : World} {r : Nat} (h : r < w.heap.size) (o : Obj) : ({ w with heap := w.heap.setIfInBounds r o } : World).heap[r]? = some o := by
  simp [Array.getElem?_setIfInBounds, h]

theorem nodup_idx {γ δ : Type} [DecidableEq γ] {l : List (γ × δ)} (hn : (l.map (·.1)).Nodup) {i j : Nat} {p q : γ × δ} (hi : l[i]? = some p) (hj : l[j]? = some q) (h : p.1 = q.1) : i = j := by
  have hi' : (l.map (·.1))[i]? = some p.1 := by rw [List.getElem?_map, hi]; rfl
  have hj' : (l.map (·.1))[j]? = some p.1 := by rw [List.getElem?_map, hj, h]; rfl
  have h1 := (List.getElem?_eq_some_iff.1 hi').1
  exact (List.getElem?_inj h1 hn).1 (hi'.trans hj'.symm)

/-- m[x] = y -/
theorem MapOf.store [DecidableEq α] (h : MapOf P k kf vf w r l) (K : Keyed P k) (hinj : ∀ x y, kf x = kf y → x = y) {t e : TypeId} (ht : P.underlying t = some (.map k e)) {x : α} {lt : Lit} (hx : keyOf P k (kf x) = some lt) (y : β) :
    ∃ w', (Instr.mapUpdate t (.map (some r)) (kf x) (vf y)).run P w = .ok () w' ∧ MapOf P k kf vf w' r (aPut l x y) ∧ Off r w w' := by
  have h0 := h
  have hlt := h.lt
  obtain ⟨es, clock, hb, h2, h3, h4, h5, h6⟩ := h0
  have hkeys : ∀ p ∈ aPut l x y, ∃ t, keyOf P k (kf p.1) = some t := by
    intro p hp
    rcases aPut_mem hp with rfl | hp
    · exact ⟨lt, hx⟩
    · exact h5 p hp
  rcases h.find K hinj hx hb with ⟨hf, hne⟩ | ⟨j, e0, y0, hf, hj, he, hv, hp⟩
  · refine ⟨_, by simp [Instr.mapUpdate, run_underlying ht, MapKept.run_getObj_map hb, K.check w false hx, hf, setObj, Sem.run, hb]; rfl, ?_, off_set w r _⟩
    have hmem : x ∉ l.map (·.1) := by
      intro hm
      obtain ⟨p, hp, e⟩ := List.mem_map.1 hm
      exact hne p hp e
    refine ⟨_, _, set_get hlt _, ?_, ?_, ?_, hkeys, aPut_nodup h6 x y⟩
    · unfold aPut; rw [if_neg hmem]; simp [h2]
    · intro e he
      rw [Array.toList_push, List.mem_append] at he
      rcases he with he | he
      · have := h3 e he; omega
      · simp at he; subst he; simp
    · rw [Array.toList_push, List.map_append, List.nodup_append]
      refine ⟨h4, by simp, fun a ha b hb => ?_⟩
      obtain ⟨e, he, rfl⟩ := List.mem_map.1 ha
      simp at hb; subst hb
      exact Nat.ne_of_lt (h3 e he)
  · have hje : es[j]? = some e0 := by simpa using hj
    have hstay : (Instr.keyThatStays (((es[j]?).map (·.key)).getD (kf x)) (kf x)).run P w = .ok (kf x) w := by
      rw [hje]; simp only [Option.map_some, Option.getD_some]; rw [he]; exact K.stays w hx
    refine ⟨{ w with heap := w.heap.setIfInBounds r (.map (es.modify j fun e => { e with key := kf x, val := vf y }) clock) }, ?_, ?_, off_set w r _⟩
    · simp only [Instr.mapUpdate, Sem.run_bind, run_underlying ht, Result.andThen_ok, MapKept.run_getObj_map hb, K.check w false hx, hf, hstay]
      simp [setObj, Sem.run, hb]
    · have hmem : x ∈ l.map (·.1) := List.mem_map.2 ⟨(x, y0), List.mem_of_getElem? hp, rfl⟩
      have hmod : (es.modify j fun e => { e with key := kf x, val := vf y }).toList = es.toList.modify j fun e => { e with key := kf x, val := vf y } := Array.toList_modify ..
      refine ⟨_, clock, set_get hlt _, ?_, ?_, ?_, hkeys, aPut_nodup h6 x y⟩
      · unfold aPut; rw [if_pos hmem, hmod]
        apply List.ext_getElem?
        intro i
        rw [List.getElem?_map, List.getElem?_map, List.getElem?_modify, List.getElem?_map]
        by_cases hij : j = i
        · subst hij
          rw [hj, hp]; simp
        · simp only [hij, if_false]
          have hz : (es.toList.map (fun e => (e.key, e.val)))[i]? = (l.map (fun p => (kf p.1, vf p.2)))[i]? := by rw [h2]
          rw [List.getElem?_map, List.getElem?_map] at hz
          cases hl : l[i]? with
          | none => rw [hl] at hz; simpa using hz
          | some q =>
            have hq : ¬ q.1 = x := fun e => hij (nodup_idx h6 hp hl (by simpa using e.symm))
            rw [hl] at hz
            simpa [hq] using hz
      · intro e he'
        rw [hmod] at he'
        obtain ⟨i, hi⟩ := List.mem_iff_getElem?.1 he'
        rw [List.getElem?_modify] at hi
        obtain ⟨e1, he1, rfl⟩ := Option.map_eq_some_iff.1 hi
        have := h3 e1 (List.mem_of_getElem? he1)
        split <;> exact this
      · rw [hmod]
        have : (es.toList.modify j fun e => { e with key := kf x, val := vf y }).map (·.born) = es.toList.map (·.born) := by
          apply List.ext_getElem?
          intro i
          rw [List.getElem?_map, List.getElem?_modify, List.getElem?_map]
          cases es.toList[i]? with
          | none => rfl
          | some e => simp; split <;> rfl
        rw [this]; exact h4

/-- delete(m, x) -/
theorem MapOf.drop [DecidableEq α] (h : MapOf P k kf vf w r l) (K : Keyed P k) (hinj : ∀ x y, kf x = kf y → x = y) {t e : TypeId} (ht : P.underlying t = some (.map k e)) {x : α} {lt : Lit} (hx : keyOf P k (kf x) = some lt) (ty : TypeId) :
    ∃ w', (Builtin.delete_ #[t, k] ty #[.map (some r), kf x]).run P w = .ok (.tuple #[]) w' ∧ MapOf P k kf vf w' r (aDel l x) ∧ Off r w w' := by
  have h0 := h
  have hlt := h.lt
  obtain ⟨es, clock, hb, h2, h3, h4, h5, h6⟩ := h0
  rcases h.find K hinj hx hb with ⟨hf, hne⟩ | ⟨j, e0, y0, hf, hj, he, hv, hp⟩
  · refine ⟨_, by simp [Builtin.delete_, run_underlying ht, MapKept.run_getObj_map hb, K.check w es.isEmpty hx, hf, setObj, Sem.run, hb]; rfl, ?_, off_set w r _⟩
    have hd : aDel l x = l := List.filter_eq_self.2 (fun p hp => by simpa using hne p hp)
    rw [hd]
    exact ⟨es, clock, set_get hlt _, h2, h3, h4, h5, h6⟩
  · refine ⟨_, by simp [Builtin.delete_, run_underlying ht, MapKept.run_getObj_map hb, K.check w es.isEmpty hx, hf, setObj, Sem.run, hb]; rfl, ?_, off_set w r _⟩
    have hjl : j < es.size := by
      have := (List.getElem?_eq_some_iff.1 hj).1; simpa using this
    have her : (es.eraseIdxIfInBounds j).toList = es.toList.eraseIdx j := by
      rw [Array.eraseIdxIfInBounds, dif_pos hjl, Array.toList_eraseIdx]
    have hd : aDel l x = l.eraseIdx j := by
      unfold aDel
      apply List.ext_getElem?
      intro i
      clear hf her
      have hgen : ∀ (l : List (α × β)) (j : Nat), (l.map (·.1)).Nodup → l[j]? = some (x, y0) → l.filter (fun p => decide (p.1 ≠ x)) = l.eraseIdx j := by
        intro l
        induction l with
        | nil => intro j _ h; simp at h
        | cons q l ih =>
          intro j hn hj
          rw [List.map_cons, List.nodup_cons] at hn
          cases j with
          | zero =>
            simp at hj; subst hj
            have : l.filter (fun p => decide (p.1 ≠ x)) = l := List.filter_eq_self.2 (fun p hp => by
              have : p.1 ≠ x := fun e => hn.1 (by rw [← show p.1 = x from e]; exact List.mem_map.2 ⟨p, hp, rfl⟩)
              simpa using this)
            simp only [List.eraseIdx_zero, List.tail_cons]
            rw [List.filter_cons_of_neg (by simp)]; exact this
          | succ j =>
            simp at hj
            have hq : q.1 ≠ x := fun e => hn.1 (by rw [e]; exact List.mem_map.2 ⟨(x, y0), List.mem_of_getElem? hj, rfl⟩)
            rw [List.filter_cons_of_pos (by simpa using hq), ih j hn.2 hj]; rfl
      rw [hgen l j h6 hp]
    rw [hd]
    refine ⟨_, clock, set_get hlt _, ?_, ?_, ?_, ?_, ?_⟩
    · rw [her, map_eraseIdx', h2, map_eraseIdx']
    · intro e he'; rw [her] at he'; exact h3 e (List.mem_of_mem_eraseIdx he')
    · rw [her, map_eraseIdx']; exact h4.sublist (List.eraseIdx_sublist ..)
    · intro p hp; exact h5 p (List.mem_of_mem_eraseIdx hp)
    · rw [map_eraseIdx']; exact h6.sublist (List.eraseIdx_sublist ..)

/-- len(m) -/
theorem MapOf.len (h : MapOf P k kf vf w r l) {t e : TypeId} (ht : P.underlying t = some (.map k e)) (ty : TypeId) : (Builtin.len_ #[t] ty #[.map (some r)]).run P w = .ok (.int .i64 l.length) w := by
  obtain ⟨es, clock, hb, h2, _⟩ := h
  have : es.size = l.length := by
    have := congrArg List.length h2
    simpa using this
  simp [Builtin.len_, run_underlying ht, MapKept.run_getObj_map hb, this, goInt]
end heap
end Go.Proofs.YtgpbhjjajpbeeaaGreatDoor
