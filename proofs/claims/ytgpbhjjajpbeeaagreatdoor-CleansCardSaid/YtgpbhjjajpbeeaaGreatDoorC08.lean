/-
  The disk in memory, as plain mathematics: what each operation answers and leaves. No program in sight.
-/
import Derived.Test.YtgpbhjjajpbeeaaGreatDoorC07
set_option linter.unusedSimpArgs false
set_option linter.unusedVariables false
set_option linter.unnecessarySimpa false
namespace Go.Proofs.YtgpbhjjajpbeeaaGreatDoor
namespace Dk

abbrev Nm := List UInt8
/-- a file: its bytes, of which some are safe -/
structure Nd where
  data : List UInt8
  safe : Nat
abbrev Mv := Nm × Option Nat
structure D where
  now : List (Nm × Nat)
  safe : List (Nm × Nat)
  moves : List (List Mv)
  room : Int
  wait : Nat
  bad : Nat
  ids : List Nat
  node : Nat → Nd
/-- an error: its number, its file's name -/
inductive Er where
  | ok
  | num (n : Int)
  | file (n : Int) (name : Nm)
  deriving DecidableEq
def Er.code : Er → Int
  | .ok => 0
  | .num n => n
  | .file n _ => n
def Er.name : Er → Nm
  | .file _ s => s
  | _ => []

def setMoves (m : List (Nm × Nat)) (l : List Mv) : List (Nm × Nat) := l.foldl (fun m x => match x.2 with | none => aDel m x.1 | some f => aPut m x.1 f) m
theorem setMoves_snoc (m : List (Nm × Nat)) (l : List Mv) (x : Mv) : setMoves m (l ++ [x]) = match x.2 with | none => aDel (setMoves m l) x.1 | some f => aPut (setMoves m l) x.1 f := by
  simp [setMoves]
def D.fails (d : D) : Bool × D := if 0 < d.wait then (false, { d with wait := d.wait - 1 }) else if 0 < d.bad then (true, { d with bad := d.bad - 1 }) else (false, d)
def D.find (d : D) (name : Nm) : Option Nat × Er × D :=
  if d.fails.1 = true then (none, .file 9 name, d.fails.2) else match aLook d.now name with
    | none => (none, .file 11 name, d.fails.2)
    | some x => (some x, .ok, d.fails.2)
def D.mv (d : D) (l : List Mv) : D := { d with now := setMoves d.now l, moves := d.moves ++ [l] }
def upd (f : Nat → Nd) (x : Nat) (y : Nd) : Nat → Nd := fun i => if i = x then y else f i
def D.setNode (d : D) (x : Nat) (y : Nd) : D := { d with node := upd d.node x y }
/-- x: the new file's -/
def D.create (d : D) (name : Nm) (x : Nat) : Er × D :=
  if d.fails.1 = true then (.file 9 name, d.fails.2) else if (aLook d.fails.2.now name).isSome = true then (.file 12 name, d.fails.2)
  else (.ok, ({ d.fails.2 with ids := d.fails.2.ids ++ [x], node := upd d.fails.2.node x ⟨[], 0⟩ } : D).mv [(name, some x)])
def D.used (d : D) : Nat := (d.now.map fun p => (d.node p.2).data.length).sum
def D.append (d : D) (name : Nm) (b : List UInt8) : Er × D :=
  match d.find name with
  | (none, e, d) => (e, d)
  | (some x, _, d) => if d.room - d.used < b.length then (.file 10 name, d) else (.ok, d.setNode x { d.node x with data := (d.node x).data ++ b })
def D.size (d : D) (name : Nm) : Int × Er × D :=
  match d.find name with
  | (none, e, d) => (0, e, d)
  | (some x, _, d) => ((d.node x).data.length, .ok, d)
/-- from 'at' on so many, as far as there are such -/
def part (l : List UInt8) (at_ n : Int) : List UInt8 := (l.drop (min at_.toNat l.length)).take (min n.toNat (l.length - min at_.toNat l.length))
def D.readAt (d : D) (name : Nm) (at_ n : Int) : List UInt8 × Er × D :=
  match d.find name with
  | (none, e, d) => ([], e, d)
  | (some x, _, d) => (part (d.node x).data at_ n, .ok, d)
def D.sync (d : D) (name : Nm) : Er × D :=
  match d.find name with
  | (none, e, d) => (e, d)
  | (some x, _, d) => (.ok, d.setNode x { d.node x with safe := (d.node x).data.length })
def D.rename (d : D) (src dst : Nm) : Er × D :=
  match d.find src with
  | (none, e, d) => (e, d)
  | (some x, _, d) => (.ok, if src = dst then d else d.mv [(dst, some x), (src, none)])
def D.remove (d : D) (name : Nm) : Er × D :=
  match d.find name with
  | (none, e, d) => (e, d)
  | (some _, _, d) => (.ok, d.mv [(name, none)])
def D.syncDir (d : D) : Er × D :=
  if d.fails.1 = true then (.file 9 [], d.fails.2) else (.ok, { d.fails.2 with safe := d.moves.foldl setMoves d.safe, moves := [] })

/-- all that is named is one of the disk's own files; what is safe of a file is a beginning -/
structure D.Wf (d : D) : Prop where
  now : ∀ p ∈ d.now, p.2 ∈ d.ids
  safe : ∀ p ∈ d.safe, p.2 ∈ d.ids
  moves : ∀ l ∈ d.moves, ∀ x ∈ l, ∀ f, x.2 = some f → f ∈ d.ids
  part : ∀ x ∈ d.ids, (d.node x).safe ≤ (d.node x).data.length
  ids : d.ids.Nodup
theorem mem_setMoves {m : List (Nm × Nat)} {l : List Mv} {p : Nm × Nat} (h : p ∈ setMoves m l) : p ∈ m ∨ ∃ x ∈ l, x.2 = some p.2 := by
  induction l generalizing m with
  | nil => exact .inl h
  | cons x l ih =>
    rcases ih (m := match x.2 with | none => aDel m x.1 | some f => aPut m x.1 f) h with h | ⟨y, hy, e⟩
    · cases hx : x.2 with
      | none => rw [hx] at h; exact .inl (aDel_mem h)
      | some f =>
        rw [hx] at h
        rcases aPut_mem h with rfl | h
        · exact .inr ⟨x, by simp, hx⟩
        · exact .inl h
    · exact .inr ⟨y, by simp [hy], e⟩
theorem D.fails_now (d : D) : d.fails.2.now = d.now ∧ d.fails.2.safe = d.safe ∧ d.fails.2.moves = d.moves ∧ d.fails.2.room = d.room ∧ d.fails.2.ids = d.ids ∧ d.fails.2.node = d.node := by
  unfold D.fails; split
  · exact ⟨rfl, rfl, rfl, rfl, rfl, rfl⟩
  · split <;> exact ⟨rfl, rfl, rfl, rfl, rfl, rfl⟩
theorem D.fails_wf {d : D} (h : d.Wf) : d.fails.2.Wf := by
  obtain ⟨h1, h2, h3, h4, h5, h6⟩ := d.fails_now
  exact ⟨by rw [h1, h5]; exact h.now, by rw [h2, h5]; exact h.safe, by rw [h3, h5]; exact h.moves, by rw [h5, h6]; exact h.part, by rw [h5]; exact h.ids⟩
theorem D.mv_wf {d : D} (h : d.Wf) {l : List Mv} (hl : ∀ x ∈ l, ∀ f, x.2 = some f → f ∈ d.ids) : (d.mv l).Wf := by
  refine ⟨fun p hp => ?_, h.safe, fun k hk x hx f hf => ?_, h.part, h.ids⟩
  · rcases mem_setMoves hp with hp | ⟨x, hx, e⟩
    · exact h.now p hp
    · exact hl x hx _ e
  · rcases List.mem_append.1 hk with hk | hk
    · exact h.moves k hk x hx f hf
    · simp at hk; subst hk; exact hl x hx f hf
theorem D.setNode_wf {d : D} (h : d.Wf) {x : Nat} {y : Nd} (hy : y.safe ≤ y.data.length) : (d.setNode x y).Wf := by
  refine ⟨h.now, h.safe, h.moves, fun z hz => ?_, h.ids⟩
  show ((upd d.node x y) z).safe ≤ ((upd d.node x y) z).data.length
  unfold upd; split
  · exact hy
  · exact h.part z hz
theorem D.find_wf {d : D} (h : d.Wf) (name : Nm) : (d.find name).2.2.Wf ∧ ∀ x, (d.find name).1 = some x → x ∈ (d.find name).2.2.ids ∧ (d.find name).2.1 = .ok := by
  have hf := D.fails_wf h
  have e := d.fails_now
  unfold D.find
  split
  · exact ⟨hf, fun x hx => by cases hx⟩
  · cases ha : aLook d.now name with
    | none => exact ⟨hf, fun x hx => by cases hx⟩
    | some y =>
      refine ⟨hf, fun x hx => ?_⟩
      injection hx with hx; subst hx
      refine ⟨?_, rfl⟩
      show y ∈ d.fails.2.ids
      rw [e.2.2.2.2.1]
      exact h.now _ (aLook_mem ha)
end Dk
end Go.Proofs.YtgpbhjjajpbeeaaGreatDoor
/-
  Ranging over a map that is not changed meanwhile: what was handed out is, at the end, a permutation of its pairs. Whatever order the tape gave.
-/
namespace Go.Proofs.YtgpbhjjajpbeeaaGreatDoor
open Go.RowKit Go.Lib Go.Maps

section
variable {α β : Type} {P : Program} {k : TypeId} {kf : α → Value} {vf : β → Value} {w : World} {r i : Nat} {l vis : List (α × β)}

theorem nodup_lt_length : ∀ (n : Nat) (js : List Nat), js.Nodup → (∀ j ∈ js, j < n) → js.length ≤ n := by
  intro n
  induction n with
  | zero =>
    intro js _ h
    cases js with
    | nil => simp
    | cons j js => exact absurd (h j (by simp)) (by omega)
  | succ n ih =>
    intro js hn h
    by_cases hm : n ∈ js
    · have h1 := ih (js.erase n) (hn.erase n) (fun j hj => by
        have h2 := (List.Nodup.mem_erase_iff hn).1 hj
        have := h j h2.2
        have := h2.1
        omega)
      rw [List.length_erase_of_mem hm] at h1
      omega
    · have := ih js hn (fun j hj => by
        have := h j hj
        have : j ≠ n := fun e => hm (e ▸ hj)
        omega)
      omega
/-- the iterator in block i over the map in block r: what it has handed out -/
def RangeAt (P : Program) (k : TypeId) (kf : α → Value) (vf : β → Value) (w : World) (i r : Nat) (l vis : List (α × β)) : Prop :=
  ∃ (es : Array MapEntry) (clock : Nat) (seen : Array Nat) (js : List Nat), w.heap[r]? = some (.map es clock) ∧ w.heap[i]? = some (.mapIter (some r) clock seen clock) ∧
    es.toList.map (fun e => (e.key, e.val)) = l.map (fun p => (kf p.1, vf p.2)) ∧ (∀ e ∈ es.toList, e.born < clock) ∧ (es.toList.map (·.born)).Nodup ∧
    js.Nodup ∧ (∀ j ∈ js, j < es.size) ∧ seen.toList = js.map (fun j => (es[j]?.map (·.born)).getD 0) ∧ vis.map some = js.map (fun j => l[j]?)

theorem RangeAt.lt (h : RangeAt P k kf vf w i r l vis) : i < w.heap.size ∧ r < w.heap.size ∧ i ≠ r := by
  obtain ⟨es, clock, seen, js, h1, h2, _⟩ := h
  refine ⟨?_, ?_, ?_⟩
  · rcases Nat.lt_or_ge i w.heap.size with h | h
    · exact h
    · rw [Array.getElem?_eq_none h] at h2; cases h2
  · rcases Nat.lt_or_ge r w.heap.size with h | h
    · exact h
    · rw [Array.getElem?_eq_none h] at h1; cases h1
  · rintro rfl; rw [h1] at h2; injection h2 with h2; cases h2
theorem RangeAt.block {w' : World} (h : RangeAt P k kf vf w i r l vis) (hi : w'.heap[i]? = w.heap[i]?) (hr : w'.heap[r]? = w.heap[r]?) : RangeAt P k kf vf w' i r l vis := by
  obtain ⟨es, clock, seen, js, h1, h2, h3⟩ := h
  exact ⟨es, clock, seen, js, hr.trans h1, hi.trans h2, h3⟩
theorem RangeAt.ext {w' : World} (h : RangeAt P k kf vf w i r l vis) (hE : Ext w w') : RangeAt P k kf vf w' i r l vis := h.block (hE.block i h.lt.1) (hE.block r h.lt.2.1)
theorem RangeAt.length (h : RangeAt P k kf vf w i r l vis) : vis.length ≤ l.length := by
  obtain ⟨es, clock, seen, js, h1, h2, h3, h4, h5, h6, h7, h8, h9⟩ := h
  have e1 : vis.length = js.length := by simpa using congrArg List.length h9
  have e2 : es.size = l.length := by simpa using congrArg List.length h3
  rw [e1, ← e2]
  exact nodup_lt_length _ _ h6 h7
theorem RangeAt.nodup (h : RangeAt P k kf vf w i r l vis) (hn : (l.map (·.1)).Nodup) : (vis.map (·.1)).Nodup := by
  obtain ⟨es, clock, seen, js, h1, h2, h3, h4, h5, h6, h7, h8, h9⟩ := h
  have esz : es.size = l.length := by simpa using congrArg List.length h3
  have e : (vis.map (·.1)).map some = js.map (fun j => (l.map (·.1))[j]?) := by
    have := congrArg (List.map (Option.map Prod.fst)) h9
    rw [List.map_map, List.map_map] at this
    rw [List.map_map]
    refine Eq.trans ?_ (this.trans ?_)
    · exact List.map_congr_left fun p _ => rfl
    · exact List.map_congr_left fun j _ => by simp
  have hj : (js.map (fun j => (l.map (·.1))[j]?)).Nodup := by
    unfold List.Nodup at h6 ⊢
    rw [List.pairwise_map]
    refine h6.imp_of_mem fun {a b} ha hb hab hc => hab ?_
    have h1 := h7 a ha
    exact (List.getElem?_inj (by simp; omega) hn).1 hc
  rw [← e] at hj
  unfold List.Nodup at hj ⊢
  rw [List.pairwise_map] at hj
  exact hj.imp fun hab hc => hab (by rw [hc])
theorem RangeAt.mem (h : RangeAt P k kf vf w i r l vis) : ∀ p ∈ vis, p ∈ l := by
  obtain ⟨es, clock, seen, js, h1, h2, h3, h4, h5, h6, h7, h8, h9⟩ := h
  intro p hp
  have : some p ∈ js.map (fun j => l[j]?) := by rw [← h9]; exact List.mem_map.2 ⟨p, hp, rfl⟩
  obtain ⟨j, _, hj⟩ := List.mem_map.1 this
  exact List.mem_of_getElem? hj
/-- how many have been handed out, as the world tells -/
def seenOf (w : World) (i : Nat) : Nat := match w.heap[i]? with | some (.mapIter _ _ seen _) => seen.size | _ => 0
theorem RangeAt.seen (h : RangeAt P k kf vf w i r l vis) : seenOf w i = vis.length := by
  obtain ⟨es, clock, seen, js, h1, h2, h3, h4, h5, h6, h7, h8, h9⟩ := h
  have e1 : vis.length = js.length := by simpa using congrArg List.length h9
  have e2 : seen.size = js.length := by rw [← Array.length_toList, h8, List.length_map]
  unfold seenOf; rw [h2, e1]; exact e2
/-- range m -/
theorem MapOf.range (h : MapOf P k kf vf w r l) {t e : TypeId} (ht : P.underlying t = some (.map k e)) :
    ∃ w', (Instr.range t (.map (some r))).run P w = .ok (.pointer (some ⟨w.heap.size, 0, none⟩)) w' ∧ RangeAt P k kf vf w' w.heap.size r l [] ∧ Ext w w' ∧ w'.heap.size = w.heap.size + 1 := by
  have hlt := h.lt
  obtain ⟨es, clock, hb, h2, h3, h4, h5, h6⟩ := h
  refine ⟨_, run_range_map w t k e r es clock ht hb, ?_, (Ext.refl w).new _, by simp⟩
  exact ⟨es, clock, #[], [], by rw [heap_alloc_old w _ hlt]; exact hb, heap_alloc_new w _, h2, h3, h4, List.nodup_nil, by simp, rfl, rfl⟩
/-- one round: a pair that has not come yet, or all have come -/
theorem RangeAt.next (h : RangeAt P k kf vf w i r l vis) (ty : TypeId) :
    (∃ p w', (Instr.next (.pointer (some ⟨i, 0, none⟩)) false ty).run P w = .ok (.tuple #[.bool true, kf p.1, vf p.2]) w' ∧ p ∈ l ∧ RangeAt P k kf vf w' i r l (vis ++ [p]) ∧ Off i w w' ∧
      (Instr.entry (.pointer (some ⟨i, 0, none⟩))).run P w' = .ok (.tuple #[kf p.1, vf p.2]) w' ∧ vis.length < l.length) ∨
    ((Instr.next (.pointer (some ⟨i, 0, none⟩)) false ty).run P w = .ok (.tuple #[.bool false]) w ∧ vis.Perm l) := by
  have hl := h.lt
  obtain ⟨es, clock, seen, js, h1, h2, h3, h4, h5, h6, h7, h8, h9⟩ := h
  have gi : (getObj i).run P w = .ok (.mapIter (some r) clock seen clock) w := by simp [getObj, Sem.run, h2]
  have gr : (getObj r).run P w = .ok (.map es clock) w := MapKept.run_getObj_map h1
  have htest : (!seen.isEmpty && !es.isEmpty && es.all (fun x => decide (x.born ≥ clock))) = false := next_test_false seen es clock clock h4 (Nat.le_refl _)
  have hold : ((leftOf es seen).filter fun x => decide (x.born < clock)) = leftOf es seen := by
    rw [Array.filter_eq_self]
    intro x hx
    have := h4 x (mem_left (Array.mem_toList_iff.2 hx)).1
    simpa using this
  have hnew : ((leftOf es seen).filter fun x => decide (x.born ≥ clock)) = #[] := by
    rw [Array.filter_eq_empty_iff]
    intro x hx
    have := h4 x (mem_left (Array.mem_toList_iff.2 hx)).1
    simp; omega
  have esz : es.size = l.length := by simpa using congrArg List.length h3
  by_cases h0 : (leftOf es seen).size = 0
  · refine .inr ⟨?_, ?_⟩
    · have he : leftOf es seen = #[] := Array.eq_empty_of_size_eq_zero h0
      have he' : (es.filter fun e => !seen.contains e.born) = #[] := he
      simp only [Instr.next, Sem.run_bind, gi, gr, Result.andThen_ok, htest, he']
      simp [choose, Sem.run, Question.forced]
    · have hall := all_seen es seen h0
      have hjs : js.Perm (List.range es.size) := by
        refine (List.perm_ext_iff_of_nodup h6 List.nodup_range).2 fun j => ⟨fun hj => List.mem_range.2 (h7 j hj), fun hj => ?_⟩
        have hj' := List.mem_range.1 hj
        have hm : es[j] ∈ es.toList := by simp
        have hc := hall es[j] hm
        have hmem : es[j].born ∈ seen.toList := by simpa using hc
        rw [h8] at hmem
        obtain ⟨j', hj1, hj2⟩ := List.mem_map.1 hmem
        have hj3 := h7 j' hj1
        rw [Array.getElem?_eq_getElem hj3] at hj2
        simp only [Option.map_some, Option.getD_some] at hj2
        have : j' = j := by
          have e1 : (es.toList.map (·.born))[j']? = some es[j].born := by simp [hj3, hj2]
          have e2 : (es.toList.map (·.born))[j]? = some es[j].born := by simp [hj']
          exact (List.getElem?_inj (by simpa using hj3) h5).1 (e1.trans e2.symm)
        exact this ▸ hj1
      have e1 : (vis.map some).Perm ((List.range es.size).map fun j => l[j]?) := by rw [h9]; exact hjs.map _
      have e2 : (List.range es.size).map (fun j => l[j]?) = l.map some := by
        rw [esz]
        apply List.ext_getElem?
        intro j
        rw [List.getElem?_map, List.getElem?_map]
        by_cases hj : j < l.length
        · rw [List.getElem?_range hj]; simp [hj]
        · rw [List.getElem?_eq_none (by simpa using hj), List.getElem?_eq_none (by omega)]; rfl
      rw [e2] at e1
      have := e1.filterMap id
      simpa using this
  · refine .inl ?_
    generalize hL : leftOf es seen = L at *
    have hL' : (es.filter fun e => !seen.contains e.born) = L := hL
    have hch : ∃ (j : Nat) (w1 : World), j < L.size ∧ w1.heap = w.heap ∧ w1.os = w.os ∧ w1.tape = w.tape ∧ w1.output = w.output ∧ (choose (Question.mapNext L.size)).run P w = .ok j w1 := by
      by_cases hf : L.size ≤ 1
      · exact ⟨0, w, by omega, rfl, rfl, rfl, rfl, by simp [choose, Sem.run, Question.forced, hf]⟩
      · exact ⟨_, w.drew, Nat.mod_lt _ (by omega), rfl, rfl, rfl, rfl, by
          simp only [choose, Sem.run, Question.forced, decide_eq_true_eq, hf, if_false, Question.cut]
          rfl⟩
    obtain ⟨j, w1, hj, hh1, hh2, hh3, hh4, hrun⟩ := hch
    have hne : L.isEmpty = false := by simp [Array.isEmpty, h0]
    have hme : L[j] ∈ (leftOf es seen).toList := by rw [hL]; simp
    obtain ⟨hmem, hseen⟩ := mem_left hme
    obtain ⟨jj, hjj⟩ := List.mem_iff_getElem?.1 hmem
    obtain ⟨p, hp, hk, hv⟩ := zip_at h3 hjj
    have hjlt : jj < es.size := by have := (List.getElem?_eq_some_iff.1 hjj).1; simpa using this
    have hjj' : es[jj]? = some L[j] := by simpa using hjj
    have hnot : jj ∉ js := by
      intro hin
      have : L[j].born ∈ seen.toList := by
        rw [h8]; exact List.mem_map.2 ⟨jj, hin, by rw [hjj']; rfl⟩
      have : seen.contains L[j].born = true := by simpa using this
      rw [this] at hseen; cases hseen
    have hl1 : i < w1.heap.size := by rw [hh1]; exact hl.1
    have hset : ∀ o' : Obj, (setObj i o').run P w1 = .ok () { w1 with heap := w1.heap.setIfInBounds i o' } := fun o' => by
      have h2' : w1.heap[i]? = some (.mapIter (some r) clock seen clock) := by rw [hh1]; exact h2
      simp [setObj, Sem.run, h2']
    have hnextE : (Instr.next (.pointer (some ⟨i, 0, none⟩)) false ty).run P w = .ok (.tuple #[.bool true, kf p.1, vf p.2]) { w1 with heap := w1.heap.setIfInBounds i (.mapIter (some r) clock (seen.push L[j].born) clock) } := by
      simp only [Instr.next, Sem.run_bind, gi, gr, Result.andThen_ok, htest, hL', hold, hnew, hne, Bool.false_eq_true, if_false, Array.append_empty, Array.empty_append, Array.size_map, hrun, Array.getElem?_map, Array.getElem?_eq_getElem hj, Option.map_some, hset]
      rw [← hk, ← hv]
      rfl
    have hgi' : ({ w1 with heap := w1.heap.setIfInBounds i (.mapIter (some r) clock (seen.push L[j].born) clock) } : World).heap[i]? = some (.mapIter (some r) clock (seen.push L[j].born) clock) := set_get hl1 _
    have hgr' : ({ w1 with heap := w1.heap.setIfInBounds i (.mapIter (some r) clock (seen.push L[j].born) clock) } : World).heap[r]? = some (.map es clock) := by
      show (w1.heap.setIfInBounds i _)[r]? = _
      rw [Array.getElem?_setIfInBounds_ne hl.2.2, hh1]; exact h1
    have hlen : vis.length < l.length := by
      have e1 : vis.length = js.length := by simpa using congrArg List.length h9
      have := nodup_lt_length es.size (js ++ [jj]) (by
        rw [List.nodup_append]; exact ⟨h6, by simp, fun a ha b hb => by simp at hb; subst hb; exact fun e => hnot (e ▸ ha)⟩) (by
        intro a ha
        rcases List.mem_append.1 ha with h | h
        · exact h7 a h
        · simp at h; subst h; exact hjlt)
      simp at this; omega
    refine ⟨p, _, hnextE, List.mem_of_getElem? hp, ?_, ?_, ?_, hlen⟩
    · refine ⟨es, clock, seen.push L[j].born, js ++ [jj], hgr', hgi', h3, h4, h5, ?_, ?_, ?_, ?_⟩
      · rw [List.nodup_append]; exact ⟨h6, by simp, fun a ha b hb => by simp at hb; subst hb; exact fun e => hnot (e ▸ ha)⟩
      · intro a ha
        rcases List.mem_append.1 ha with h | h
        · exact h7 a h
        · simp at h; subst h; exact hjlt
      · rw [Array.toList_push, h8, List.map_append, List.map_cons, List.map_nil, hjj']; rfl
      · rw [List.map_append, List.map_append, h9]
        simp [hp]
    · refine ⟨hh2, hh3, hh4, by simp [hh1], fun q hq => ?_⟩
      show (w1.heap.setIfInBounds i _)[q]? = _
      rw [Array.getElem?_setIfInBounds_ne (Ne.symm hq), hh1]
    · have hfind : es.find? (fun e => e.born == L[j].born) = some L[j] := by
        have := find_born L[j] es.toList h5 hmem
        simpa using this
      simp only [Instr.entry, getObj, Sem.run_bind, Sem.run, hgi', hgr', Result.andThen, Array.back?_push, bne_self_eq_false, Bool.false_eq_true, if_false, hfind]
      rw [← hk, ← hv]
      rfl
end
end Go.Proofs.YtgpbhjjajpbeeaaGreatDoor
