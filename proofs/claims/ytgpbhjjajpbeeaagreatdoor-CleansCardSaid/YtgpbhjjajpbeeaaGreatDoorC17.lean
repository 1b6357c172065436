/-
  What a directory holds, and what Clean leaves of it, as plain mathematics. No program in sight.
-/
import Derived.Test.YtgpbhjjajpbeeaaGreatDoorC16
import Derived.Test.YtgpbhjjajpbeeaaGreatDoorC10
set_option linter.unusedSimpArgs false
set_option linter.unusedVariables false
set_option linter.unnecessarySimpa false
namespace Go.Proofs.YtgpbhjjajpbeeaaGreatDoor
open Go.RowKit Go.Lib Go.Maps Dk
--PURE
section look
variable {α β : Type} [DecidableEq α]
theorem aLook_del (l : List (α × β)) (x y : α) : aLook (aDel l x) y = if y = x then none else aLook l y := by
  unfold aLook aDel
  induction l with
  | nil => simp
  | cons p l ih =>
    by_cases h : p.1 = x
    · rw [List.filter_cons_of_neg (by simpa using h), ih]
      split
      · rfl
      · rename_i hy
        rw [List.find?_cons_of_neg (by simp; exact fun e => hy (e.symm.trans h))]
    · rw [List.filter_cons_of_pos (by simpa using h)]
      by_cases hp : p.1 = y
      · rw [List.find?_cons_of_pos (by simpa using hp), List.find?_cons_of_pos (by simpa using hp), if_neg (fun e => h (hp.trans e))]
      · rw [List.find?_cons_of_neg (by simpa using hp), List.find?_cons_of_neg (by simpa using hp), ih]
theorem aLook_cons (p : α × β) (l : List (α × β)) (y : α) : aLook (p :: l) y = if p.1 = y then some p.2 else aLook l y := by
  unfold aLook
  by_cases h : p.1 = y
  · rw [List.find?_cons_of_pos (by simpa using h), if_pos h]; rfl
  · rw [List.find?_cons_of_neg (by simpa using h), if_neg h]
theorem aLook_nil (y : α) : aLook ([] : List (α × β)) y = none := rfl
theorem aLook_append (l k : List (α × β)) (y : α) : aLook (l ++ k) y = (aLook l y).or (aLook k y) := by
  induction l with
  | nil => rfl
  | cons p l ih =>
    rw [List.cons_append, aLook_cons, aLook_cons, ih]
    split <;> rfl
theorem aLook_none_iff {l : List (α × β)} {x : α} : aLook l x = none ↔ x ∉ l.map (·.1) := by
  induction l with
  | nil => simp [aLook_nil]
  | cons p l ih =>
    rw [aLook_cons, List.map_cons, List.mem_cons]
    split
    · rename_i h; simp [h]
    · rename_i h; rw [ih]; simp [Ne.symm h]
theorem aLook_put (l : List (α × β)) (x : α) (y : β) (z : α) : aLook (aPut l x y) z = if z = x then some y else aLook l z := by
  unfold aPut
  split
  · rename_i hx
    induction l with
    | nil => simp at hx
    | cons p l ih =>
      rw [List.map_cons, aLook_cons, aLook_cons]
      by_cases hp : p.1 = x
      · rw [if_pos hp]
        by_cases hz : z = x
        · subst hz; simp
        · rw [if_neg (fun e => hz e.symm), if_neg hz, if_neg (fun e => hz (e.symm.trans hp))]
          by_cases hx' : x ∈ l.map (·.1)
          · rw [ih hx', if_neg hz]
          · have : (l.map fun p => if p.1 = x then (x, y) else p) = l := by
              conv => rhs; rw [← List.map_id l]
              apply List.map_congr_left
              intro q hq
              have : q.1 ≠ x := fun e => hx' (e ▸ List.mem_map_of_mem hq)
              simp [this]
            rw [this]
      · rw [if_neg hp]
        have hx' : x ∈ l.map (·.1) := by
          rw [List.map_cons, List.mem_cons] at hx
          rcases hx with h | h
          · exact absurd h.symm hp
          · exact h
        rw [ih hx']
        by_cases hz : z = x
        · subst hz; rw [if_neg hp]; simp
        · simp [hz]
  · rename_i hx
    rw [aLook_append, aLook_cons, aLook_nil]
    by_cases hz : z = x
    · subst hz
      rw [if_pos rfl, if_pos rfl, aLook_none_iff.2 hx]; rfl
    · rw [if_neg (Ne.symm hz), if_neg hz]; simp
/-- two lists of pairs that tell the same -/
def SameMap (l k : List (α × β)) : Prop := ∀ x, aLook l x = aLook k x
theorem SameMap.keys {l k : List (α × β)} (h : SameMap l k) (hl : (l.map (·.1)).Nodup) (hk : (k.map (·.1)).Nodup) : (l.map (·.1)).Perm (k.map (·.1)) := by
  refine (List.perm_ext_iff_of_nodup hl hk).2 fun x => ?_
  have e := h x
  constructor
  · intro hx
    exact Classical.byContradiction fun hk => (aLook_none_iff.1 (e.trans (aLook_none_iff.2 hk))) hx
  · intro hx
    exact Classical.byContradiction fun hl => (aLook_none_iff.1 (e.symm.trans (aLook_none_iff.2 hl))) hx
theorem aLook_of_mem {l : List (α × β)} (hn : (l.map (·.1)).Nodup) {p : α × β} (hp : p ∈ l) : aLook l p.1 = some p.2 := by
  obtain ⟨j, hj⟩ := List.mem_iff_getElem?.1 hp
  exact aLook_at hn hj
theorem SameMap.perm {l k : List (α × β)} (h : l.Perm k) (hn : (l.map (·.1)).Nodup) : SameMap l k := by
  intro x
  have hk : (k.map (·.1)).Nodup := (h.map _).nodup_iff.1 hn
  cases e : aLook l x with
  | none =>
    rw [aLook_none_iff] at e
    exact (aLook_none_iff.2 fun hx => e ((h.map _).mem_iff.2 hx)).symm
  | some y => exact (aLook_of_mem hk (h.mem_iff.1 (aLook_mem e))).symm
end look

namespace Dk
theorem look_setMoves {l k : List (Nm × Nat)} (ms : List Mv) (h : SameMap l k) : SameMap (setMoves l ms) (setMoves k ms) := by
  induction ms generalizing l k with
  | nil => exact h
  | cons m ms ih =>
    refine ih (l := match m.2 with | none => aDel l m.1 | some f => aPut l m.1 f) (k := match m.2 with | none => aDel k m.1 | some f => aPut k m.1 f) ?_
    intro x
    cases m.2 with
    | none => show aLook (aDel l m.1) x = aLook (aDel k m.1) x; rw [aLook_del, aLook_del, h x]
    | some f => show aLook (aPut l m.1 f) x = aLook (aPut k m.1 f) x; rw [aLook_put, aLook_put, h x]
theorem setMoves_nodup {l : List (Nm × Nat)} (ms : List Mv) (h : (l.map (·.1)).Nodup) : ((setMoves l ms).map (·.1)).Nodup := by
  induction ms generalizing l with
  | nil => exact h
  | cons m ms ih =>
    refine ih (l := match m.2 with | none => aDel l m.1 | some f => aPut l m.1 f) ?_
    cases m.2 with
    | none => exact aDel_nodup h _
    | some f => exact aPut_nodup h _ _
theorem foldMoves_nodup {l : List (Nm × Nat)} (ms : List (List Mv)) (h : (l.map (·.1)).Nodup) : ((ms.foldl setMoves l).map (·.1)).Nodup := by
  induction ms generalizing l with
  | nil => exact h
  | cons m ms ih => exact ih (setMoves_nodup m h)
theorem look_foldMoves {l k : List (Nm × Nat)} (ms : List (List Mv)) (h : SameMap l k) : SameMap (ms.foldl setMoves l) (ms.foldl setMoves k) := by
  induction ms generalizing l k with
  | nil => exact h
  | cons m ms ih => exact ih (look_setMoves m h)

/-- a file's bytes -/
def D.file (d : D) (n : Nm) : Option (List UInt8) := (aLook d.now n).map fun x => (d.node x).data
abbrev Fl := List (Nm × List UInt8)
/-- what it has: sorted by the names -/
def D.files (d : D) : Fl := d.list.map fun n => (n, (d.file n).getD [])
theorem list_mem (d : D) (n : Nm) : n ∈ d.list ↔ n ∈ d.now.map (·.1) := List.mem_mergeSort
theorem list_nodup {d : D} (h : (d.now.map (·.1)).Nodup) : d.list.Nodup := ((List.mergeSort_perm _ _).nodup_iff).2 h
theorem files_names (d : D) : d.files.map (·.1) = d.list := by unfold D.files; rw [List.map_map]; exact List.map_id _
theorem files_look (d : D) (n : Nm) : aLook d.files n = d.file n := by
  cases e : d.file n with
  | none =>
    rw [aLook_none_iff, files_names, list_mem, ← aLook_none_iff]
    unfold D.file at e
    exact Option.map_eq_none_iff.1 e
  | some b =>
    have hm : n ∈ d.list := by
      rw [list_mem]
      exact Classical.byContradiction fun h => by
        unfold D.file at e; rw [aLook_none_iff.2 h] at e; cases e
    unfold D.files
    generalize d.list = l at hm
    induction l with
    | nil => cases hm
    | cons m l ih =>
      rw [List.map_cons, aLook_cons]
      by_cases h : m = n
      · rw [if_pos h, h, e]; rfl
      · rw [if_neg h]
        refine ih ?_
        rcases List.mem_cons.1 hm with h' | h'
        · exact absurd h'.symm h
        · exact h'
theorem files_eq {d e : D} (hd : (d.now.map (·.1)).Nodup) (he : (e.now.map (·.1)).Nodup) (h : ∀ n, d.file n = e.file n) : d.files = e.files := by
  have hl : d.list = e.list := by
    refine sort_perm ((List.perm_ext_iff_of_nodup hd he).2 fun x => ?_)
    have k := h x
    have i1 : ∀ d : D, d.file x = none ↔ x ∉ d.now.map (·.1) := fun d => by unfold D.file; rw [Option.map_eq_none_iff, aLook_none_iff]
    constructor
    · intro hx
      exact Classical.byContradiction fun hn => ((i1 d).1 (k.trans ((i1 e).2 hn))) hx
    · intro hx
      exact Classical.byContradiction fun hn => ((i1 e).1 (k.symm.trans ((i1 d).2 hn))) hx
  unfold D.files
  rw [hl]
  exact List.map_congr_left fun n _ => by rw [h n]

/-- nothing fails -/
def D.Calm (d : D) : Prop := d.wait = 0 ∧ d.bad = 0
theorem D.Calm.fails {d : D} (h : d.Calm) : d.fails = (false, d) := by
  unfold D.fails; rw [if_neg (by have := h.1; omega), if_neg (by have := h.2; omega)]
theorem D.Calm.find {d : D} (h : d.Calm) (n : Nm) : d.find n = match aLook d.now n with | none => (none, .file 11 n, d) | some x => (some x, .ok, d) := by
  unfold D.find; rw [h.fails]; rfl
theorem D.Calm.size {d : D} (h : d.Calm) (n : Nm) : d.size n = match d.file n with | none => (0, .file 11 n, d) | some b => (b.length, .ok, d) := by
  unfold D.size D.file; rw [h.find]
  cases aLook d.now n <;> rfl
theorem part_all (l : List UInt8) : part l 0 l.length = l := by unfold part; simp
theorem D.Calm.readAt {d : D} (h : d.Calm) (n : Nm) (i k : Int) : d.readAt n i k = match d.file n with | none => ([], .file 11 n, d) | some b => (part b i k, .ok, d) := by
  unfold D.readAt D.file; rw [h.find]
  cases aLook d.now n <;> rfl
theorem D.Calm.remove {d : D} (h : d.Calm) {n : Nm} (hn : n ∈ d.now.map (·.1)) : d.remove n = (.ok, d.mv [(n, none)]) := by
  unfold D.remove; rw [h.find]
  cases e : aLook d.now n with
  | none => exact absurd hn (aLook_none_iff.1 e)
  | some x => rfl
theorem D.Calm.mv {d : D} (h : d.Calm) (l : List Mv) : (d.mv l).Calm := h
theorem D.Calm.syncDir {d : D} (h : d.Calm) : d.syncDir = (.ok, { d with safe := d.moves.foldl setMoves d.safe, moves := [] }) := by
  unfold D.syncDir; rw [h.fails]; rfl

def bManifest : Nm := [109, 97, 110, 105, 102, 101, 115, 116]
def bFresh : Nm := bManifest ++ [46, 110, 101, 119]
def bData : Nm := [100, 97, 116, 97, 45]
def bHint : Nm := [104, 105, 110, 116, 45]
def digit (k : Nat) : UInt8 := UInt8.ofNat (48 + k % 10)
/-- a segment's name -/
def segName (kind : Nm) (k : Nat) : Nm := kind ++ [digit (k / 100000), digit (k / 10000), digit (k / 1000), digit (k / 100), digit (k / 10), digit k]
def isDig (b : UInt8) : Bool := decide (48 ≤ b.toNat ∧ b.toNat ≤ 57)
def isNm (kind n : Nm) : Bool := decide (n.length = kind.length + 6) && (decide (n.take kind.length = kind) && (n.drop kind.length).all isDig)
def listedB (ids : List Int) (n : Nm) : Bool := ids.any fun k => decide (segName bData k.toNat = n)
/-- what Clean keeps -/
def keepB (ids : List Int) (n : Nm) : Bool := decide (n = bManifest) || (listedB ids n || isNm bHint n)

/-- reads a file whole -/
def D.whole (d : D) (n : Nm) : List UInt8 × Er × D :=
  match d.size n with
  | (k, .ok, d1) => d1.readAt n 0 k
  | (_, e, d1) => ([], e, d1)
/-- the manifest, read -/
def D.readMan (d : D) : Option (Nat × List Int) × Er × D :=
  match d.whole bManifest with
  | (b, .ok, d1) => (match Go.Proofs.YtgpbhjjajpbeeaaGreatDoor.readMan b with | some r => (some r, .ok, d1) | none => (none, .num 6, d1))
  | (_, e, d1) => (none, if e.code = 11 then .num 5 else e, d1)
def D.removeAll (d : D) : List Nm → Er × D
  | [] => (.ok, d)
  | n :: l => match d.remove n with | (.ok, d1) => d1.removeAll l | (e, d1) => (e, d1)
def D.sweep (d : D) (ids : List Int) : Er × D :=
  match d.removeAll (d.list.filter fun n => !keepB ids n) with
  | (.ok, d1) => d1.syncDir
  | (e, d1) => (e, d1)
def D.clean (d : D) : Er × D :=
  match d.readMan with
  | (some r, _, d1) => d1.sweep r.2
  | (none, e, d1) => (e, d1)

theorem D.Calm.whole {d : D} (h : d.Calm) (n : Nm) : d.whole n = match d.file n with | none => ([], .file 11 n, d) | some b => (b, .ok, d) := by
  unfold D.whole
  rw [h.size]
  cases e : d.file n with
  | none => rfl
  | some b => simp only [h.readAt, e, part_all]
theorem D.Calm.readMan {d : D} (h : d.Calm) : d.readMan = match d.file bManifest with | none => (none, .num 5, d) | some b => (match Go.Proofs.YtgpbhjjajpbeeaaGreatDoor.readMan b with | some r => (some r, .ok, d) | none => (none, .num 6, d)) := by
  unfold D.readMan
  rw [h.whole]
  cases e : d.file bManifest with
  | none => rfl
  | some b => rfl
theorem D.Calm.removeAll {d : D} (h : d.Calm) (l : List Nm) (hn : l.Nodup) (hl : ∀ n ∈ l, n ∈ d.now.map (·.1)) :
    d.removeAll l = (.ok, { d with now := setMoves d.now (l.map fun n => (n, none)), moves := d.moves ++ l.map fun n => [(n, none)] }) := by
  induction l generalizing d with
  | nil => simp [D.removeAll, setMoves]
  | cons n l ih =>
    rw [List.nodup_cons] at hn
    have hm := hl n (by simp)
    unfold D.removeAll
    rw [h.remove hm]
    show (d.mv [(n, none)]).removeAll l = _
    rw [ih (h.mv _) hn.2 fun m hm' => ?_]
    · simp [D.mv, setMoves]
    · have h1 := hl m (by simp [hm'])
      have hne : m ≠ n := fun e => hn.1 (e ▸ hm')
      show m ∈ (setMoves d.now [(n, none)]).map (·.1)
      refine Classical.byContradiction fun hc => ?_
      have e : aLook (setMoves d.now [(n, none)]) m = none := aLook_none_iff.2 hc
      have e2 : aLook (aDel d.now n) m = none := e
      rw [aLook_del, if_neg hne, aLook_none_iff] at e2
      exact e2 h1
theorem look_drop (l : List (Nm × Nat)) (ns : List Nm) (n : Nm) : aLook (setMoves l (ns.map fun n => (n, none))) n = if n ∈ ns then none else aLook l n := by
  induction ns generalizing l with
  | nil => simp [setMoves]
  | cons m ns ih =>
    show aLook (setMoves (aDel l m) (ns.map fun n => (n, none))) n = _
    rw [ih, aLook_del]
    by_cases h1 : n ∈ ns
    · simp [h1]
    · by_cases h2 : n = m
      · simp [h2]
      · simp [h1, h2]
theorem fold_single (l : List (Nm × Nat)) (ns : List Nm) : (ns.map fun n => [(n, (none : Option Nat))]).foldl setMoves l = setMoves l (ns.map fun n => (n, none)) := by
  induction ns generalizing l with
  | nil => rfl
  | cons m ns ih =>
    show List.foldl setMoves (setMoves l [(m, none)]) _ = _
    rw [ih]; rfl

/-- all of it is safe -/
structure D.Safe (d : D) : Prop where
  calm : d.Calm
  moves : d.moves = []
  same : SameMap d.safe d.now
  nodup : (d.now.map (·.1)).Nodup
  nodup' : (d.safe.map (·.1)).Nodup
  nodes : ∀ p ∈ d.safe, (d.node p.2).safe = (d.node p.2).data.length
/-- a sweep of a disk of which all is safe -/
theorem D.Safe.sweep {d : D} (h : d.Safe) (ids : List Int) :
    ∃ e : D, d.sweep ids = (.ok, e) ∧ e.Safe ∧ (∀ n, e.file n = if keepB ids n = true then d.file n else none) ∧ e.ids = d.ids ∧ e.room = d.room ∧ e.node = d.node := by
  obtain ⟨l, hl⟩ : ∃ l, d.list.filter (fun n => !keepB ids n) = l := ⟨_, rfl⟩
  have hmem : ∀ n, n ∈ l ↔ n ∈ d.now.map (·.1) ∧ keepB ids n = false := by
    intro n; rw [← hl, List.mem_filter, list_mem]; simp
  have hnd : l.Nodup := hl ▸ (list_nodup h.nodup).filter _
  have hr := h.calm.removeAll l hnd fun n hn => ((hmem n).1 hn).1
  have hE : d.sweep ids = (.ok, { d with now := setMoves d.now (l.map fun n => (n, none)), safe := setMoves d.safe (l.map fun n => (n, none)), moves := [] }) := by
    unfold D.sweep
    rw [hl, hr]
    show D.syncDir _ = _
    rw [D.Calm.syncDir (d := { d with now := setMoves d.now (l.map fun n => (n, none)), moves := d.moves ++ l.map fun n => [(n, none)] }) h.calm]
    simp [h.moves, fold_single]
  refine ⟨_, hE, ⟨h.calm, rfl, look_setMoves _ h.same, setMoves_nodup _ h.nodup, setMoves_nodup _ h.nodup', ?_⟩, ?_, rfl, rfl, rfl⟩
  · intro p hp
    refine h.nodes p ?_
    rcases mem_setMoves hp with hp | ⟨x, hx, e⟩
    · exact hp
    · obtain ⟨n, _, rfl⟩ := List.mem_map.1 hx; cases e
  · intro n
    show (aLook (setMoves d.now (l.map fun n => (n, none))) n).map _ = _
    rw [look_drop]
    by_cases hk : keepB ids n = true
    · rw [if_neg (fun hn => by rw [((hmem n).1 hn).2] at hk; cases hk), if_pos hk]; rfl
    · rw [if_neg hk]
      by_cases hn : n ∈ l
      · rw [if_pos hn]; rfl
      · rw [if_neg hn]
        have : n ∉ d.now.map (·.1) := fun hc => hn ((hmem n).2 ⟨hc, by simpa using hk⟩)
        rw [aLook_none_iff.2 this]; rfl
/-- a crash takes nothing back -/
theorem D.Safe.crashed {d : D} (h : d.Safe) (dir tail : Nat) {vis : List (Nm × Nat)} (hv : vis.Perm (d.stepped dir)) : (d.crashed dir tail vis).Safe ∧ ∀ n, (d.crashed dir tail vis).file n = d.file n := by
  have hs : d.stepped dir = d.safe := by unfold D.stepped; rw [h.moves]; simp
  rw [hs] at hv
  have hn : (vis.map (·.1)).Nodup := ((hv.map _).nodup_iff).2 h.nodup'
  have hsm : SameMap vis d.safe := SameMap.perm hv hn
  have hcut : ∀ p ∈ d.safe, d.cutAt tail vis p.2 = d.node p.2 := by
    intro p hp
    unfold D.cutAt
    split
    · have := h.nodes p hp
      unfold Dk.cut
      rw [this, Nat.sub_self, Nat.zero_add, Nat.mod_one, Nat.add_zero, List.take_length]
      rw [← this]
    · rfl
  refine ⟨⟨⟨rfl, rfl⟩, rfl, ?_, hn, ?_, ?_⟩, ?_⟩
  · show SameMap (d.stepped dir) vis
    rw [hs]; exact fun x => (hsm x).symm
  · show ((d.stepped dir).map (·.1)).Nodup
    rw [hs]; exact h.nodup'
  · intro p hp
    have hp' : p ∈ d.safe := by rw [← hs]; exact hp
    show (d.cutAt tail vis p.2).safe = (d.cutAt tail vis p.2).data.length
    rw [hcut p hp']; exact h.nodes p hp'
  · intro n
    show (aLook vis n).map (fun x => (d.cutAt tail vis x).data) = (aLook d.now n).map fun x => (d.node x).data
    rw [hsm n, ← h.same n]
    cases e : aLook d.safe n with
    | none => rfl
    | some x =>
      have := hcut _ (aLook_mem e)
      simp only [Option.map_some]
      rw [this]

/-- the law's 'tidy' and 'cleaned' -/
def tidyB (now : Fl) (ids : List Int) : Bool := now.all fun p => decide (p.1 = bManifest) || (isNm bHint p.1 || listedB ids p.1)
def cleanedB (old now : Fl) (ids : List Int) : Bool :=
  (old.all fun p => !(decide (p.1 = bManifest) || listedB ids p.1) || decide (aLook now p.1 = some p.2)) && tidyB now ids
theorem cleaned_of {d e : D} {ids : List Int} (hn : (d.now.map (·.1)).Nodup) (h : ∀ n, e.file n = if keepB ids n = true then d.file n else none) : cleanedB d.files e.files ids = true := by
  unfold cleanedB tidyB
  rw [Bool.and_eq_true, List.all_eq_true, List.all_eq_true]
  constructor
  · intro p hp
    have hnd : (d.files.map (·.1)).Nodup := by rw [files_names]; exact list_nodup hn
    have e1 := aLook_of_mem hnd hp
    rw [files_look] at e1
    rw [files_look, h p.1]
    cases hk : decide (p.1 = bManifest) || listedB ids p.1 with
    | false => rfl
    | true =>
      have : keepB ids p.1 = true := by
        unfold keepB
        rw [Bool.or_eq_true] at hk ⊢
        rcases hk with hk | hk
        · exact .inl hk
        · exact .inr (by rw [hk]; rfl)
      rw [if_pos this, e1]; simp
  · intro p hp
    have h1 : p.1 ∈ e.list := by rw [← files_names]; exact List.mem_map_of_mem hp
    rw [list_mem] at h1
    have h2 : e.file p.1 ≠ none := by
      intro hc
      unfold D.file at hc
      rw [Option.map_eq_none_iff, aLook_none_iff] at hc
      exact hc h1
    rw [h p.1] at h2
    by_cases hk : keepB ids p.1 = true
    · unfold keepB at hk
      rw [Bool.or_comm (isNm _ _)]; exact hk
    · rw [if_neg hk] at h2; exact absurd rfl h2
end Dk
--END
end Go.Proofs.YtgpbhjjajpbeeaaGreatDoor
