/-
  A disk in memory: what its blocks hold. How the parts turn.
-/
import Derived.Test.YtgpbhjjajpbeeaaGreatDoorC08
import Derived.Test.YtgpbhjjajpbeeaaGreatDoorC09
import Derived.Test.YtgpbhjjajpbeeaaGreatDoorC11
import Derived.StringKeys
set_option linter.unusedSimpArgs false
set_option linter.unusedVariables false
set_option linter.unnecessarySimpa false
namespace Go.Proofs.YtgpbhjjajpbeeaaGreatDoor
open Go.RowKit Go.Lib Go.Maps Dk

def strV (l : Nm) : Value := .string ⟨l.toArray⟩
def nodeV (x : Nat) : Value := .pointer (some ⟨x, 0, none⟩)
theorem strV_inj (x y : Nm) (h : strV x = strV y) : x = y := by
  unfold strV at h
  injection h with h; injection h with h
  have := congrArg Array.toList h
  simpa using this
theorem strV_of (s : ByteArray) : Value.string s = strV s.data.toList := by unfold strV; simp
theorem keyedStr : Keyed Tryz.prog 9 := string_keyed Tryz.underlying9
theorem keyStr {l : Nm} (h : l.length ≤ maxLen) : keyOf Tryz.prog 9 (strV l) = some (.string l) := by
  have hs : (⟨l.toArray⟩ : ByteArray).size ≤ maxLen := by
    show l.toArray.size ≤ maxLen
    simpa using h
  simp [keyOf, mapKey, Tryz.underlying9, strV, hs]
def ptrV : Option Nat → Value
  | none => .pointer none
  | some x => nodeV x
def moveCells (m : Mv) : List Value := [strV m.1, ptrV m.2]
/-- a row of moves, built at one stroke -/
def MvRow (w : World) (g : Nat) (l : List Mv) : Prop := BoxAt w g 251 (l.flatMap moveCells).toArray
def mvV (g : Nat) (l : List Mv) : Value := .slice (some ⟨g, 0, none⟩) l.length l.length
abbrev NowAt (w : World) (r : Nat) (l : List (Nm × Nat)) : Prop := MapOf Tryz.prog 9 strV nodeV w r l

/-- the parts of a disk: its box, its two maps, its moves (rows gs), its files' data -/
structure DiskRep (w : World) (F : Nat → Prop) (a m1 m2 : Nat) (mv : Value) (gs : List Nat) (dv : Nat → Value) (d : D) : Prop where
  box : BoxAt w a 174 #[.map (some m1), .map (some m2), mv, .int .i64 d.room, .int .i64 d.wait, .int .i64 d.bad]
  now : NowAt w m1 d.now
  safe : NowAt w m2 d.safe
  ne : m1 ≠ m2
  rows : gs.length = d.moves.length ∧ ∀ (i : Nat) (g : Nat) (l : List Mv), gs[i]? = some g → d.moves[i]? = some l → MvRow w g l
  outer : w.ownsRow 0 187 1 mv d.moves.length ((gs.zip d.moves).map fun p => mvV p.1 p.2)
  file : ∀ x ∈ d.ids, BoxAt w x 176 #[dv x, .int .i64 (d.node x).safe] ∧ OwnB w 0 (dv x) (d.node x).data
  apart : ∀ x ∈ d.ids, ∀ y ∈ d.ids, x ≠ y → ∀ b, (dv x).ownBlock = some b → (dv y).ownBlock ≠ some b
  fa : F a
  fm : F m1 ∧ F m2
  fg : ∀ g ∈ gs, F g
  fo : ∀ b, mv.ownBlock = some b → F b
  fx : ∀ x ∈ d.ids, F x ∧ ∀ b, (dv x).ownBlock = some b → F b
  low : ∀ b, F b → b < w.heap.size
  wf : d.Wf
  num : d.wait ≤ 9223372036854775807 ∧ d.bad ≤ 9223372036854775807 ∧ -4611686018427387904 ≤ d.room ∧ d.room ≤ 4611686018427387904
def DiskAt (w : World) (F : Nat → Prop) (a : Nat) (d : D) : Prop := ∃ m1 m2 mv gs dv, DiskRep w F a m1 m2 mv gs dv d

section
variable {w w' : World} {F : Nat → Prop} {a m1 m2 : Nat} {mv : Value} {gs : List Nat} {dv : Nat → Value} {d : D}

/-- kept where its own blocks stand -/
theorem DiskRep.frame (h : DiskRep w F a m1 m2 mv gs dv d) (hk : ∀ b, F b → w'.heap[b]? = w.heap[b]?) (hs : w.heap.size ≤ w'.heap.size) : DiskRep w' F a m1 m2 mv gs dv d where
  box := (hk a h.fa).trans h.box
  now := h.now.block (hk _ h.fm.1)
  safe := h.safe.block (hk _ h.fm.2)
  ne := h.ne
  rows := ⟨h.rows.1, fun i g l hg hl => (hk g (h.fg g (List.mem_of_getElem? hg))).trans (h.rows.2 i g l hg hl)⟩
  outer := Dep.row h.outer w' fun b hb => hk b (h.fo b hb)
  file := fun x hx => ⟨(hk x (h.fx x hx).1).trans (h.file x hx).1, Dep.row (h.file x hx).2 w' fun b hb => hk b ((h.fx x hx).2 b hb)⟩
  apart := h.apart
  fa := h.fa
  fm := h.fm
  fg := h.fg
  fo := h.fo
  fx := h.fx
  low := fun b hb => Nat.lt_of_lt_of_le (h.low b hb) hs
  wf := h.wf
  num := h.num
theorem DiskRep.ext (h : DiskRep w F a m1 m2 mv gs dv d) (hE : Ext w w') : DiskRep w' F a m1 m2 mv gs dv d := h.frame (fun b hb => hE.block b (h.low b hb)) hE.size
theorem DiskAt.ext (h : DiskAt w F a d) (hE : Ext w w') : DiskAt w' F a d := by
  obtain ⟨m1, m2, mv, gs, dv, h⟩ := h
  exact ⟨m1, m2, mv, gs, dv, h.ext hE⟩
theorem DiskAt.frame (h : DiskAt w F a d) (hk : ∀ b, F b → w'.heap[b]? = w.heap[b]?) (hs : w.heap.size ≤ w'.heap.size) : DiskAt w' F a d := by
  obtain ⟨m1, m2, mv, gs, dv, h⟩ := h
  exact ⟨m1, m2, mv, gs, dv, h.frame hk hs⟩
theorem DiskAt.low (h : DiskAt w F a d) : ∀ b, F b → b < w.heap.size := by
  obtain ⟨m1, m2, mv, gs, dv, h⟩ := h; exact h.low
theorem DiskAt.wf (h : DiskAt w F a d) : d.Wf := by
  obtain ⟨m1, m2, mv, gs, dv, h⟩ := h; exact h.wf
/-- more blocks beside -/
theorem DiskRep.more (h : DiskRep w F a m1 m2 mv gs dv d) {G : Nat → Prop} (hF : ∀ b, F b → G b) (hG : ∀ b, G b → b < w.heap.size) : DiskRep w G a m1 m2 mv gs dv d :=
  { h with fa := hF _ h.fa, fm := ⟨hF _ h.fm.1, hF _ h.fm.2⟩, fg := fun g hg => hF _ (h.fg g hg), fo := fun b hb => hF _ (h.fo b hb), fx := fun x hx => ⟨hF _ (h.fx x hx).1, fun b hb => hF _ ((h.fx x hx).2 b hb)⟩, low := hG }

theorem DiskRep.map_ne (h : DiskRep w F a m1 m2 mv gs dv d) {n : Nat} {t : TypeId} {cs : Array Value} (hb : BoxAt w n t cs) : m1 ≠ n ∧ m2 ≠ n := by
  constructor
  · rintro rfl
    obtain ⟨es, c, h1, _⟩ := h.now
    unfold BoxAt at hb; rw [h1] at hb; cases hb
  · rintro rfl
    obtain ⟨es, c, h1, _⟩ := h.safe
    unfold BoxAt at hb; rw [h1] at hb; cases hb
theorem row_map_ne {e : TypeId} {size : Nat} {v : Value} {n : Nat} {xs : List Value} {α β : Type} {k : TypeId} {kf : α → Value} {vf : β → Value} {P : Program} {r : Nat} {l : List (α × β)} {B : Nat} (h : w.ownsRow B e size v n xs) (hm : MapOf P k kf vf w r l) : v.ownBlock ≠ some r := by
  intro hv
  obtain ⟨es, c, h1, _⟩ := hm
  rcases h.2 with ⟨rfl, _⟩ | ⟨g, cap, cur, rfl, hg, hh, _⟩
  · cases hv
  · simp [Value.ownBlock] at hv; subst hv; rw [h1] at hh; cases hh
theorem box_ne {n1 n2 : Nat} {t1 t2 : TypeId} {c1 c2 : Array Value} (h1 : BoxAt w n1 t1 c1) (h2 : BoxAt w n2 t2 c2) (ht : t1 ≠ t2) : n1 ≠ n2 := by
  rintro rfl
  unfold BoxAt at h1 h2; rw [h1] at h2; injection h2 with h2; injection h2 with _ h2 _; exact ht h2
theorem row_box_ne {e t : TypeId} {size : Nat} {v : Value} {n m : Nat} {xs : List Value} {B : Nat} {cs : Array Value} (h : w.ownsRow B e size v n xs) (hb : BoxAt w m t cs) (ht : t ≠ e) : v.ownBlock ≠ some m := ownsRow_ne h hb ht

/-- only the box has turned -/
theorem DiskRep.box' (h : DiskRep w F a m1 m2 mv gs dv d) (hO : Off a w w') {d' : D} (hb : BoxAt w' a 174 #[.map (some m1), .map (some m2), mv, .int .i64 d'.room, .int .i64 d'.wait, .int .i64 d'.bad])
    (e1 : d'.now = d.now) (e2 : d'.safe = d.safe) (e3 : d'.moves = d.moves) (e4 : d'.ids = d.ids) (e5 : d'.node = d.node) (hn : d'.wait ≤ 9223372036854775807 ∧ d'.bad ≤ 9223372036854775807 ∧ -4611686018427387904 ≤ d'.room ∧ d'.room ≤ 4611686018427387904) : DiskRep w' F a m1 m2 mv gs dv d' where
  box := hb
  now := by rw [e1]; exact h.now.off hO (h.map_ne h.box).1
  safe := by rw [e2]; exact h.safe.off hO (h.map_ne h.box).2
  ne := h.ne
  rows := by
    rw [e3]
    exact ⟨h.rows.1, fun i g l hg hl => (hO.block g (box_ne (h.rows.2 i g l hg hl) h.box (by decide))).trans (h.rows.2 i g l hg hl)⟩
  outer := by
    rw [e3]
    exact Dep.row h.outer w' fun b hb' => hO.block b (fun e => row_box_ne h.outer h.box (by decide) (e ▸ hb'))
  file := by
    rw [e4, e5]
    exact fun x hx => ⟨(hO.block x (box_ne (h.file x hx).1 h.box (by decide))).trans (h.file x hx).1, Dep.row (h.file x hx).2 w' fun b hb' => hO.block b (fun e => row_box_ne (h.file x hx).2 h.box (by decide) (e ▸ hb'))⟩
  apart := by rw [e4]; exact h.apart
  fa := h.fa
  fm := h.fm
  fg := h.fg
  fo := h.fo
  fx := by rw [e4]; exact h.fx
  low := fun b hb => by rw [hO.size]; exact h.low b hb
  wf := by
    obtain ⟨h1, h2, h3, h4, h5⟩ := h.wf
    exact ⟨by rw [e1, e4]; exact h1, by rw [e2, e4]; exact h2, by rw [e3, e4]; exact h3, by rw [e4, e5]; exact h4, by rw [e4]; exact h5⟩
  num := hn
end
end Go.Proofs.YtgpbhjjajpbeeaaGreatDoor
/-
  The walks of the disk's inner steps: NewDisk, fails, find.
-/
namespace Go.Proofs.YtgpbhjjajpbeeaaGreatDoor
open Go.RowKit Go.Lib Go.Maps Dk

def emptyD (room : Int) : D := ⟨[], [], [], room, 0, 0, [], fun _ => ⟨[], 0⟩⟩
theorem emptyD_wf (room : Int) : (emptyD room).Wf := ⟨by simp [emptyD], by simp [emptyD], by simp [emptyD], by simp [emptyD], by simp [emptyD]⟩

set_option maxHeartbeats 400000 in
theorem newDisk_any (room : Int) (w : World) (hr : -4611686018427387904 ≤ room ∧ room ≤ 4611686018427387904) :
    Calls Tryz.prog 46 #[.int .i64 room] w fun e w' => ∃ a F, e = .returned (nodeV a) ∧ DiskAt w' F a (emptyD room) ∧ Ext w w' ∧ (∀ b, F b → w.heap.size ≤ b) := by
  have hmm := @run_makeMap Tryz.prog
  go_enter Tryz.func46, Tryz.ntmps46
  go_wp2
  go_ret
  have h1 : NowAt (w.alloc (.map #[] 0)) w.heap.size [] := MapOf.made w
  have h2 : NowAt ((w.alloc (.map #[] 0)).alloc (.map #[] 0)) (w.heap.size + 1) [] := by
    have := MapOf.made (α := Nm) (β := Nat) (P := Tryz.prog) (k := 9) (kf := strV) (vf := nodeV) (w.alloc (.map #[] 0))
    simpa using this
  have hE : Ext w (((w.alloc (.map #[] 0)).alloc (.map #[] 0)).alloc (.cells #[.map (some w.heap.size), .map (some (w.heap.size + 1)), .slice none 0 0, .int .i64 room, .int .i64 0, .int .i64 0] 174)) := (((Ext.refl w).new _).new _).new _
  refine ⟨w.heap.size + 2, fun b => w.heap.size ≤ b ∧ b < w.heap.size + 3, rfl, ⟨w.heap.size, w.heap.size + 1, .slice none 0 0, [], fun _ => .slice none 0 0, ?_⟩, hE, fun b hb => hb.1⟩
  exact {
    box := BoxAt.new _ _ (by simp)
    now := (h1.ext ((Ext.refl _).new _)).ext ((Ext.refl _).new _)
    safe := h2.ext ((Ext.refl _).new _)
    ne := by omega
    rows := ⟨rfl, by simp⟩
    outer := ⟨rfl, Or.inl ⟨rfl, rfl⟩⟩
    file := by simp [emptyD]
    apart := by simp [emptyD]
    fa := by omega
    fm := ⟨by omega, by omega⟩
    fg := by simp
    fo := by simp [Value.ownBlock]
    fx := by simp [emptyD]
    low := fun b hb => by simp; omega
    wf := emptyD_wf room
    num := ⟨by simp [emptyD], by simp [emptyD], hr.1, hr.2⟩ }

/-- what fails answers and leaves -/
def FailsIs (F : Nat → Prop) (a : Nat) (d : D) (w : World) (e : Ending) (w' : World) : Prop := e = .returned (.bool d.fails.1) ∧ DiskAt w' F a d.fails.2 ∧ Off a w w'

set_option maxHeartbeats 400000 in
theorem fails_any (F : Nat → Prop) (a : Nat) (d : D) (w : World) (h : DiskAt w F a d) : Calls Tryz.prog 93 #[nodeV a] w (FailsIs F a d w) := by
  obtain ⟨m1, m2, mv, gs, dv, h⟩ := h
  have hb := h.box
  have c4 := hb.cell 4
  have c5 := hb.cell 5
  have f4 := hb.free 4
  have f5 := hb.free 5
  have hn := h.num
  have H := Lib.hid h; clear h
  have HB := Lib.hid hb; clear hb
  unfold nodeV
  by_cases hw : 0 < d.wait
  · have hs : IntKind.i64.wrap ((d.wait : Int) - 1) = ((d.wait - 1 : Nat) : Int) := by rw [IntWalk.i64_in _ (by omega)]; omega
    go_enter Tryz.func93, Tryz.ntmps93
    go_wp2
    go_ret
    unfold FailsIs D.fails
    rw [if_pos hw]
    refine ⟨rfl, ⟨m1, m2, mv, gs, dv, ?_⟩, (Off.refl a w).setCell 4 _⟩
    exact H.out.box' ((Off.refl a w).setCell 4 _) (by first | exact HB.out.set 4 _ | (have := HB.out.set 4 (.int .i64 ((d.wait - 1 : Nat) : Int)); simpa using this)) rfl rfl rfl rfl rfl (by dsimp only; omega)
  · by_cases hb : 0 < d.bad
    · have hs : IntKind.i64.wrap ((d.bad : Int) - 1) = ((d.bad - 1 : Nat) : Int) := by rw [IntWalk.i64_in _ (by omega)]; omega
      go_enter Tryz.func93, Tryz.ntmps93
      go_wp2
      go_ret
      unfold FailsIs D.fails
      rw [if_neg hw, if_pos hb]
      refine ⟨rfl, ⟨m1, m2, mv, gs, dv, ?_⟩, (Off.refl a w).setCell 5 _⟩
      exact H.out.box' ((Off.refl a w).setCell 5 _) (by first | exact HB.out.set 5 _ | (have := HB.out.set 5 (.int .i64 ((d.bad - 1 : Nat) : Int)); simpa using this)) rfl rfl rfl rfl rfl (by dsimp only; omega)
    · go_enter Tryz.func93, Tryz.ntmps93
      go_wp2
      go_ret
      unfold FailsIs D.fails
      rw [if_neg hw, if_neg hb]
      exact ⟨rfl, ⟨m1, m2, mv, gs, dv, H.out⟩, Off.refl a w⟩

/-- an error in memory -/
def ErrAt (w : World) (v : Value) : Er → Prop
  | .ok => v = .nilIface
  | .num n => v = errV n
  | .file n name => ∃ b, v = .iface 132 (.pointer (some ⟨b, 0, none⟩)) ∧ BoxAt w b 134 #[strV name, .int .i64 n]
theorem held_err {w : World} {F : Nat → Prop} {n : Int} {name : Nm} (hF : ∀ b, F b → b < w.heap.size) :
    Held (w.alloc (.cells #[strV name, .int .i64 n] 134)) F (fun W => ErrAt W (.iface 132 (.pointer (some ⟨w.heap.size, 0, none⟩))) (.file n name)) := by
  have hb : BoxAt (w.alloc (.cells #[strV name, .int .i64 n] 134)) w.heap.size 134 #[strV name, .int .i64 n] := BoxAt.new _ _ rfl
  exact (Held.box hb (fun h => by have := hF _ h; omega)).mono fun W hW => ⟨_, rfl, hW⟩
theorem held_ok (w : World) (F : Nat → Prop) : Held w F (fun W => ErrAt W .nilIface .ok) := (Held.true w F).mono fun _ _ => rfl
theorem held_num (w : World) (F : Nat → Prop) (n : Int) : Held w F (fun W => ErrAt W (errV n) (.num n)) := (Held.true w F).mono fun _ _ => rfl

/-- what find answers and leaves -/
def FindIs (F : Nat → Prop) (a : Nat) (d : D) (name : Nm) (w : World) (e : Ending) (w' : World) : Prop :=
  ∃ v, e = .returned (.tuple #[ptrV (d.find name).1, v]) ∧ Held w' F (fun W => ErrAt W v (d.find name).2.1) ∧ DiskAt w' F a (d.find name).2.2 ∧ Chg F F w w'
theorem zeroNode (w : World) : (zeroValue 170).run Tryz.prog w = .ok (.pointer none) w := by kernel_rfl

set_option maxHeartbeats 400000 in
theorem find_any (F : Nat → Prop) (a : Nat) (d : D) (name : Nm) (w : World) (h : DiskAt w F a d) (hn : name.length ≤ maxLen) : Calls Tryz.prog 124 #[nodeV a, strV name] w (FindIs F a d name w) := by
  have hfail := fails_any F a d w h
  have h0 := h
  obtain ⟨m1, m2, mv, gs, dv, h⟩ := h
  have c0 := h.box.cell 0
  have hlk := h.now.look keyedStr strV_inj Tryz.underlying171 (zeroNode w) (keyStr hn)
  have hfa := h.fa
  have h0low := h.low
  clear h
  have HF := Lib.hid hfail; have H0 := Lib.hid h0; clear hfail h0
  have hlow := h0low
  unfold strV nodeV at *
  cases hl : aLook d.now name with
  | none =>
    rw [hl] at hlk
    simp only [Option.map_none, Option.getD_none] at hlk
    go_enter Tryz.func124, Tryz.ntmps124
    go_wp2_with fail
    refine HF.out.mono ?_
    rintro e w1 ⟨rfl, hD, hO⟩
    have hl1 : ∀ b, F b → b < w1.heap.size := hD.low
    have HD := Lib.hid hD; have HO := Lib.hid hO; clear hD hO hlk
    cases hf : d.fails.1 with
    | true =>
      go_wp2
      go_ret2
      unfold FindIs D.find
      rw [if_pos hf]
      exact ⟨_, rfl, held_err hl1, HD.out.ext ((Ext.refl w1).new _), (Chg.off HO.out hfa).trans (Chg.ext ((Ext.refl w1).new _))⟩
    | false =>
      go_wp2
      go_ret2
      unfold FindIs D.find
      rw [if_neg (by rw [hf]; decide), hl]
      exact ⟨_, rfl, held_err hl1, HD.out.ext ((Ext.refl w1).new _), (Chg.off HO.out hfa).trans (Chg.ext ((Ext.refl w1).new _))⟩
  | some x =>
    rw [hl] at hlk
    simp only [Option.map_some, Option.getD_some] at hlk
    go_enter Tryz.func124, Tryz.ntmps124
    go_wp2_with fail
    refine HF.out.mono ?_
    rintro e w1 ⟨rfl, hD, hO⟩
    have hl1 : ∀ b, F b → b < w1.heap.size := hD.low
    have HD := Lib.hid hD; have HO := Lib.hid hO; clear hD hO hlk
    cases hf : d.fails.1 with
    | true =>
      go_wp2
      go_ret2
      unfold FindIs D.find
      rw [if_pos hf]
      exact ⟨_, rfl, held_err hl1, HD.out.ext ((Ext.refl w1).new _), (Chg.off HO.out hfa).trans (Chg.ext ((Ext.refl w1).new _))⟩
    | false =>
      go_wp2
      go_ret2
      unfold FindIs D.find
      rw [if_neg (by rw [hf]; decide), hl]
      exact ⟨_, rfl, held_ok _ _, HD.out, Chg.off HO.out hfa⟩
end Go.Proofs.YtgpbhjjajpbeeaaGreatDoor
/-
  The walks of set and name: moves done upon a map of names.
-/
namespace Go.Proofs.YtgpbhjjajpbeeaaGreatDoor
open Go.RowKit Go.Lib Go.Maps Dk

theorem flat2 {γ : Type} (f : γ → List Value) (hf : ∀ x, (f x).length = 2) : ∀ (l : List γ) (i : Nat) (x : γ), l[i]? = some x → ∀ j, j < 2 → (l.flatMap f)[2 * i + j]? = (f x)[j]? := by
  intro l
  induction l with
  | nil => intro i x h; simp at h
  | cons y l ih =>
    intro i x h j hj
    rw [List.flatMap_cons]
    cases i with
    | zero =>
      simp at h; subst h
      rw [List.getElem?_append_left (by rw [hf]; omega)]; simp
    | succ i =>
      simp at h
      rw [List.getElem?_append_right (by rw [hf]; omega), hf, show 2 * (i + 1) + j - 2 = 2 * i + j by omega]
      exact ih i x h j hj
theorem MvRow.cells {w : World} {g : Nat} {l : List Mv} (h : MvRow w g l) {i : Nat} {m : Mv} (hi : l[i]? = some m) : w.cell? ⟨g, i * 2, none⟩ = some (strV m.1) ∧ w.cell? ⟨g, i * 2 + 1, none⟩ = some (ptrV m.2) := by
  have e0 := flat2 moveCells (fun _ => rfl) l i m hi 0 (by omega)
  have e1 := flat2 moveCells (fun _ => rfl) l i m hi 1 (by omega)
  unfold MvRow at h
  refine ⟨?_, ?_⟩
  · rw [h.cell, List.getElem?_toArray, show i * 2 = 2 * i + 0 by omega, e0]; rfl
  · rw [h.cell, List.getElem?_toArray, show i * 2 + 1 = 2 * i + 1 by omega, e1]; rfl

/-- what set answers and leaves -/
def SetIs (r : Nat) (l : List (Nm × Nat)) (ms : List Mv) (w : World) (e : Ending) (w' : World) : Prop :=
  e = .returned (.tuple #[]) ∧ NowAt w' r (setMoves l ms) ∧ Chg (fun b => b = r) (fun b => b = r) w w'

set_option maxRecDepth 100000 in
set_option maxHeartbeats 800000 in
theorem set_any (r g : Nat) (l : List (Nm × Nat)) (ms : List Mv) (w : World) (h : NowAt w r l) (hg : MvRow w g ms) (hms : ∀ m ∈ ms, m.1.length ≤ maxLen) (hlen : ms.length ≤ 1000000) :
    Calls Tryz.prog 80 #[.map (some r), mvV g ms] w (SetIs r l ms w) := by
  have H := Lib.hid h; have HG := Lib.hid hg; have HM := Lib.hid hms; clear h hg hms
  have hgr : r ≠ g := by
    rintro rfl
    obtain ⟨es, c, h1, _⟩ := H.out
    have := HG.out
    unfold MvRow BoxAt at this; rw [h1] at this; cases this
  unfold mvV
  go_enter Tryz.func80, Tryz.ntmps80
  go_wp2
  go_loopw [8] (fun i wr => ∃ k : Nat, k ≤ ms.length ∧ i = .int .i64 k ∧ NowAt wr r (setMoves l (ms.take k)) ∧ Chg (fun b => b = r) (fun b => b = r) w wr) (fun i _ => ms.length - (intOf i).toNat)
  case atStart => exact ⟨0, Nat.zero_le _, rfl, H.out, Chg.refl _ w⟩
  case round =>
    obtain ⟨k, hk, rfl, hN, hC⟩ := hrel
    by_cases hlt : k < ms.length
    · have hgk : wr.heap[g]? = w.heap[g]? := hC.block g (lt_of_block HG.out) (Ne.symm hgr)
      have hGr : MvRow wr g ms := hgk.trans HG.out
      obtain ⟨m, hm⟩ : ∃ m, ms[k]? = some m := ⟨_, List.getElem?_eq_getElem hlt⟩
      obtain ⟨x0, x1⟩ := hGr.cells hm
      have hml := HM.out m (List.mem_of_getElem? hm)
      have htk : ms.take (k + 1) = ms.take k ++ [m] := by rw [List.take_add_one, hm]; rfl
      have HT := Lib.hid htk; have HN := Lib.hid hN; have HC := Lib.hid hC
      clear hgk hGr htk hN hC
      obtain ⟨nm, fo⟩ := m
      cases fo with
      | none =>
        simp only [ptrV] at x1
        have hN1 : NowAt (wr.alloc (.cells #[strV nm, .pointer none] 251)) r (setMoves l (ms.take k)) := HN.out.ext ((Ext.refl wr).new _)
        obtain ⟨w2, hrun, hN2, hO2⟩ := hN1.drop keyedStr strV_inj Tryz.underlying171 (keyStr hml) 0
        have HN2 := Lib.hid hN2; have HO2 := Lib.hid hO2; clear hN1 hN2 hO2
        unfold strV at x0 hrun HO2
        go_wp2
        go_roundw
        case rel =>
          refine ⟨k + 1, by omega, by go_num, ?_, ?_⟩
          · rw [HT.out, setMoves_snoc]; exact HN2.out
          · exact (HC.out.trans (Chg.ext ((Ext.refl wr).new _))).trans (Chg.off HO2.out rfl)
        case measure => simp [intOf]; omega
      | some f =>
        simp only [ptrV] at x1
        have hN1 : NowAt (wr.alloc (.cells #[strV nm, nodeV f] 251)) r (setMoves l (ms.take k)) := HN.out.ext ((Ext.refl wr).new _)
        obtain ⟨w2, hrun, hN2, hO2⟩ := hN1.store keyedStr strV_inj Tryz.underlying171 (keyStr hml) f
        have HN2 := Lib.hid hN2; have HO2 := Lib.hid hO2; clear hN1 hN2 hO2
        unfold nodeV at x1
        unfold strV at x0
        unfold strV nodeV at hrun HO2
        go_wp2
        go_roundw
        case rel =>
          refine ⟨k + 1, by omega, by go_num, ?_, ?_⟩
          · rw [HT.out, setMoves_snoc]; exact HN2.out
          · exact (HC.out.trans (Chg.ext ((Ext.refl wr).new _))).trans (Chg.off HO2.out rfl)
        case measure => simp [intOf]; omega
    · obtain rfl : k = ms.length := by omega
      rw [List.take_length] at hN
      go_wp2
      go_end0
      exact ⟨rfl, hN, hC⟩
end Go.Proofs.YtgpbhjjajpbeeaaGreatDoor
