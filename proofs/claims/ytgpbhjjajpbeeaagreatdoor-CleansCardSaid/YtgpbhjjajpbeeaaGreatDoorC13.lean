/-
  How a disk's parts turn (its names, its moves, a new file, a file's box and data), and the walk of name.
-/
import Derived.Test.YtgpbhjjajpbeeaaGreatDoorC12
set_option linter.unusedSimpArgs false
set_option linter.unusedVariables false
set_option linter.unnecessarySimpa false
namespace Go.Proofs.YtgpbhjjajpbeeaaGreatDoor
open Go.RowKit Go.Lib Go.Maps Dk

theorem rows_ne {w : World} {e1 e2 : TypeId} {s1 s2 n1 n2 B1 B2 : Nat} {v1 v2 : Value} {x1 x2 : List Value} (h1 : w.ownsRow B1 e1 s1 v1 n1 x1) (h2 : w.ownsRow B2 e2 s2 v2 n2 x2) (he : e1 ≠ e2) {b : Nat} (hb : v1.ownBlock = some b) : v2.ownBlock ≠ some b := by
  intro hb2
  rcases h1.2 with ⟨rfl, _⟩ | ⟨g, cap, cur, rfl, _, hh, _⟩
  · cases hb
  · simp [Value.ownBlock] at hb; subst hb
    rcases h2.2 with ⟨rfl, _⟩ | ⟨g', cap', cur', rfl, _, hh', _⟩
    · cases hb2
    · simp [Value.ownBlock] at hb2; subst hb2
      rw [hh] at hh'; injection hh' with hh'; injection hh' with _ hh' _; exact he hh'

section
variable {w w' : World} {F : Nat → Prop} {a m1 m2 : Nat} {mv : Value} {gs : List Nat} {dv : Nat → Value} {d : D}

/-- the names as they are now have turned -/
theorem DiskRep.now' (h : DiskRep w F a m1 m2 mv gs dv d) (hk : ∀ b, b < w.heap.size → b ≠ m1 → w'.heap[b]? = w.heap[b]?) (hs : w.heap.size ≤ w'.heap.size) {l : List (Nm × Nat)} (hN : NowAt w' m1 l) (hl : ∀ p ∈ l, p.2 ∈ d.ids) :
    DiskRep w' F a m1 m2 mv gs dv { d with now := l } where
  box := (hk a (h.low a h.fa) (Ne.symm (h.map_ne h.box).1)).trans h.box
  now := hN
  safe := h.safe.block (hk _ (h.low _ h.fm.2) (Ne.symm h.ne))
  ne := h.ne
  rows := ⟨h.rows.1, fun i g l hg hl => (hk g (h.low g (h.fg g (List.mem_of_getElem? hg))) (Ne.symm (h.map_ne (h.rows.2 i g l hg hl)).1)).trans (h.rows.2 i g l hg hl)⟩
  outer := Dep.row h.outer w' fun b hb => hk b (h.low b (h.fo b hb)) (fun e => row_map_ne h.outer h.now (e ▸ hb))
  file := fun x hx => ⟨(hk x (h.low x (h.fx x hx).1) (Ne.symm (h.map_ne (h.file x hx).1).1)).trans (h.file x hx).1, Dep.row (h.file x hx).2 w' fun b hb => hk b (h.low b ((h.fx x hx).2 b hb)) (fun e => row_map_ne (h.file x hx).2 h.now (e ▸ hb))⟩
  apart := h.apart
  fa := h.fa
  fm := h.fm
  fg := h.fg
  fo := h.fo
  fx := h.fx
  low := fun b hb => Nat.lt_of_lt_of_le (h.low b hb) hs
  wf := ⟨hl, h.wf.safe, h.wf.moves, h.wf.part, h.wf.ids⟩
  num := h.num
/-- the names that are safe have turned -/
theorem DiskRep.safe' (h : DiskRep w F a m1 m2 mv gs dv d) (hk : ∀ b, b < w.heap.size → b ≠ m2 → w'.heap[b]? = w.heap[b]?) (hs : w.heap.size ≤ w'.heap.size) {l : List (Nm × Nat)} (hN : NowAt w' m2 l) (hl : ∀ p ∈ l, p.2 ∈ d.ids) :
    DiskRep w' F a m1 m2 mv gs dv { d with safe := l } where
  box := (hk a (h.low a h.fa) (Ne.symm (h.map_ne h.box).2)).trans h.box
  now := h.now.block (hk _ (h.low _ h.fm.1) h.ne)
  safe := hN
  ne := h.ne
  rows := ⟨h.rows.1, fun i g l hg hl => (hk g (h.low g (h.fg g (List.mem_of_getElem? hg))) (Ne.symm (h.map_ne (h.rows.2 i g l hg hl)).2)).trans (h.rows.2 i g l hg hl)⟩
  outer := Dep.row h.outer w' fun b hb => hk b (h.low b (h.fo b hb)) (fun e => row_map_ne h.outer h.safe (e ▸ hb))
  file := fun x hx => ⟨(hk x (h.low x (h.fx x hx).1) (Ne.symm (h.map_ne (h.file x hx).1).2)).trans (h.file x hx).1, Dep.row (h.file x hx).2 w' fun b hb => hk b (h.low b ((h.fx x hx).2 b hb)) (fun e => row_map_ne (h.file x hx).2 h.safe (e ▸ hb))⟩
  apart := h.apart
  fa := h.fa
  fm := h.fm
  fg := h.fg
  fo := h.fo
  fx := h.fx
  low := fun b hb => Nat.lt_of_lt_of_le (h.low b hb) hs
  wf := ⟨h.wf.now, hl, h.wf.moves, h.wf.part, h.wf.ids⟩
  num := h.num
/-- a file more -/
theorem DiskRep.addNode (h : DiskRep w F a m1 m2 mv gs dv d) {x : Nat} (hx : BoxAt w x 176 #[.slice none 0 0, .int .i64 0]) (hF : F x) (hn : x ∉ d.ids) :
    DiskRep w F a m1 m2 mv gs (fun i => if i = x then .slice none 0 0 else dv i) { d with ids := d.ids ++ [x], node := upd d.node x ⟨[], 0⟩ } := by
  have hne : ∀ y ∈ d.ids, y ≠ x := fun y hy e => hn (e ▸ hy)
  exact {
    box := h.box
    now := h.now
    safe := h.safe
    ne := h.ne
    rows := h.rows
    outer := h.outer
    file := by
      intro y hy
      rcases List.mem_append.1 hy with hy | hy
      · have e := hne y hy
        simp only [upd, if_neg e]; exact h.file y hy
      · simp at hy; subst hy
        simp only [upd, if_true]
        exact ⟨hx, ⟨rfl, Or.inl ⟨rfl, rfl⟩⟩⟩
    apart := by
      intro y hy z hz hyz b hb
      rcases List.mem_append.1 hy with hy | hy
      · have e := hne y hy
        simp only [if_neg e] at hb
        rcases List.mem_append.1 hz with hz | hz
        · have e' := hne z hz
          simp only [if_neg e']; exact h.apart y hy z hz hyz b hb
        · simp at hz; subst hz; simp [Value.ownBlock]
      · simp at hy; subst hy; simp [Value.ownBlock] at hb
    fa := h.fa
    fm := h.fm
    fg := h.fg
    fo := h.fo
    fx := by
      intro y hy
      rcases List.mem_append.1 hy with hy | hy
      · have e := hne y hy
        simp only [if_neg e]; exact h.fx y hy
      · simp at hy; subst hy; exact ⟨hF, by simp [Value.ownBlock]⟩
    low := h.low
    wf := by
      refine ⟨fun p hp => List.mem_append.2 (.inl (h.wf.now p hp)), fun p hp => List.mem_append.2 (.inl (h.wf.safe p hp)), fun l hl m hm f hf => List.mem_append.2 (.inl (h.wf.moves l hl m hm f hf)), ?_, ?_⟩
      · intro y hy
        rcases List.mem_append.1 hy with hy | hy
        · have e := hne y hy
          simp only [upd, if_neg e]; exact h.wf.part y hy
        · simp at hy; subst hy; simp [upd]
      · show (d.ids ++ [x]).Nodup
        rw [List.nodup_append]
        exact ⟨h.wf.ids, by simp, fun p hp q hq => by simp at hq; subst hq; exact hne p hp⟩
    num := h.num }
/-- the moves' row has grown by one, and the box holds it -/
theorem DiskRep.moves' (h : DiskRep w F a m1 m2 mv gs dv d) {g : Nat} {ms : List Mv} {w1 : World} {mv' : Value} {u : List Value} {n : Nat} (hE : Ext w w1) (hg : MvRow w g ms) (hgrow : w1.grownBy w' mv.ownBlock) (hown : w'.ownsRow 0 187 1 mv' n u)
    (hn : n = d.moves.length + 1) (hu : u = ((gs.zip d.moves).map fun p => mvV p.1 p.2) ++ [mvV g ms]) (hfg : F g) {G : Nat → Prop} (hG : ∀ b, G b ↔ F b ∨ (w.heap.size ≤ b ∧ b < w'.heap.size)) (hm : ∀ m ∈ ms, ∀ f, m.2 = some f → f ∈ d.ids)
    (hat : ∀ b, mv'.ownBlock = some b → mv.ownBlock = some b ∨ w.heap.size ≤ b) :
    DiskRep (w'.setCell ⟨a, 2, none⟩ mv') G a m1 m2 mv' (gs ++ [g]) dv { d with moves := d.moves ++ [ms] } := by
  have hlow := h.low
  have hk1 : ∀ b, b < w.heap.size → mv.ownBlock ≠ some b → w'.heap[b]? = w.heap[b]? := fun b hb hne => (hgrow.block b (Nat.lt_of_lt_of_le hb hE.size) (fun e => hne e.symm)).trans (hE.block b hb)
  have hk : ∀ b, b < w.heap.size → mv.ownBlock ≠ some b → b ≠ a → (w'.setCell ⟨a, 2, none⟩ mv').heap[b]? = w.heap[b]? := fun b hb hne ha => (Below.heap_setCell _ _ _ _ ha).trans (hk1 b hb hne)
  have hba := row_box_ne h.outer h.box (by decide)
  have hbox1 : BoxAt w' a 174 #[.map (some m1), .map (some m2), mv, .int .i64 d.room, .int .i64 d.wait, .int .i64 d.bad] := (hk1 a (hlow a h.fa) hba).trans h.box
  have hsz : w.heap.size ≤ w'.heap.size := Nat.le_trans hE.size hgrow.size
  have hmvF : ∀ b, mv.ownBlock = some b → b < w.heap.size := fun b hb => hlow b (h.fo b hb)
  have hlen := h.rows.1
  exact {
    box := hbox1.set 2 mv'
    now := h.now.block (hk _ (hlow _ h.fm.1) (row_map_ne h.outer h.now) (h.map_ne h.box).1)
    safe := h.safe.block (hk _ (hlow _ h.fm.2) (row_map_ne h.outer h.safe) (h.map_ne h.box).2)
    ne := h.ne
    rows := by
      refine ⟨by simp [hlen], fun i g' l hg' hl => ?_⟩
      have key : ∀ q k, F q → MvRow w q k → MvRow (w'.setCell ⟨a, 2, none⟩ mv') q k := fun q k hq hqk =>
        (hk q (hlow q hq) (row_box_ne h.outer hqk (by decide)) (box_ne hqk h.box (by decide))).trans hqk
      by_cases hi : i < gs.length
      · rw [List.getElem?_append_left hi] at hg'
        rw [List.getElem?_append_left (by omega)] at hl
        exact key g' l (h.fg g' (List.mem_of_getElem? hg')) (h.rows.2 i g' l hg' hl)
      · rw [List.getElem?_append_right (by omega)] at hg'
        rw [List.getElem?_append_right (by omega)] at hl
        have e0 : i - gs.length = 0 := by
          rcases Nat.eq_zero_or_pos (i - gs.length) with e | e
          · exact e
          · rw [List.getElem?_eq_none (by simp; omega)] at hg'; cases hg'
        rw [e0] at hg'; rw [← hlen, e0] at hl
        simp at hg' hl; subst hg'; subst hl
        exact key g ms hfg hg
    outer := by
      have e1 : (d.moves ++ [ms]).length = n := by simp [hn]
      have e2 : (((gs ++ [g]).zip (d.moves ++ [ms])).map fun p => mvV p.1 p.2) = u := by
        rw [List.zip_append hlen]; simp [hu]
      show (w'.setCell ⟨a, 2, none⟩ mv').ownsRow 0 187 1 mv' (d.moves ++ [ms]).length _
      rw [e1, e2]
      exact ownsRow_setCell_other (a := ⟨a, 2, none⟩) hown (row_box_ne hown hbox1 (by decide)) _
    file := fun x hx => ⟨(hk x (hlow x (h.fx x hx).1) (row_box_ne h.outer (h.file x hx).1 (by decide)) (box_ne (h.file x hx).1 h.box (by decide))).trans (h.file x hx).1,
      Dep.row (h.file x hx).2 _ fun b hb => hk b (hlow b ((h.fx x hx).2 b hb)) (rows_ne (h.file x hx).2 h.outer (by decide) hb) (fun e => row_box_ne (h.file x hx).2 h.box (by decide) (e ▸ hb))⟩
    apart := h.apart
    fa := (hG a).2 (.inl h.fa)
    fm := ⟨(hG _).2 (.inl h.fm.1), (hG _).2 (.inl h.fm.2)⟩
    fg := by
      intro q hq
      rcases List.mem_append.1 hq with hq | hq
      · exact (hG q).2 (.inl (h.fg q hq))
      · simp at hq; subst hq; exact (hG _).2 (.inl hfg)
    fo := by
      intro b hb
      rcases hat b hb with h1 | h1
      · exact (hG b).2 (.inl (h.fo b h1))
      · exact (hG b).2 (.inr ⟨h1, row_lt hown hb⟩)
    fx := fun x hx => ⟨(hG x).2 (.inl (h.fx x hx).1), fun b hb => (hG b).2 (.inl ((h.fx x hx).2 b hb))⟩
    low := by
      intro b hb
      have : (w'.setCell ⟨a, 2, none⟩ mv').heap.size = w'.heap.size := by simp [World.setCell]
      rw [this]
      rcases (hG b).1 hb with h1 | h1
      · have := hlow b h1; omega
      · exact h1.2
    wf := ⟨h.wf.now, h.wf.safe, fun k hk' x hx f hf => by
      rcases List.mem_append.1 hk' with hk' | hk'
      · exact h.wf.moves k hk' x hx f hf
      · simp at hk'; subst hk'; exact hm x hx f hf, h.wf.part, h.wf.ids⟩
    num := h.num }
end
end Go.Proofs.YtgpbhjjajpbeeaaGreatDoor
/-
  The walk of name: moves done, and noted.
-/
namespace Go.Proofs.YtgpbhjjajpbeeaaGreatDoor
open Go.RowKit Go.Lib Go.Maps Dk

theorem info_mvs : (Tryz.prog.info? 187).map (fun i => (i.zero, i.size, i.bytes)) = some (some (.slice none 0 0), 1, 24) := by kernel_rfl
theorem MvRow.ext' {w w' : World} {g : Nat} {l : List Mv} (h : MvRow w g l) (hE : Ext w w') : MvRow w' g l := (hE.block g (lt_of_block h)).trans h
/-- what name leaves -/
def NameIs (F : Nat → Prop) (a : Nat) (d : D) (ms : List Mv) (w : World) (e : Ending) (w' : World) : Prop :=
  e = .returned (.tuple #[]) ∧ ∃ F', DiskAt w' F' a (d.mv ms) ∧ Chg F F' w w' ∧ ∀ b, F b → F' b

set_option maxRecDepth 100000 in
set_option maxHeartbeats 800000 in
theorem name_any (F : Nat → Prop) (a g : Nat) (d : D) (ms : List Mv) (w : World) (h : DiskAt w F a d) (hg : MvRow w g ms) (hF : F g) (hms : ∀ m ∈ ms, m.1.length ≤ maxLen) (hlen : ms.length ≤ 1000000) (hml : d.moves.length ≤ 1000000)
    (hid : ∀ m ∈ ms, ∀ f, m.2 = some f → f ∈ d.ids) : Calls Tryz.prog 148 #[nodeV a, mvV g ms] w (NameIs F a d ms w) := by
  obtain ⟨m1, m2, mv, gs, dv, h⟩ := h
  obtain ⟨i0, hi, hz0, hz1, hz2⟩ := info_parts info_mvs
  obtain ⟨mva, mvc, rfl⟩ := ownsRow_form h.outer
  have c0 := h.box.cell 0
  have hset := set_any m1 g d.now ms w h.now hg hms hlen
  have HS := Lib.hid hset; have H := Lib.hid h; have HG := Lib.hid hg; have HI := Lib.hid hid
  clear hset h hg hms hid
  show Calls Tryz.prog 148 #[.pointer (some ⟨a, 0, none⟩), .slice (some ⟨g, 0, none⟩) ms.length ms.length] w (NameIs F a d ms w)
  go_enter Tryz.func148, Tryz.ntmps148
  go_wp2_with fail
  refine HS.out.mono ?_
  rintro e w1 ⟨rfl, hN, hC⟩
  have hl' : ∀ p ∈ setMoves d.now ms, p.2 ∈ d.ids := by
    intro p hp
    rcases mem_setMoves hp with hp | ⟨x, hx, e⟩
    · exact H.out.wf.now p hp
    · exact HI.out x hx _ e
  have hR : DiskRep w1 F a m1 m2 _ gs dv { d with now := setMoves d.now ms } := H.out.now' (fun b hb hne => hC.block b hb hne) hC.size hN hl'
  have hG1 : MvRow w1 g ms := (hC.block g (lt_of_block HG.out) (Ne.symm (H.out.map_ne HG.out).1)).trans HG.out
  have c2 := hR.box.cell 2
  have f2 := hR.box.free 2
  have hown := hR.outer
  have hbx := hR.box
  have hba := row_box_ne hown hbx (by decide)
  have halt := lt_of_block hbx
  have HBX := Lib.hid hbx; have HBA := Lib.hid hba; clear hbx hba
  have HR := Lib.hid hR; have HG1 := Lib.hid hG1; have HC := Lib.hid hC
  clear hR hG1 hC hN hl' c0
  go_wp2_with (at_builtin; go_must (refine wpList_append_src rfl _ _ 172 rfl 0 187 i0 (.slice none 0 0) 1 24 Tryz.underlying172 hi hz0 hz1 hz2 rfl (by omega) (.slice mva d.moves.length mvc) d.moves.length _ rfl (hown.alloc (.cells #[mvV g ms] 187)) (.slice (some ⟨w1.heap.size, 0, none⟩) 1 1) 1 [mvV g ms] rfl ⟨_, _, rfl, by omega, ⟨by omega, fun h => by cases h⟩, fun _ => ⟨_, rfl, World.news_of_block (cs := #[mvV g ms]) (t := 187) (fr := (0, 0)) (heap_alloc_new w1 _)⟩⟩ rfl (by simp [Value.oneCell', mvV]) (by unfold maxLen; omega) (by omega) (by omega) ?_); intro b6 c6 w6 hown6 hgrow6 hat6; have hb6 := Lib.hid ((hgrow6.block a (by simp; omega) (Ne.symm HBA.out)).trans (HBX.out.alloc (.cells #[mvV g ms] 187))); have c62 := BoxAt.cell hb6.out 2; have f62 := BoxAt.free hb6.out 2)
  go_end0
  have hE6 : Ext w1 (w1.alloc (.cells #[mvV g ms] 187)) := (Ext.refl w1).new _
  have hR6 := HR.out.moves' (G := fun b => F b ∨ (w1.heap.size ≤ b ∧ b < w6.heap.size)) hE6 HG1.out hgrow6 hown6 rfl rfl hF (fun b => Iff.rfl) HI.out (by
    intro b hb
    rcases hat6 with h | h
    · exact .inl (h ▸ hb)
    · rw [h] at hb; injection hb with hb; subst hb; exact .inr (by simp))
  refine ⟨rfl, _, ⟨m1, m2, _, _, dv, hR6⟩, ?_, fun b hb => .inl hb⟩
  have hsz : w1.heap.size ≤ w6.heap.size := Nat.le_trans hE6.size hgrow6.size
  have hm1 : F m1 := HR.out.fm.1
  have hmvF := HR.out.fo
  have hlow := HR.out.low
  have hsC := HC.out.size
  refine ⟨hgrow6.os.trans (hE6.os.trans HC.out.os), hgrow6.tape.trans (hE6.tape.trans HC.out.tape), hgrow6.output.trans (hE6.output.trans HC.out.output), by simp [World.setCell]; omega, fun b hb hFb => ?_, fun b hb => ?_⟩
  · have hne1 : b ≠ a := fun e => hFb (e ▸ HR.out.fa)
    have hne2 : (Value.slice mva d.moves.length mvc).ownBlock ≠ some b := fun e => hFb (hmvF b e)
    rw [Below.heap_setCell _ _ _ _ hne1]
    exact (hgrow6.block b (by simp; omega) (fun e => hne2 e.symm)).trans ((hE6.block b (by omega)).trans (HC.out.block b hb (fun e => hFb (e ▸ hm1))))
  · rcases hb with h | h
    · exact .inl h
    · exact .inr (by omega)
end Go.Proofs.YtgpbhjjajpbeeaaGreatDoor
/-
  The walks of the disk's operations: Create, Remove, Rename, Sync, Size.
-/
namespace Go.Proofs.YtgpbhjjajpbeeaaGreatDoor
open Go.RowKit Go.Lib Go.Maps Dk

/-- what an operation that answers an error answers and leaves -/
def OpIs (F : Nat → Prop) (a : Nat) (r : Er × D) (w : World) (e : Ending) (w' : World) : Prop :=
  ∃ F' v, e = .returned v ∧ Held w' F' (fun W => ErrAt W v r.1) ∧ DiskAt w' F' a r.2 ∧ Chg F F' w w' ∧ ∀ b, F b → F' b

theorem MvRow.one (w : World) (nm : Nm) (o : Option Nat) : MvRow (w.alloc (.cells #[strV nm, ptrV o] 251)) w.heap.size [(nm, o)] := BoxAt.new _ _ rfl

theorem DiskAt.wide {w : World} {F : Nat → Prop} {a : Nat} {d : D} (h : DiskAt w F a d) {G : Nat → Prop} (hF : ∀ b, F b → G b) (hG : ∀ b, G b → b < w.heap.size) : DiskAt w G a d := by
  obtain ⟨m1, m2, mv, gs, dv, h⟩ := h
  exact ⟨m1, m2, mv, gs, dv, h.more hF hG⟩
theorem DiskAt.addNode {w : World} {F : Nat → Prop} {a : Nat} {d : D} (h : DiskAt w F a d) {x : Nat} (hx : BoxAt w x 176 #[.slice none 0 0, .int .i64 0]) (hF : F x) (hn : x ∉ d.ids) :
    DiskAt w F a { d with ids := d.ids ++ [x], node := upd d.node x ⟨[], 0⟩ } := by
  obtain ⟨m1, m2, mv, gs, dv, h⟩ := h
  exact ⟨m1, m2, mv, gs, _, h.addNode hx hF hn⟩
theorem DiskAt.ids_lt {w : World} {F : Nat → Prop} {a : Nat} {d : D} (h : DiskAt w F a d) {x : Nat} (hx : x ∈ d.ids) : x < w.heap.size := by
  obtain ⟨m1, m2, mv, gs, dv, h⟩ := h
  exact h.low x (h.fx x hx).1
theorem DiskAt.fa {w : World} {F : Nat → Prop} {a : Nat} {d : D} (h : DiskAt w F a d) : F a := by
  obtain ⟨m1, m2, mv, gs, dv, h⟩ := h
  exact h.fa
/-- new blocks may be the disk's -/
theorem Chg.wide {F : Nat → Prop} {w w' : World} (h : Ext w w') {G : Nat → Prop} (hG : ∀ b, G b → F b ∨ w.heap.size ≤ b) : Chg F G w w' :=
  ⟨h.os, h.tape, h.output, h.size, fun b hb _ => h.block b hb, hG⟩

set_option maxRecDepth 100000 in
set_option maxHeartbeats 800000 in
/-- Create: x is the new file's block -/
theorem create_any (F : Nat → Prop) (a : Nat) (d : D) (name : Nm) (w : World) (h : DiskAt w F a d) (hn : name.length ≤ maxLen) (hml : d.moves.length ≤ 1000000) :
    Calls Tryz.prog 90 #[nodeV a, strV name] w fun e w' => ∃ x, x ∉ d.ids ∧ OpIs F a (d.create name x) w e w' := by
  have hfail := fails_any F a d w h
  have hx0 : w.heap.size ∉ d.ids := fun hx => by have := h.ids_lt hx; omega
  have HF := Lib.hid hfail; clear hfail h
  unfold nodeV strV
  go_enter Tryz.func90, Tryz.ntmps90
  go_wp2_with fail
  refine HF.out.mono ?_
  rintro e w1 ⟨rfl, hD, hO⟩
  have HD0 := Lib.hid hD; have HO := Lib.hid hO
  have hl1 : ∀ b, F b → b < w1.heap.size := hD.low
  have hfa : F a := hD.fa
  obtain ⟨m1, m2, mv, gs, dv, h⟩ := hD
  have c0 := h.box.cell 0
  have hids : d.fails.2.ids = d.ids := d.fails_now.2.2.2.2.1
  have hmvs : d.fails.2.moves = d.moves := d.fails_now.2.2.1
  have hlk := h.now.look keyedStr strV_inj Tryz.underlying171 (zeroNode w1) (keyStr hn)
  have HC0 : Chg F F w w1 := Chg.off hO hfa
  have HC := Lib.hid HC0; clear HC0
  clear h hO
  cases hf : d.fails.1 with
  | true =>
    clear hlk c0
    go_wp2
    go_ret
    refine ⟨_, hx0, F, .iface 132 (.pointer (some ⟨w1.heap.size, 0, none⟩)), rfl, ?_, ?_, HC.out.trans (Chg.ext ((Ext.refl w1).new _)), fun b hb => hb⟩
    · unfold D.create; rw [if_pos hf]; exact held_err hl1
    · unfold D.create; rw [if_pos hf]; exact HD0.out.ext ((Ext.refl w1).new _)
  | false =>
    have hff : ¬ d.fails.1 = true := by rw [hf]; decide
    cases hl : aLook d.fails.2.now name with
    | some y =>
      rw [hl] at hlk
      simp only [Option.map_some, Option.getD_some] at hlk
      unfold strV nodeV at hlk
      go_wp2
      go_ret
      refine ⟨_, hx0, F, .iface 132 (.pointer (some ⟨w1.heap.size, 0, none⟩)), rfl, ?_, ?_, HC.out.trans (Chg.ext ((Ext.refl w1).new _)), fun b hb => hb⟩
      · unfold D.create; rw [if_neg hff, if_pos (by rw [hl]; rfl)]; exact held_err hl1
      · unfold D.create; rw [if_neg hff, if_pos (by rw [hl]; rfl)]; exact HD0.out.ext ((Ext.refl w1).new _)
    | none =>
      rw [hl] at hlk
      simp only [Option.map_none, Option.getD_none] at hlk
      have hE1 : Ext w1 (w1.alloc (.cells #[.slice none 0 0, .int .i64 0] 176)) := (Ext.refl w1).new _
      have hE2 : Ext w1 ((w1.alloc (.cells #[.slice none 0 0, .int .i64 0] 176)).alloc (.cells #[strV name, ptrV (some w1.heap.size)] 251)) := hE1.new _
      have hxb : BoxAt (w1.alloc (.cells #[.slice none 0 0, .int .i64 0] 176)) w1.heap.size 176 #[.slice none 0 0, .int .i64 0] := BoxAt.new _ _ rfl
      have hxb2 : BoxAt ((w1.alloc (.cells #[.slice none 0 0, .int .i64 0] 176)).alloc (.cells #[strV name, ptrV (some w1.heap.size)] 251)) w1.heap.size 176 #[.slice none 0 0, .int .i64 0] := hxb.alloc _
      have hmv := MvRow.one (w1.alloc (.cells #[.slice none 0 0, .int .i64 0] 176)) name (some w1.heap.size)
      have hw2 : ((w1.alloc (.cells #[.slice none 0 0, .int .i64 0] 176)).alloc (.cells #[strV name, ptrV (some w1.heap.size)] 251)).heap.size = w1.heap.size + 2 := by simp
      have hx1 : w1.heap.size ∉ d.fails.2.ids := fun hx => by have := HD0.out.ids_lt hx; omega
      have hD2 := ((HD0.out.ext hE2).wide (G := fun b => F b ∨ w1.heap.size ≤ b ∧ b < w1.heap.size + 2) (fun b hb => .inl hb) (fun b hb => by rw [hw2]; rcases hb with hb | hb; (have := hl1 b hb; omega); omega)).addNode hxb2 (.inr (by omega)) hx1
      have hnm := name_any _ a (w1.heap.size + 1) _ [(name, some w1.heap.size)] _ hD2 (by simpa using hmv) (.inr (by omega)) (by simpa using hn) (by simp) (by rw [hmvs]; exact hml) (by simp)
      have hch : Chg F (fun b => F b ∨ w1.heap.size ≤ b ∧ b < w1.heap.size + 2) w ((w1.alloc (.cells #[.slice none 0 0, .int .i64 0] 176)).alloc (.cells #[strV name, ptrV (some w1.heap.size)] 251)) := HC.out.trans (Chg.wide hE2 fun b hb => hb.elim .inl fun h => .inr h.1)
      have HN := Lib.hid hnm; have HCH := Lib.hid hch
      clear hnm hch hD2 hmv hxb hxb2 hE1 hE2 hw2
      unfold mvV nodeV ptrV strV nodeV at HN
      unfold strV at hlk
      go_wp2_with fail
      refine HN.out.mono ?_
      rintro e w3 ⟨rfl, F', hD3, hC3, hF3⟩
      go_wp2
      go_ret
      refine ⟨w1.heap.size, by rw [← hids]; exact hx1, F', .nilIface, rfl, ?_, ?_, HCH.out.trans hC3, fun b hb => hF3 b (.inl hb)⟩
      · unfold D.create; rw [if_neg hff, if_neg (by rw [hl]; decide)]; exact held_ok _ _
      · unfold D.create; rw [if_neg hff, if_neg (by rw [hl]; decide)]; exact hD3
end Go.Proofs.YtgpbhjjajpbeeaaGreatDoor
