/-
  The walks of the disk's operations: Remove, Rename, Sync, Size.
-/
import Derived.Test.YtgpbhjjajpbeeaaGreatDoorC13
import Derived.Lib.SliceRun
set_option linter.unusedSimpArgs false
set_option linter.unusedVariables false
set_option linter.unnecessarySimpa false
namespace Go.Proofs.YtgpbhjjajpbeeaaGreatDoor
open Go.RowKit Go.Lib Go.Maps Dk

/-- how find's answer is known -/
theorem find_cases (d : D) (name : Nm) : (∃ er, (d.find name).1 = none ∧ (d.find name).2.1 = er ∧ er ≠ .ok) ∨ ∃ x, (d.find name).1 = some x ∧ (d.find name).2.1 = .ok := by
  unfold D.find
  split
  · exact .inl ⟨_, rfl, rfl, by simp⟩
  · cases aLook d.now name with
    | none => exact .inl ⟨_, rfl, rfl, by simp⟩
    | some x => exact .inr ⟨x, rfl, rfl⟩
theorem find_bad (d : D) (name : Nm) (h : (d.find name).1 = none) : ∃ k, (d.find name).2.1 = .file k name := by
  unfold D.find at h ⊢
  split
  · exact ⟨_, rfl⟩
  · rename_i hf
    rw [if_neg hf] at h
    cases ha : aLook d.now name with
    | none => exact ⟨_, rfl⟩
    | some x => rw [ha] at h; cases h
theorem find_moves (d : D) (name : Nm) : (d.find name).2.2.moves = d.moves ∧ (d.find name).2.2.now = d.now ∧ (d.find name).2.2.ids = d.ids ∧ (d.find name).2.2.node = d.node ∧ (d.find name).2.2.safe = d.safe ∧ (d.find name).2.2.room = d.room := by
  have e := d.fails_now
  have h : (d.find name).2.2 = d.fails.2 := by
    unfold D.find; split
    · rfl
    · cases aLook d.now name <;> rfl
  rw [h]
  exact ⟨e.2.2.1, e.1, e.2.2.2.2.1, e.2.2.2.2.2, e.2.1, e.2.2.2.1⟩
theorem remove_bad {d : D} {name : Nm} (h : (d.find name).1 = none) : d.remove name = (d.find name).2 := by
  unfold D.remove; revert h; rcases d.find name with ⟨o, er, d'⟩; rintro rfl; rfl
theorem remove_ok {d : D} {name : Nm} {x : Nat} (h : (d.find name).1 = some x) : d.remove name = (.ok, (d.find name).2.2.mv [(name, none)]) := by
  unfold D.remove; revert h; rcases d.find name with ⟨o, er, d'⟩; rintro rfl; rfl
theorem rename_bad {d : D} {name dst : Nm} (h : (d.find name).1 = none) : d.rename name dst = (d.find name).2 := by
  unfold D.rename; revert h; rcases d.find name with ⟨o, er, d'⟩; rintro rfl; rfl
theorem rename_ok {d : D} {name dst : Nm} {x : Nat} (h : (d.find name).1 = some x) : d.rename name dst = (.ok, if name = dst then (d.find name).2.2 else (d.find name).2.2.mv [(dst, some x), (name, none)]) := by
  unfold D.rename; revert h; rcases d.find name with ⟨o, er, d'⟩; rintro rfl; rfl
theorem sync_bad {d : D} {name : Nm} (h : (d.find name).1 = none) : d.sync name = (d.find name).2 := by
  unfold D.sync; revert h; rcases d.find name with ⟨o, er, d'⟩; rintro rfl; rfl
theorem sync_ok {d : D} {name : Nm} {x : Nat} (h : (d.find name).1 = some x) : d.sync name = (.ok, (d.find name).2.2.setNode x { (d.find name).2.2.node x with safe := ((d.find name).2.2.node x).data.length }) := by
  unfold D.sync; revert h; rcases d.find name with ⟨o, er, d'⟩; rintro rfl; rfl
theorem size_bad {d : D} {name : Nm} (h : (d.find name).1 = none) : d.size name = (0, (d.find name).2) := by
  unfold D.size; revert h; rcases d.find name with ⟨o, er, d'⟩; rintro rfl; rfl
theorem size_ok {d : D} {name : Nm} {x : Nat} (h : (d.find name).1 = some x) : d.size name = (((((d.find name).2.2.node x).data.length : Nat) : Int), Er.ok, (d.find name).2.2) := by
  unfold D.size; revert h; rcases d.find name with ⟨o, er, d'⟩; rintro rfl; rfl
theorem readAt_bad {d : D} {name : Nm} {at_ n : Int} (h : (d.find name).1 = none) : d.readAt name at_ n = ([], (d.find name).2) := by
  unfold D.readAt; revert h; rcases d.find name with ⟨o, er, d'⟩; rintro rfl; rfl
theorem readAt_ok {d : D} {name : Nm} {at_ n : Int} {x : Nat} (h : (d.find name).1 = some x) : d.readAt name at_ n = (Dk.part ((d.find name).2.2.node x).data at_ n, .ok, (d.find name).2.2) := by
  unfold D.readAt; revert h; rcases d.find name with ⟨o, er, d'⟩; rintro rfl; rfl
theorem append_bad {d : D} {name : Nm} {b : List UInt8} (h : (d.find name).1 = none) : d.append name b = (d.find name).2 := by
  unfold D.append; revert h; rcases d.find name with ⟨o, er, d'⟩; rintro rfl; rfl
theorem append_ok {d : D} {name : Nm} {b : List UInt8} {x : Nat} (h : (d.find name).1 = some x) : d.append name b = if (d.find name).2.2.room - (d.find name).2.2.used < b.length then (.file 10 name, (d.find name).2.2) else (.ok, (d.find name).2.2.setNode x { (d.find name).2.2.node x with data := ((d.find name).2.2.node x).data ++ b }) := by
  unfold D.append; revert h; rcases d.find name with ⟨o, er, d'⟩; rintro rfl; rfl

theorem D.find_wf_ok (d : D) (name : Nm) (x : Nat) (h : (d.find name).1 = some x) : (d.find name).2.1 = .ok := by
  rcases find_cases d name with ⟨er, h1, _⟩ | ⟨y, _, h2⟩
  · rw [h1] at h; cases h
  · exact h2
theorem D.find_mem (d : D) (name : Nm) (x : Nat) (h : (d.find name).1 = some x) (hw : (d.find name).2.2.Wf) : x ∈ (d.find name).2.2.ids := by
  have hl : aLook d.now name = some x := by
    unfold D.find at h; split at h
    · cases h
    · cases ha : aLook d.now name with
      | none => rw [ha] at h; cases h
      | some y => rw [ha] at h; exact h
  exact hw.now (name, x) (by rw [(find_moves d name).2.1]; exact aLook_mem hl)
/-- what find answers, taken apart -/
theorem FindIs.cases {F : Nat → Prop} {a : Nat} {d : D} {name : Nm} {w : World} {e : Ending} {w1 : World} (h : FindIs F a d name w e w1) :
    DiskAt w1 F a (d.find name).2.2 ∧ Chg F F w w1 ∧
    ((∃ b k, e = .returned (.tuple #[.pointer none, .iface 132 (.pointer (some ⟨b, 0, none⟩))]) ∧ (d.find name).1 = none ∧ (d.find name).2.1 = .file k name ∧ Held w1 F (fun W => ErrAt W (.iface 132 (.pointer (some ⟨b, 0, none⟩))) (d.find name).2.1)) ∨
     (∃ x, e = .returned (.tuple #[.pointer (some ⟨x, 0, none⟩), .nilIface]) ∧ (d.find name).1 = some x)) := by
  obtain ⟨v, rfl, hv, hD, hC⟩ := h
  refine ⟨hD, hC, ?_⟩
  cases hx : (d.find name).1 with
  | none =>
    obtain ⟨k, hk⟩ := find_bad d name hx
    have := hv.get
    rw [hk] at this
    obtain ⟨b, rfl, hb⟩ := this
    exact .inl ⟨b, k, rfl, rfl, hk, hv⟩
  | some x =>
    have hok := (D.find_wf_ok d name x hx)
    have := hv.get
    rw [hok] at this
    have e : v = .nilIface := this
    subst e
    exact .inr ⟨x, rfl, rfl⟩

set_option maxRecDepth 100000 in
set_option maxHeartbeats 800000 in
theorem remove_any (F : Nat → Prop) (a : Nat) (d : D) (name : Nm) (w : World) (h : DiskAt w F a d) (hn : name.length ≤ maxLen) (hml : d.moves.length ≤ 1000000) :
    Calls Tryz.prog 134 #[nodeV a, strV name] w fun e w' => OpIs F a (d.remove name) w e w' := by
  have hfind := find_any F a d name w h hn
  have HF := Lib.hid hfind; clear hfind h
  unfold nodeV strV at *
  go_enter Tryz.func134, Tryz.ntmps134
  go_wp2_with fail
  refine HF.out.mono ?_
  intro e w1 hfi
  obtain ⟨hD, hC, hc⟩ := hfi.cases
  have hmvs := (find_moves d name).1
  have hl1 : ∀ b, F b → b < w1.heap.size := hD.low
  have HD := Lib.hid hD; have HC := Lib.hid hC; clear hD hC hfi
  rcases hc with ⟨b, k, rfl, hx, hk, hv⟩ | ⟨x, rfl, hx⟩
  · have HV := Lib.hid hv; clear hv
    go_wp2
    go_ret
    refine ⟨F, .iface 132 (.pointer (some ⟨b, 0, none⟩)), rfl, ?_, ?_, HC.out, fun b hb => hb⟩
    · rw [remove_bad hx]; exact HV.out
    · rw [remove_bad hx]; exact HD.out
  · have hE : Ext w1 (w1.alloc (.cells #[strV name, ptrV none] 251)) := (Ext.refl w1).new _
    have hw2 : (w1.alloc (.cells #[strV name, ptrV none] 251)).heap.size = w1.heap.size + 1 := by simp
    have hD2 := (HD.out.ext hE).wide (G := fun b => F b ∨ w1.heap.size ≤ b ∧ b < w1.heap.size + 1) (fun b hb => .inl hb) (fun b hb => by rw [hw2]; rcases hb with hb | hb; (have := hl1 b hb; omega); omega)
    have hnm := name_any _ a w1.heap.size _ [(name, none)] _ hD2 (MvRow.one w1 name none) (.inr (by omega)) (by simpa using hn) (by simp) (by rw [hmvs]; exact hml) (by simp)
    have hch : Chg F (fun b => F b ∨ w1.heap.size ≤ b ∧ b < w1.heap.size + 1) w (w1.alloc (.cells #[strV name, ptrV none] 251)) := HC.out.trans (Chg.wide hE fun b hb => hb.elim .inl fun h => .inr h.1)
    have HN := Lib.hid hnm; have HCH := Lib.hid hch
    clear hnm hch hD2 hE hw2
    unfold mvV nodeV ptrV strV at HN
    go_wp2_with fail
    refine HN.out.mono ?_
    rintro e w3 ⟨rfl, F', hD3, hC3, hF3⟩
    go_wp2
    go_ret
    refine ⟨F', .nilIface, rfl, ?_, ?_, HCH.out.trans hC3, fun b hb => hF3 b (.inl hb)⟩
    · rw [remove_ok hx]; exact held_ok _ _
    · rw [remove_ok hx]; exact hD3

theorem MvRow.two (w : World) (n1 n2 : Nm) (o1 o2 : Option Nat) : MvRow (w.alloc (.cells #[strV n1, ptrV o1, strV n2, ptrV o2] 251)) w.heap.size [(n1, o1), (n2, o2)] := BoxAt.new _ _ rfl

set_option maxRecDepth 100000 in
set_option maxHeartbeats 800000 in
theorem rename_any (F : Nat → Prop) (a : Nat) (d : D) (src dst : Nm) (w : World) (h : DiskAt w F a d) (hn : src.length ≤ maxLen) (hn2 : dst.length ≤ maxLen) (hml : d.moves.length ≤ 1000000) :
    Calls Tryz.prog 144 #[nodeV a, strV src, strV dst] w fun e w' => OpIs F a (d.rename src dst) w e w' := by
  have hfind := find_any F a d src w h hn
  have HF := Lib.hid hfind; clear hfind h
  unfold nodeV strV at *
  go_enter Tryz.func144, Tryz.ntmps144
  go_wp2_with fail
  refine HF.out.mono ?_
  intro e w1 hfi
  obtain ⟨hD, hC, hc⟩ := hfi.cases
  have hmvs := (find_moves d src).1
  have hl1 : ∀ b, F b → b < w1.heap.size := hD.low
  have hwf := hD.wf
  have hxi : ∀ x, (d.find src).1 = some x → x ∈ (d.find src).2.2.ids := fun x hx => D.find_mem d src x hx hwf
  have HD := Lib.hid hD; have HC := Lib.hid hC; clear hD hC hfi hwf
  rcases hc with ⟨b, k, rfl, hx, hk, hv⟩ | ⟨x, rfl, hx⟩
  · have HV := Lib.hid hv; clear hv
    go_wp2
    go_ret
    refine ⟨F, .iface 132 (.pointer (some ⟨b, 0, none⟩)), rfl, ?_, ?_, HC.out, fun b hb => hb⟩
    · rw [rename_bad hx]; exact HV.out
    · rw [rename_bad hx]; exact HD.out
  · by_cases he : src = dst
    · have he' : (src == dst) = true := by simpa using he
      go_wp2
      go_ret
      refine ⟨F, .nilIface, rfl, ?_, ?_, HC.out, fun b hb => hb⟩
      · rw [rename_ok hx]; exact held_ok _ _
      · rw [rename_ok hx, if_pos he]; exact HD.out
    · have he' : (src == dst) = false := by simpa using he
      have hE : Ext w1 (w1.alloc (.cells #[strV dst, ptrV (some x), strV src, ptrV none] 251)) := (Ext.refl w1).new _
      have hw2 : (w1.alloc (.cells #[strV dst, ptrV (some x), strV src, ptrV none] 251)).heap.size = w1.heap.size + 1 := by simp
      have hD2 := (HD.out.ext hE).wide (G := fun b => F b ∨ w1.heap.size ≤ b ∧ b < w1.heap.size + 1) (fun b hb => .inl hb) (fun b hb => by rw [hw2]; rcases hb with hb | hb; (have := hl1 b hb; omega); omega)
      have hnm := name_any _ a w1.heap.size _ [(dst, some x), (src, none)] _ hD2 (MvRow.two w1 dst src (some x) none) (.inr (by omega)) (by simpa using ⟨hn2, hn⟩) (by simp) (by rw [hmvs]; exact hml) (by simpa using hxi x hx)
      have hch : Chg F (fun b => F b ∨ w1.heap.size ≤ b ∧ b < w1.heap.size + 1) w (w1.alloc (.cells #[strV dst, ptrV (some x), strV src, ptrV none] 251)) := HC.out.trans (Chg.wide hE fun b hb => hb.elim .inl fun h => .inr h.1)
      have HN := Lib.hid hnm; have HCH := Lib.hid hch
      clear hnm hch hD2 hE hw2
      unfold mvV nodeV ptrV strV nodeV at HN
      go_wp2_with fail
      refine HN.out.mono ?_
      rintro e w3 ⟨rfl, F', hD3, hC3, hF3⟩
      go_wp2
      go_ret
      refine ⟨F', .nilIface, rfl, ?_, ?_, HCH.out.trans hC3, fun b hb => hF3 b (.inl hb)⟩
      · rw [rename_ok hx]; exact held_ok _ _
      · rw [rename_ok hx, if_neg he]; exact hD3
end Go.Proofs.YtgpbhjjajpbeeaaGreatDoor
/-
  A file's box and bytes turn. The walks of Sync, Size, slices.Clone, ReadAt.
-/
namespace Go.Proofs.YtgpbhjjajpbeeaaGreatDoor
open Go.RowKit Go.Lib Go.Maps Dk

section
variable {w w' : World} {F : Nat → Prop} {a m1 m2 : Nat} {mv : Value} {gs : List Nat} {dv : Nat → Value} {d : D}
/-- a file's box and its bytes have turned -/
theorem DiskRep.node' (h : DiskRep w F a m1 m2 mv gs dv d) {x : Nat} (hx : x ∈ d.ids) (hk : ∀ b, b < w.heap.size → b ≠ x → (dv x).ownBlock ≠ some b → w'.heap[b]? = w.heap[b]?) (hs : w.heap.size ≤ w'.heap.size)
    {v : Value} {n : Nat} {l : List UInt8} (hbox : BoxAt w' x 176 #[v, .int .i64 n]) (hown : OwnB w' 0 v l) (hat : ∀ b, v.ownBlock = some b → (dv x).ownBlock = some b ∨ w.heap.size ≤ b) (hnl : n ≤ l.length)
    {G : Nat → Prop} (hG : ∀ b, G b ↔ F b ∨ (w.heap.size ≤ b ∧ b < w'.heap.size)) :
    DiskRep w' G a m1 m2 mv gs (fun i => if i = x then v else dv i) (d.setNode x ⟨l, n⟩) := by
  have hlow := h.low
  have hxb := (h.file x hx).1
  have hxo := (h.file x hx).2
  have k2 : ∀ b, F b → b ≠ x → (dv x).ownBlock ≠ some b → w'.heap[b]? = w.heap[b]? := fun b hb => hk b (hlow b hb)
  have key : ∀ y ∈ d.ids, y ≠ x → ∀ b, (dv y).ownBlock = some b → w'.heap[b]? = w.heap[b]? := fun y hy hne b hb =>
    k2 b ((h.fx y hy).2 b hb) (fun e => row_box_ne (h.file y hy).2 hxb (by decide) (e ▸ hb)) (h.apart y hy x hx hne b hb)
  exact {
    box := (k2 a h.fa (box_ne h.box hxb (by decide)) (row_box_ne hxo h.box (by decide))).trans h.box
    now := h.now.block (k2 _ h.fm.1 (h.map_ne hxb).1 (row_map_ne hxo h.now))
    safe := h.safe.block (k2 _ h.fm.2 (h.map_ne hxb).2 (row_map_ne hxo h.safe))
    ne := h.ne
    rows := ⟨h.rows.1, fun i g l hg hl => (k2 g (h.fg g (List.mem_of_getElem? hg)) (box_ne (h.rows.2 i g l hg hl) hxb (by decide)) (row_box_ne hxo (h.rows.2 i g l hg hl) (by decide))).trans (h.rows.2 i g l hg hl)⟩
    outer := Dep.row h.outer w' fun b hb => k2 b (h.fo b hb) (fun e => row_box_ne h.outer hxb (by decide) (e ▸ hb)) (rows_ne h.outer hxo (by decide) hb)
    file := by
      intro y hy
      by_cases e : y = x
      · subst e
        simp only [D.setNode, upd, if_true]
        exact ⟨hbox, hown⟩
      · simp only [D.setNode, upd, if_neg e]
        exact ⟨(k2 y (h.fx y hy).1 e (row_box_ne hxo (h.file y hy).1 (by decide))).trans (h.file y hy).1, Dep.row (h.file y hy).2 w' fun b hb => key y hy e b hb⟩
    apart := by
      intro y hy z hz hyz b hb
      by_cases ey : y = x
      · subst ey
        have ez : z ≠ y := fun e => hyz e.symm
        simp only [if_true] at hb
        simp only [if_neg ez]
        rcases hat b hb with h1 | h1
        · exact h.apart y hy z hz hyz b h1
        · intro h2
          have := hlow b ((h.fx z hz).2 b h2); omega
      · simp only [if_neg ey] at hb
        by_cases ez : z = x
        · subst ez
          simp only [if_true]
          intro h2
          rcases hat b h2 with h1 | h1
          · exact h.apart y hy z hz hyz b hb h1
          · have := hlow b ((h.fx y hy).2 b hb); omega
        · simp only [if_neg ez]; exact h.apart y hy z hz hyz b hb
    fa := (hG a).2 (.inl h.fa)
    fm := ⟨(hG _).2 (.inl h.fm.1), (hG _).2 (.inl h.fm.2)⟩
    fg := fun g hg => (hG g).2 (.inl (h.fg g hg))
    fo := fun b hb => (hG b).2 (.inl (h.fo b hb))
    fx := by
      intro y hy
      refine ⟨(hG y).2 (.inl (h.fx y hy).1), fun b hb => ?_⟩
      by_cases e : y = x
      · subst e
        simp only [if_true] at hb
        rcases hat b hb with h1 | h1
        · exact (hG b).2 (.inl ((h.fx y hy).2 b h1))
        · exact (hG b).2 (.inr ⟨h1, row_lt hown hb⟩)
      · simp only [if_neg e] at hb
        exact (hG b).2 (.inl ((h.fx y hy).2 b hb))
    low := fun b hb => by
      rcases (hG b).1 hb with h1 | h1
      · have := hlow b h1; omega
      · exact h1.2
    wf := D.setNode_wf h.wf hnl
    num := h.num }
end

/-- what an operation answers that answers a number and an error -/
def NumIs (F : Nat → Prop) (a : Nat) (r : Int × Er × D) (w : World) (e : Ending) (w' : World) : Prop :=
  ∃ v, e = .returned (.tuple #[.int .i64 r.1, v]) ∧ Held w' F (fun W => ErrAt W v r.2.1) ∧ DiskAt w' F a r.2.2 ∧ Chg F F w w'

set_option maxRecDepth 100000 in
set_option maxHeartbeats 800000 in
theorem size_any (F : Nat → Prop) (a : Nat) (d : D) (name : Nm) (w : World) (h : DiskAt w F a d) (hn : name.length ≤ maxLen) :
    Calls Tryz.prog 67 #[nodeV a, strV name] w (NumIs F a (d.size name) w) := by
  have hfind := find_any F a d name w h hn
  have HF := Lib.hid hfind; clear hfind h
  unfold nodeV strV at *
  go_enter Tryz.func67, Tryz.ntmps67
  go_wp2_with fail
  refine HF.out.mono ?_
  intro e w1 hfi
  obtain ⟨hD, hC, hc⟩ := hfi.cases
  have hxi : ∀ x, (d.find name).1 = some x → x ∈ (d.find name).2.2.ids := fun x hx => D.find_mem d name x hx hD.wf
  rcases hc with ⟨b, k, rfl, hx, hk, hv⟩ | ⟨x, rfl, hx⟩
  · have HD := Lib.hid hD; have HC := Lib.hid hC; clear hD hC hfi
    have HV := Lib.hid hv; clear hv
    go_wp2
    go_ret2
    refine ⟨.iface 132 (.pointer (some ⟨b, 0, none⟩)), ?_, ?_, ?_, HC.out⟩
    · rw [size_bad hx]; rfl
    · rw [size_bad hx]; exact HV.out
    · rw [size_bad hx]; exact HD.out
  · have hxm := hxi x hx
    have HD := Lib.hid hD; have HC := Lib.hid hC; clear hC hfi
    obtain ⟨m1, m2, mv, gs, dv, hr⟩ := hD
    obtain ⟨hb, ho⟩ := hr.file x hxm
    obtain ⟨da, dc, hdv⟩ := ownsRow_form ho
    rw [hdv] at hb
    have c0 := hb.cell 0
    clear hr ho hb hdv hxi
    go_wp2
    go_ret2
    refine ⟨.nilIface, ?_, ?_, ?_, HC.out⟩
    · rw [size_ok hx]; rfl
    · rw [size_ok hx]; exact held_ok _ _
    · rw [size_ok hx]; exact HD.out

set_option maxRecDepth 100000 in
set_option maxHeartbeats 800000 in
theorem sync_any (F : Nat → Prop) (a : Nat) (d : D) (name : Nm) (w : World) (h : DiskAt w F a d) (hn : name.length ≤ maxLen) :
    Calls Tryz.prog 92 #[nodeV a, strV name] w fun e w' => OpIs F a (d.sync name) w e w' := by
  have hfind := find_any F a d name w h hn
  have HF := Lib.hid hfind; clear hfind h
  unfold nodeV strV at *
  go_enter Tryz.func92, Tryz.ntmps92
  go_wp2_with fail
  refine HF.out.mono ?_
  intro e w1 hfi
  obtain ⟨hD, hC, hc⟩ := hfi.cases
  have hxi : ∀ x, (d.find name).1 = some x → x ∈ (d.find name).2.2.ids := fun x hx => D.find_mem d name x hx hD.wf
  rcases hc with ⟨b, k, rfl, hx, hk, hv⟩ | ⟨x, rfl, hx⟩
  · have HD := Lib.hid hD; have HC := Lib.hid hC; clear hD hC hfi
    have HV := Lib.hid hv; clear hv
    go_wp2
    go_ret
    refine ⟨F, .iface 132 (.pointer (some ⟨b, 0, none⟩)), rfl, ?_, ?_, HC.out, fun b hb => hb⟩
    · rw [sync_bad hx]; exact HV.out
    · rw [sync_bad hx]; exact HD.out
  · have hxm := hxi x hx
    have HC := Lib.hid hC; clear hC hfi
    obtain ⟨m1, m2, mv, gs, dv, hr⟩ := hD
    obtain ⟨hb, ho⟩ := hr.file x hxm
    obtain ⟨da, dc, hdv⟩ := ownsRow_form ho
    have hbx := row_box_ne ho hb (by decide)
    rw [hdv] at hb
    have c0 := hb.cell 0
    have c1 := hb.cell 1
    have f1 := hb.free 1
    have HR := Lib.hid hr; have HB := Lib.hid hb; have HV := Lib.hid hdv; have HO := Lib.hid ho; have HX := Lib.hid hbx
    clear hr ho hb hdv hxi hbx
    go_wp2
    go_ret
    have hO := (Off.refl x w1).setCell 1 (.int .i64 ((((d.find name).2.2.node x).data.length : Nat) : Int))
    have hR2 := HR.out.node' (w' := w1.setCell ⟨x, 1, none⟩ (.int .i64 ((((d.find name).2.2.node x).data.length : Nat) : Int))) hxm (fun b _ hne _ => hO.block b hne) (Nat.le_of_eq hO.size.symm) (HB.out.set 1 _) (l := ((d.find name).2.2.node x).data)
      (by rw [← HV.out]; exact Dep.row HO.out _ fun b hb => hO.block b (fun e => HX.out (e ▸ hb))) (fun b hb => .inl (by rw [HV.out]; exact hb)) (Nat.le_refl _) (G := F) (fun b => ⟨.inl, fun h => h.elim id fun h => by have := hO.size; omega⟩)
    refine ⟨F, .nilIface, rfl, ?_, ?_, HC.out.trans (Chg.off hO (HR.out.fx x hxm).1), fun b hb => hb⟩
    · rw [sync_ok hx]; exact held_ok _ _
    · rw [sync_ok hx]; exact ⟨m1, m2, mv, gs, _, hR2⟩

/-- what Clone answers: the same bytes, in a row of its own -/
def CloneIs (l : List UInt8) (w : World) (e : Ending) (w' : World) : Prop := ∃ v, e = .returned v ∧ OwnB w' w.heap.size v l ∧ Ext w w'
set_option maxRecDepth 100000 in
set_option maxHeartbeats 800000 in
theorem clone_any (v : Value) (l : List UInt8) (w : World) (h : Bytes w v l) (hl : l.length ≤ 4611686018427387904) (hsz : l.length ≤ 140737488355328) :
    Calls Tryz.prog 88 #[v] w (CloneIs l w) := by
  obtain ⟨i0, hi, hz0, hz1, hz2⟩ := info_parts info_u8
  have hb := h
  obtain ⟨ad, cap, rfl, h1, h2, h3⟩ := h
  cases ad with
  | none =>
    have hl0 : l = [] := by
      have := h2.2 rfl
      exact List.eq_nil_of_length_eq_zero (by omega)
    subst hl0
    obtain rfl : cap = 0 := h2.2 rfl
    clear hb
    have hnil : (binOp BinOp.eql 25 (.slice none 0 0) (.slice none 0 0)).run Tryz.prog w = .ok (.bool true) w := run_eql_slice_nil w 25 5 none 0 0 0 0 Tryz.underlying25
    go_enter Tryz.func88, Tryz.ntmps88
    go_wp2
    go_ret
    exact ⟨_, rfl, ⟨rfl, Or.inl ⟨rfl, rfl⟩⟩, Ext.refl w⟩
  | some ad =>
    have HB := Lib.hid hb; clear hb h3
    have hnil : (binOp BinOp.eql 25 (.slice (some ad) l.length cap) (.slice none 0 0)).run Tryz.prog w = .ok (.bool false) w := run_eql_slice_nil w 25 5 (some ad) _ _ 0 0 Tryz.underlying25
    have hown0 : (w.alloc (.cells #[] 5)).ownsRow w.heap.size 5 1 (.slice (some ⟨w.heap.size, 0, none⟩) 0 0) 0 [] :=
      ⟨rfl, Or.inr ⟨w.heap.size, 0, #[], rfl, Nat.le_refl _, heap_alloc_new w _, Nat.le_refl _, by unfold maxLen; omega, rfl, rfl⟩⟩
    go_enter Tryz.func88, Tryz.ntmps88
    go_wp2_with (at_builtin; go_must (refine wpList_append_src rfl _ _ 25 rfl w.heap.size 5 i0 (.int .u8 0) 1 1 Tryz.underlying25 hi hz0 hz1 hz2 rfl (by omega) (.slice (some ⟨w.heap.size, 0, none⟩) 0 0) 0 [] rfl hown0 (.slice (some ad) l.length cap) l.length (l.map byteV) rfl (HB.out.ext ((Ext.refl w).new _)) (by simp) (byteV_one l) (by unfold maxLen; omega) (by omega) (by simp) ?_); intro b6 c6 w6 hown6 hgrow6 hat6)
    go_ret
    have hEE : Ext w w6 := Below.grown ((Ext.refl w).new (.cells #[] 5)) hgrow6 (by simp) (fun k hk => by simp [Value.ownBlock] at hk; omega)
    exact ⟨_, rfl, by simpa [OwnB] using hown6, hEE⟩
end Go.Proofs.YtgpbhjjajpbeeaaGreatDoor
