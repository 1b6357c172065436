/-
  The walk of files: what a disk has, read, where nothing fails.
-/
import Derived.Test.YtgpbhjjajpbeeaaGreatDoorC22
import Derived.Test.YtgpbhjjajpbeeaaGreatDoorC17
import Derived.Test.YtgpbhjjajpbeeaaGreatDoorC25
set_option linter.unusedSimpArgs false
set_option linter.unusedVariables false
set_option linter.unnecessarySimpa false
namespace Go.Proofs.YtgpbhjjajpbeeaaGreatDoor
open Go.RowKit Go.Lib Go.Maps Dk

def fileCells (p : Nm × Value) : List Value := [strV p.1, p.2]
/-- a row of files, to be read -/
def FilesIs (w : World) (v : Value) (l : Fl) : Prop :=
  ∃ (a : Option Addr) (cap : Nat) (rows : List (Nm × Value)), v = .slice a l.length cap ∧ l.length ≤ cap ∧ cap ≤ 9223372036854775807 ∧ rows.length = l.length ∧
    (∀ (i : Nat) p, rows[i]? = some p → ∃ g, a = some ⟨g, 0, none⟩ ∧ w.cell? ⟨g, i * 2, none⟩ = some (strV p.1) ∧ w.cell? ⟨g, i * 2 + 1, none⟩ = some p.2) ∧
    ∀ (i : Nat) p q, rows[i]? = some p → l[i]? = some q → p.1 = q.1 ∧ Bytes w p.2 q.2
theorem flat_at (rows : List (Nm × Value)) (i : Nat) (p : Nm × Value) (h : rows[i]? = some p) (j : Nat) (hj : j < 2) : (rows.flatMap fileCells)[2 * i + j]? = (fileCells p)[j]? := by
  induction rows generalizing i with
  | nil => simp at h
  | cons y l ih =>
    rw [List.flatMap_cons]
    cases i with
    | zero =>
      simp at h; subst h
      rw [List.getElem?_append_left (by simp [fileCells]; omega)]; simp
    | succ i =>
      simp at h
      rw [List.getElem?_append_right (by simp [fileCells]; omega), show 2 * (i + 1) + j - (fileCells y).length = 2 * i + j by simp [fileCells]; omega]
      exact ih i h
/-- a row of files of the call's own, so far -/
def RowsAt (w : World) (B : Nat) (v : Value) (rows : List (Nm × Value)) (l : Fl) : Prop :=
  w.ownsRow B 77 2 v rows.length (rows.flatMap fileCells) ∧ rows.length = l.length ∧ ∀ (i : Nat) p q, rows[i]? = some p → l[i]? = some q → p.1 = q.1 ∧ OwnB w B p.2 q.2
theorem RowsAt.files {w : World} {B : Nat} {v : Value} {rows : List (Nm × Value)} {l : Fl} (h : RowsAt w B v rows l) : FilesIs w v l := by
  obtain ⟨h1, h2, h3⟩ := h
  have hm : maxLen ≤ 9223372036854775807 := by unfold maxLen; omega
  rcases h1.2 with ⟨rfl, h0⟩ | ⟨g, cap, cur, rfl, _, hb, h4, h5, h6, h7⟩
  · refine ⟨none, 0, rows, by rw [← h2, h0], by omega, by omega, h2, fun i p hp => ?_, fun i p q hp hq => ⟨(h3 i p q hp hq).1, (h3 i p q hp hq).2.bytes⟩⟩
    have := (List.getElem?_eq_some_iff.1 hp).1
    omega
  · refine ⟨some ⟨g, 0, none⟩, cap, rows, by rw [h2], by omega, by omega, h2, fun i p hp => ⟨g, rfl, ?_, ?_⟩, fun i p q hp hq => ⟨(h3 i p q hp hq).1, (h3 i p q hp hq).2.bytes⟩⟩
    · have e := flat_at rows i p hp 0 (by omega)
      rw [← h7, List.getElem?_take] at e
      split at e
      · simp only [World.cell?, hb]; rw [show i * 2 = 2 * i + 0 by omega]; simpa [fileCells] using e
      · simp [fileCells] at e
    · have e := flat_at rows i p hp 1 (by omega)
      rw [← h7, List.getElem?_take] at e
      split at e
      · simp only [World.cell?, hb]; rw [show i * 2 + 1 = 2 * i + 1 by omega]; simpa [fileCells] using e
      · simp [fileCells] at e
/-- kept where the blocks from B on that are there are kept -/
theorem RowsAt.keep {w w' : World} {B : Nat} {v : Value} {rows : List (Nm × Value)} {l : Fl} (h : RowsAt w B v rows l) (hk : ∀ b, B ≤ b → b < w.heap.size → w'.heap[b]? = w.heap[b]?) : RowsAt w' B v rows l := by
  obtain ⟨h1, h2, h3⟩ := h
  refine ⟨Dep.row h1 w' fun b hb => hk b (h1.lt b hb).1 (h1.lt b hb).2, h2, fun i p q hp hq => ⟨(h3 i p q hp hq).1, ?_⟩⟩
  have ho := (h3 i p q hp hq).2
  exact Dep.row ho w' fun b hb => hk b (World.ownsRow.lt ho b hb).1 (World.ownsRow.lt ho b hb).2
theorem OwnN.keep {w w' : World} {B : Nat} {v : Value} {l : List Nm} (h : OwnN w B v l) (hk : ∀ b, B ≤ b → b < w.heap.size → w'.heap[b]? = w.heap[b]?) : OwnN w' B v l :=
  Dep.row h w' fun b hb => hk b (World.ownsRow.lt h b hb).1 (World.ownsRow.lt h b hb).2
theorem RowsAt.held {w : World} {F : Nat → Prop} {B : Nat} {v : Value} {rows : List (Nm × Value)} {l : Fl} (h : RowsAt w B v rows l) (hF : ∀ b, F b → b < B) : Held w F (fun W => FilesIs W v l) :=
  ⟨fun b => B ≤ b ∧ b < w.heap.size, fun b hb => ⟨hb.2, fun hF' => by have := hF b hF'; omega⟩, fun w' hw => (h.keep fun b h1 h2 => hw b ⟨h1, h2⟩).files⟩
theorem RowsAt.nil (w : World) (B : Nat) : RowsAt w B (.slice none 0 0) [] [] := ⟨⟨rfl, Or.inl ⟨rfl, rfl⟩⟩, rfl, by simp⟩
theorem Chg.grown {F : Nat → Prop} {w w1 w2 : World} {row : Option Nat} (h : Chg F F w w1) (hg : w1.grownBy w2 row) (hr : ∀ k, row = some k → w.heap.size ≤ k) : Chg F F w w2 :=
  ⟨hg.os.trans h.os, hg.tape.trans h.tape, hg.output.trans h.output, Nat.le_trans h.size hg.size, fun b hb hF => (hg.block b (Nat.lt_of_lt_of_le hb h.size) (fun e => by have := hr b e.symm; omega)).trans (h.block b hb hF), fun b hb => .inl hb⟩
theorem OwnN.cell {w : World} {B : Nat} {v : Value} {l : List Nm} (h : OwnN w B v l) {k : Nat} {n : Nm} (hk : l[k]? = some n) : ∃ b c, v = .slice (some ⟨b, 0, none⟩) l.length c ∧ w.cell? ⟨b, k, none⟩ = some (strV n) := by
  obtain ⟨h1, h2⟩ := h
  have hkl : k < l.length := (List.getElem?_eq_some_iff.1 hk).1
  rcases h2 with ⟨rfl, h0⟩ | ⟨g, cap, cur, rfl, _, hb, h3, h4, h5, h6⟩
  · omega
  · refine ⟨g, cap, rfl, ?_⟩
    have e : (l.map strV)[k]? = some (strV n) := by rw [List.getElem?_map, hk]; rfl
    rw [← h6, List.getElem?_take] at e
    split at e
    · simp only [World.cell?, hb]; simpa using e
    · cases e
theorem info_file : (Tryz.prog.info? 77).map (fun i => (i.zero, i.size, i.bytes)) = some (some (.agg #[.string ⟨#[]⟩, .slice none 0 0]), 2, 40) := by kernel_rfl
theorem file_bytes (d : D) (n : Nm) (h : n ∈ d.list) : ∃ b, d.file n = some b := by
  cases e : d.file n with
  | none =>
    unfold D.file at e
    rw [Option.map_eq_none_iff, aLook_none_iff, ← list_mem] at e
    exact absurd h e
  | some b => exact ⟨b, rfl⟩
theorem file_le {d : D} (hw : d.Wf) {c : Nat} (hds : ∀ x ∈ d.ids, (d.node x).data.length ≤ c) {n : Nm} {b : List UInt8} (h : d.file n = some b) : b.length ≤ c := by
  unfold D.file at h
  obtain ⟨x, hx, rfl⟩ := Option.map_eq_some_iff.1 h
  exact hds x (hw.now _ (aLook_mem hx))

/-- what files answers -/
def FsIs (F : Nat → Prop) (a : Nat) (d : D) (w : World) (e : Ending) (w' : World) : Prop :=
  ∃ v rows, e = .returned v ∧ RowsAt w' w.heap.size v rows d.files ∧ DiskAt w' F a d ∧ Chg F F w w'

set_option maxRecDepth 100000 in
set_option maxHeartbeats 800000 in
theorem files_any (F : Nat → Prop) (a : Nat) (d : D) (w : World) (h : DiskAt w F a d) (hc : d.Calm) (hnl : d.now.length ≤ 32768) (hds : ∀ x ∈ d.ids, (d.node x).data.length ≤ 35184372088832) (hnm : ∀ p ∈ d.now, p.1.length ≤ maxLen) :
    Calls Tryz.prog 16 #[nodeV a] w (FsIs F a d w) := by
  have hlist := list_any F a d w h hnl
  have hlow := h.low
  have hll : d.list.length ≤ 32768 := by unfold D.list; simpa using hnl
  have hnm' : ∀ n ∈ d.list, n.length ≤ maxLen := by
    intro n hn
    rw [list_mem] at hn
    obtain ⟨p, hp, rfl⟩ := List.mem_map.1 hn
    exact hnm p hp
  obtain ⟨i0, hi, hz0, hz1, hz2⟩ := info_parts info_file
  have HL := Lib.hid hlist; have HD := Lib.hid h; have HLOW := Lib.hid hlow; have HDS := Lib.hid hds; have HNM := Lib.hid hnm'; have HC := Lib.hid hc; have HW := Lib.hid h.wf
  clear hlist h hlow hds hnm hnm' hc
  unfold nodeV at HL
  show Calls Tryz.prog 16 #[.pointer (some ⟨a, 0, none⟩)] w (FsIs F a d w)
  go_enter Tryz.func16, Tryz.ntmps16
  go_wp2_with fail
  refine HL.out.mono ?_
  rintro e w1 ⟨nv, rfl, hN, hE⟩
  have HN := Lib.hid hN; have HE := Lib.hid hE; clear hN hE HL
  go_wp2
  go_loopw [3, 5] (fun u i wr => ∃ (k : Nat) (rows : List (Nm × Value)), k ≤ d.list.length ∧ i = .int .i64 k ∧ RowsAt wr w.heap.size u rows (d.files.take k) ∧ OwnN wr w.heap.size nv d.list ∧ DiskAt wr F a d ∧ Chg F F w wr) (fun _ i _ => d.list.length - (intOf i).toNat)
  case atStart => exact ⟨0, [], Nat.zero_le _, rfl, RowsAt.nil _ _, HN.out, HD.out.ext HE.out, Chg.ext HE.out⟩
  case round =>
    obtain ⟨k, rows, hk, rfl, hR, hNr, hD, hC⟩ := hrel
    obtain ⟨na, nc, hnv⟩ := ownsRow_form hNr
    obtain ⟨ua, uc, hu⟩ := ownsRow_form hR.1
    have hrl : rows.length ≤ 32768 := by have := hR.2.1; rw [List.length_take] at this; omega
    by_cases hlt : k < d.list.length
    · obtain ⟨nm, hm⟩ : ∃ nm, d.list[k]? = some nm := ⟨_, List.getElem?_eq_getElem hlt⟩
      have hmem : nm ∈ d.list := List.mem_of_getElem? hm
      obtain ⟨fb, hfb⟩ := file_bytes d nm hmem
      have hfl := file_le HW.out HDS.out hfb
      obtain ⟨nb, nc', hnv', hcell⟩ := hNr.cell hm
      have hsize := size_any F a d nm wr hD (HNM.out nm hmem)
      rw [HC.out.size, hfb] at hsize
      subst hnv'
      have hlow2 : ∀ b, F b → b < w.heap.size := HLOW.out
      have hkeep : ∀ (x y : World), Chg F F x y → ∀ b, w.heap.size ≤ b → b < x.heap.size → y.heap[b]? = x.heap[b]? := fun x y hxy b hb hbx => hxy.block b hbx (fun hF => by have := hlow2 b hF; omega)
      have HS := Lib.hid hsize; have HR := Lib.hid hR; have HNR := Lib.hid hNr; have HCC := Lib.hid hC; have HFB := Lib.hid hfb; have HK := Lib.hid hkeep; have HM := Lib.hid hm; have HNM2 := Lib.hid (HNM.out nm hmem)
      clear hsize hR hNr hD hC hfb hkeep hm hnv hlow2
      unfold strV at hcell
      unfold nodeV strV at HS
      subst hu
      go_wp2_with fail
      refine HS.out.mono ?_
      rintro e w2 ⟨v2, rfl, _, hD2, hC2⟩
      have hR2 := HR.out.keep (HK.out _ _ hC2)
      have hN2 := HNR.out.keep (HK.out _ _ hC2)
      have hrd := readAt_any F a d nm 0 (fb.length : Int) w2 hD2 HNM2.out (by omega) (by omega) (fun x hx => Nat.le_trans (HDS.out x hx) (by omega))
      rw [HC.out.readAt, HFB.out] at hrd
      simp only [part_all] at hrd
      obtain ⟨nb2, nc2, hnv2, hcell2⟩ := hN2.cell HM.out
      injection hnv2 with e1 e2 e3
      injection e1 with e1
      injection e1 with e1
      subst e1; subst e3
      have HRD := Lib.hid hrd; have HC2 := Lib.hid (HCC.out.trans hC2); have HR2 := Lib.hid hR2; have HN2 := Lib.hid hN2
      clear hrd hC2 hR2 hN2 hcell e2 hD2 HR HNR HCC HS
      unfold strV at hcell2
      unfold nodeV strV at HRD
      go_wp2_with fail
      refine HRD.out.mono ?_
      rintro e w3 ⟨bv, v3, rfl, hB3, _, hD3, hC3⟩
      have hR3 := HR2.out.keep (HK.out _ _ hC3)
      have hN3 := HN2.out.keep (HK.out _ _ hC3)
      have hCC := HC2.out.trans hC3
      have hB3' : OwnB w3 w.heap.size bv fb := ownsRow_mono hB3 HC2.out.size
      obtain ⟨nb3, nc3, hnv3, hcell3⟩ := hN3.cell HM.out
      injection hnv3 with e1 e2 e3
      injection e1 with e1
      injection e1 with e1
      subst e1; subst e3
      have hrow := hR3.1
      obtain ⟨ba, bc, hbv⟩ := ownsRow_form hB3
      subst hbv
      have HR3 := Lib.hid hR3; have HN3 := Lib.hid hN3; have HC3 := Lib.hid hCC; have HB3 := Lib.hid hB3'; have HD3 := Lib.hid hD3
      clear hR3 hN3 hCC hC3 hB3 hB3' hD3 hcell2 e2 HR2 HN2 HC2 HRD
      unfold strV at hcell3
      have hE4 : Ext w3 (w3.alloc (.cells #[strV nm, Value.slice ba fb.length bc] 77)) := (Ext.refl w3).new _
      go_wp2_with (at_builtin; go_must (refine wpList_append_src rfl _ _ 40 rfl w.heap.size 77 i0 (.agg #[.string ⟨#[]⟩, .slice none 0 0]) 2 40 Tryz.underlying40 hi hz0 hz1 hz2 rfl (by omega) (.slice ua rows.length uc) rows.length _ rfl (hrow.alloc (.cells #[strV nm, Value.slice ba fb.length bc] 77)) (.slice (some ⟨w3.heap.size, 0, none⟩) 1 1) 1 [strV nm, Value.slice ba fb.length bc] rfl ⟨_, _, rfl, by omega, ⟨by omega, fun h => by cases h⟩, fun _ => ⟨_, rfl, World.news_of_block (cs := #[strV nm, Value.slice ba fb.length bc]) (t := 77) (fr := (0, 0)) (heap_alloc_new w3 _)⟩⟩ rfl (by simp [Value.oneCell', strV]) (by unfold maxLen; omega) (by omega) (by have := HC3.out.size; simp; omega) ?_); intro b6 c6 w6 hown6 hgrow6 hat6; have HO6 := Lib.hid hown6; have HG6 := Lib.hid hgrow6; clear hown6 hgrow6 hat6)
      go_roundw
      case rel =>
        have hkb : ∀ b, w.heap.size ≤ b → b < w3.heap.size → (Value.slice ua rows.length uc).ownBlock ≠ some b → w6.heap[b]? = w3.heap[b]? := fun b hb hb3 hne => (HG6.out.block b (by simp; omega) (fun e => hne e.symm)).trans (heap_alloc_old w3 _ hb3)
        have htk : d.files.take (k + 1) = d.files.take k ++ [(nm, fb)] := by
          have : d.files[k]? = some (nm, fb) := by
            unfold D.files
            rw [List.getElem?_map, HM.out]
            simp [HFB.out]
          rw [List.take_add_one, this]; rfl
        have hlen := HR3.out.2.1
        refine ⟨k + 1, rows ++ [(nm, Value.slice ba fb.length bc)], by omega, by go_num, ⟨?_, ?_, ?_⟩, ?_, ?_, ?_⟩
        · have := HO6.out
          rw [List.length_append, List.flatMap_append]
          simpa [fileCells] using this
        · rw [htk, List.length_append, List.length_append, hlen]; rfl
        · intro i p q hp hq
          rw [htk] at hq
          by_cases hi2 : i < rows.length
          · rw [List.getElem?_append_left hi2] at hp
            rw [List.getElem?_append_left (by omega)] at hq
            obtain ⟨h1, h2⟩ := HR3.out.2.2 i p q hp hq
            refine ⟨h1, Dep.row h2 w6 fun b hb => hkb b (World.ownsRow.lt h2 b hb).1 (World.ownsRow.lt h2 b hb).2 (rows_ne h2 HR3.out.1 (by decide) hb)⟩
          · rw [List.getElem?_append_right (by omega)] at hp
            rw [List.getElem?_append_right (by omega), ← hlen] at hq
            have e0 : i - rows.length = 0 := by
              rcases Nat.eq_zero_or_pos (i - rows.length) with e | e
              · exact e
              · rw [List.getElem?_eq_none (by simp; omega)] at hp; cases hp
            rw [e0] at hp hq
            simp at hp hq; subst hp; subst hq
            refine ⟨rfl, Dep.row HB3.out w6 fun b hb => hkb b (World.ownsRow.lt HB3.out b hb).1 (World.ownsRow.lt HB3.out b hb).2 (rows_ne HB3.out HR3.out.1 (by decide) hb)⟩
        · exact Dep.row HN3.out w6 fun b hb => hkb b (World.ownsRow.lt HN3.out b hb).1 (World.ownsRow.lt HN3.out b hb).2 (rows_ne HN3.out HR3.out.1 (by decide) hb)
        · exact HD3.out.frame (fun b hb => (HG6.out.block b (by have := HLOW.out b hb; have := HC3.out.size; simp; omega) (fun e => by have := (HR3.out.1.lt b e.symm).1; have := HLOW.out b hb; omega)).trans (heap_alloc_old w3 _ (by have := HLOW.out b hb; have := HC3.out.size; omega))) (by have := HG6.out.size; simp at this; omega)
        · exact (HC3.out.trans (Chg.ext hE4)).grown HG6.out fun b hb => (HR3.out.1.lt b hb).1
      case measure => simp [intOf]; omega
    · obtain rfl : k = d.list.length := by omega
      subst hu
      have hfin : FsIs F a d w (.returned (.slice ua rows.length uc)) wr := by
        refine ⟨.slice ua rows.length uc, rows, rfl, ?_, hD, hC⟩
        have : d.files.take d.list.length = d.files := by rw [List.take_of_length_le]; unfold D.files; simp
        rw [← this]; exact hR
      have HFIN := Lib.hid hfin
      subst hnv
      clear hfin hR hD hC hNr
      go_wp2
      go_ret
      exact HFIN.out
end Go.Proofs.YtgpbhjjajpbeeaaGreatDoor
/-
  The walks of keydirref.Find, In, Name, IsName.
-/
namespace Go.Proofs.YtgpbhjjajpbeeaaGreatDoor
open Go.RowKit Go.Lib Go.Maps Dk Pl

/-- what Find answers -/
def FindB (l : Fl) (name : Nm) (w : World) (e : Ending) (w' : World) : Prop :=
  w' = w ∧ ∃ v, e = .returned (.tuple #[v, .bool (aLook l name).isSome]) ∧ Bytes w v ((aLook l name).getD [])
theorem aLook_take_snoc {l : Fl} {k : Nat} {q : Nm × List UInt8} {name : Nm} (h : aLook (l.take k) name = none) (hq : l[k]? = some q) (hne : q.1 ≠ name) : aLook (l.take (k + 1)) name = none := by
  rw [List.take_add_one, hq]
  show aLook (l.take k ++ [q]) name = none
  rw [aLook_append, h, aLook_cons, if_neg hne]; rfl
theorem aLook_hit {l : Fl} {k : Nat} {q : Nm × List UInt8} {name : Nm} (h : aLook (l.take k) name = none) (hq : l[k]? = some q) (he : q.1 = name) : aLook l name = some q.2 := by
  have hk : k < l.length := (List.getElem?_eq_some_iff.1 hq).1
  have e : l = l.take k ++ (q :: l.drop (k + 1)) := by
    have h2 := (List.getElem?_eq_some_iff.1 hq).2
    rw [← h2, ← List.drop_eq_getElem_cons hk, List.take_append_drop]
  rw [e, aLook_append, h, aLook_cons, if_pos he]; rfl

set_option maxRecDepth 100000 in
set_option maxHeartbeats 800000 in
theorem findB_any (v : Value) (l : Fl) (name : Nm) (w : World) (h : FilesIs w v l) :
    Calls Tryz.prog 31 #[v, strV name] w (FindB l name w) := by
  obtain ⟨a, cap, rows, rfl, hc, hc', hrl, hcell, hby⟩ := h
  have HC := Lib.hid hcell; have HB := Lib.hid hby; clear hcell hby
  unfold strV
  go_enter Tryz.func31, Tryz.ntmps31
  go_wp2
  go_loopw [6] (fun i wr => ∃ k : Nat, k ≤ l.length ∧ i = .int .i64 k ∧ aLook (l.take k) name = none ∧ wr = w) (fun i _ => l.length - (intOf i).toNat)
  case atStart => exact ⟨0, Nat.zero_le _, rfl, by simp [aLook], rfl⟩
  case round =>
    obtain ⟨k, hk, rfl, hno, rfl⟩ := hrel
    by_cases hlt : k < l.length
    · obtain ⟨q, hq⟩ : ∃ q, l[k]? = some q := ⟨_, List.getElem?_eq_getElem hlt⟩
      obtain ⟨p, hp⟩ : ∃ p, rows[k]? = some p := ⟨_, List.getElem?_eq_getElem (by omega)⟩
      obtain ⟨g, rfl, c0, c1⟩ := HC.out k p hp
      obtain ⟨he, hb⟩ := HB.out k p q hp hq
      have HNO := Lib.hid hno; have HQ := Lib.hid hq; have HBB := Lib.hid hb; have HE := Lib.hid he
      clear hno hq hb hp he
      unfold strV at c0
      by_cases hnm : p.1 = name
      · have hx : (p.1 == name) = true := beq_iff_eq.2 hnm
        have hfin : FindB l name wr (.returned (.tuple #[p.2, .bool true])) wr := by
          have e := aLook_hit HNO.out HQ.out (HE.out.symm.trans hnm)
          exact ⟨rfl, p.2, by rw [e]; rfl, by rw [e]; exact HBB.out⟩
        have HF := Lib.hid hfin; clear hfin hnm
        go_wp2
        go_ret2
        exact HF.out
      · have hx : (p.1 == name) = false := beq_eq_false_iff_ne.2 hnm
        have HX := Lib.hid hnm; clear hnm
        go_wp2
        go_roundw
        case rel => exact ⟨k + 1, by omega, by go_num, aLook_take_snoc HNO.out HQ.out (fun e => HX.out (HE.out.trans e)), by trivial⟩
        case measure => simp [intOf]; omega
    · obtain rfl : k = l.length := by omega
      have hfin : FindB l name wr (.returned (.tuple #[.slice none 0 0, .bool false])) wr := by
        rw [List.take_length] at hno
        exact ⟨rfl, _, by rw [hno]; rfl, by rw [hno]; exact ⟨none, 0, rfl, Nat.le_refl _, ⟨by omega, fun _ => rfl⟩, fun h => absurd rfl h⟩⟩
      have HF := Lib.hid hfin; clear hfin hno
      go_wp2
      go_ret2
      exact HF.out

set_option maxRecDepth 100000 in
set_option maxHeartbeats 800000 in
theorem in_any (v : Value) (l : List Int) (x : Int) (w : World) (h : Ints w v l) :
    Calls Tryz.prog 51 #[v, .int .i64 x] w fun e w' => e = .returned (.bool (decide (x ∈ l))) ∧ w' = w := by
  obtain ⟨a, cap, rfl, hc, hc', hcell⟩ := h
  have hat : ∀ k, (hk : k < l.length) → ∃ b, a = some b ∧ w.cell? (b.add k) = some (.int .i64 l[k]) := by
    intro k hk
    obtain ⟨b, rfl, hb⟩ := hcell (fun e => by simp at e; subst e; simp at hk)
    exact ⟨b, rfl, hb k _ (by simp [hk])⟩
  have HA := Lib.hid hat; clear hat hcell
  go_enter Tryz.func51, Tryz.ntmps51
  go_wp2
  go_loopw [5] (fun i wr => ∃ k : Nat, k ≤ l.length ∧ i = .int .i64 k ∧ x ∉ l.take k ∧ wr = w) (fun i _ => l.length - (intOf i).toNat)
  case atStart => exact ⟨0, Nat.zero_le _, rfl, by simp, rfl⟩
  case round =>
    obtain ⟨k, hk, rfl, hno, rfl⟩ := hrel
    by_cases hlt : k < l.length
    · obtain ⟨b, rfl, c0⟩ := HA.out k hlt
      have HNO := Lib.hid hno; clear hno
      by_cases hx : l[k] = x
      · have hx' : (l[k] == x) = true := beq_iff_eq.2 hx
        have hd : decide (x ∈ l) = true := decide_eq_true (hx ▸ List.getElem_mem hlt)
        have HD := Lib.hid hd; clear hd
        clear hx
        go_wp2
        go_ret
        exact ⟨by rw [HD.out]; rfl, rfl⟩
      · have hx' : (l[k] == x) = false := beq_eq_false_iff_ne.2 hx
        have HX := Lib.hid hx; clear hx
        go_wp2
        go_roundw
        case rel =>
          refine ⟨k + 1, by omega, by go_num, ?_, by trivial⟩
          rw [take_snoc l k hlt, List.mem_append]
          rintro (h | h)
          · exact HNO.out h
          · simp at h; exact HX.out h.symm
        case measure => simp [intOf]; omega
    · obtain rfl : k = l.length := by omega
      rw [List.take_length] at hno
      have hd : decide (x ∈ l) = false := decide_eq_false hno
      have HD := Lib.hid hd; clear hd hno
      go_wp2
      go_ret
      exact ⟨by rw [HD.out]; rfl, rfl⟩
end Go.Proofs.YtgpbhjjajpbeeaaGreatDoor
