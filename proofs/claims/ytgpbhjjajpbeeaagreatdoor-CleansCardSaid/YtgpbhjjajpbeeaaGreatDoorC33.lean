/-
  The walk of keydir.Clean, where nothing fails.
-/
import Derived.Test.YtgpbhjjajpbeeaaGreatDoorC32
import Derived.Test.YtgpbhjjajpbeeaaGreatDoorC27
import Derived.Deep.RegionLaw
import Derived.Deep.AppendLies
set_option linter.unusedSimpArgs false
set_option linter.unusedVariables false
set_option linter.unnecessarySimpa false
namespace Go.Proofs.YtgpbhjjajpbeeaaGreatDoor
open Go.RowKit Go.Lib Go.Maps Dk Pl

theorem idsIn_of {l : List UInt8} {g : Nat} {ids : List Int} (h : readMan l = some (g, ids)) : IdsIn ids := by
  unfold readMan at h
  split at h
  · rename_i hg
    injection h with h
    injection h with _ h
    unfold manGood at hg
    simp only [Bool.and_eq_true] at hg
    have hi := hg.2.2.2
    rw [h] at hi
    unfold idsOK at hi
    simp only [Bool.and_eq_true, decide_eq_true_eq, List.all_eq_true] at hi
    refine ⟨hi.1, fun x hx => ?_⟩
    have := hi.2.1 x hx
    unfold inRange at this
    simpa using this
  · cases h
/-- what Clean answers and leaves, where nothing fails -/
def KCleanIs (F : Nat → Prop) (a : Nat) (r : Er × D) (w : World) (e : Ending) (w' : World) : Prop :=
  ∃ v F', e = .returned v ∧ ((r.1 = .ok ∧ v = .nilIface) ∨ ∃ n : Int, r.1 = .num n ∧ v = errV n) ∧ DiskAt w' F' a r.2 ∧ Chg F F' w w' ∧ ∀ b, F b → F' b

set_option maxRecDepth 100000 in
set_option maxHeartbeats 1600000 in
theorem kclean_any (F : Nat → Prop) (a : Nat) (d : D) (w : World) (h : DiskAt w F a d) (hc : d.Calm) (hnd : (d.now.map (·.1)).Nodup) (hl : Held w F LaidP) (hnl : d.now.length ≤ 32768)
    (hml : d.moves.length ≤ 900000) (hms : ∀ l ∈ d.moves, l.length ≤ 1000000 ∧ ∀ m ∈ l, m.1.length ≤ maxLen) (hnm : ∀ p ∈ d.now, p.1.length ≤ 1000000) (hds : ∀ x ∈ d.ids, (d.node x).data.length ≤ 35184372088832) :
    Calls Tryz.prog 33 #[nodeV a] w (KCleanIs F a d.clean w) := by
  have hrd := kreadMan_any F a d w h hc hds
  have hlow := h.low
  have hrm := hc.readMan
  have HR := Lib.hid hrd; have HL := Lib.hid hl; have HLOW := Lib.hid hlow; have HRM := Lib.hid hrm
  clear hrd hl hlow hrm h
  unfold nodeV at HR
  show Calls Tryz.prog 33 #[.pointer (some ⟨a, 0, none⟩)] w (KCleanIs F a d.clean w)
  go_enter Tryz.func33, Tryz.ntmps33
  go_wp2_with fail
  refine HR.out.mono ?_
  rintro e w1 ⟨g, v, y, rfl, hD, hC, hcase⟩
  have hE2 : Ext w1 (w1.alloc (.cells #[.int .u64 g, v] 125)) := (Ext.refl w1).new _
  have HE2 := Lib.hid hE2; have HCC := Lib.hid hcase; have HD := Lib.hid hD; have HC := Lib.hid hC
  clear hE2 hcase hD hC
  cases hf : d.file bManifest with
  | none =>
    have hrm := HRM.out
    rw [hf] at hrm
    dsimp only at hrm
    rcases HCC.out with ⟨-, rfl, rfl, -, hy⟩ | ⟨gen, ids, hso, -⟩
    · have hcl : d.clean = (.num 5, d) := by unfold D.clean; rw [hrm]
      rw [hrm] at hy
      obtain rfl : y = errV 5 := hy.get
      have hfin : KCleanIs F a d.clean w (.returned (errV 5)) _ := ⟨errV 5, F, rfl, .inr ⟨5, by rw [hcl], rfl⟩, by rw [hcl]; exact (by have := HD.out; rw [hrm] at this; exact this.ext HE2.out), HC.out.trans (Chg.ext HE2.out), fun b hb => hb⟩
      have HF := Lib.hid hfin; clear hfin hy hrm hcl
      unfold errV at *
      go_wp2
      go_ret
      exact HF.out
    · rw [hrm] at hso; cases hso
  | some bs =>
    have hrm := HRM.out
    rw [hf] at hrm
    dsimp only at hrm
    rcases HCC.out with ⟨hno, rfl, rfl, -, hy⟩ | ⟨gen, ids, hso, -, rfl, rfl, hown⟩
    · cases hk : readMan bs with
      | some r => rw [hk] at hrm; dsimp only at hrm; rw [hrm] at hno; cases hno
      | none =>
        rw [hk] at hrm
        dsimp only at hrm
        have hcl : d.clean = (.num 6, d) := by unfold D.clean; rw [hrm]
        rw [hrm] at hy
        obtain rfl : y = errV 6 := hy.get
        have hfin : KCleanIs F a d.clean w (.returned (errV 6)) _ := ⟨errV 6, F, rfl, .inr ⟨6, by rw [hcl], rfl⟩, by rw [hcl]; exact (by have := HD.out; rw [hrm] at this; exact this.ext HE2.out), HC.out.trans (Chg.ext HE2.out), fun b hb => hb⟩
        have HF := Lib.hid hfin; clear hfin hy hrm hcl hno
        unfold errV at *
        go_wp2
        go_ret
        exact HF.out
    · cases hk : readMan bs with
      | none => rw [hk] at hrm; dsimp only at hrm; rw [hrm] at hso; cases hso
      | some r =>
        rw [hk] at hrm
        dsimp only at hrm
        rw [hrm] at hso
        injection hso with hso; subst hso
        have hcl : d.clean = d.sweep ids := by unfold D.clean; rw [hrm]
        have hD2 : DiskAt w1 F a d := by have := HD.out; rw [hrm] at this; exact this
        have hw0 : w.heap.size ≤ w1.heap.size := HC.out.size
        obtain ⟨ia, ic, hv⟩ := ownsRow_form hown
        subst hv
        have hFlow := HLOW.out
        have hints : Held w1 F (fun W => Ints W (.slice ia ids.length ic) ids) := (Held.of (Dep.row hown) fun b hb => ⟨(World.ownsRow.lt hown b hb).2, fun hF => by
          have := (World.ownsRow.lt hown b hb).1; have := hFlow b hF; omega⟩).mono fun W hW => OwnI.ints hW
        have hl1 := (HL.out.step HC.out).get
        have hsw := sweep_any F a d ids (.slice ia ids.length ic) _ (hD2.ext HE2.out) hc hnd (hints.ext HE2.out) (idsIn_of hk) (hl1.ext HE2.out) hnl hml hms hnm
        rw [← hcl] at hsw
        have HS := Lib.hid hsw; clear hsw hints hl1 hFlow hD2 hrm hown hk hf
        have hok : d.clean.1 = .ok := by
          rw [hcl]; have := hc.sw hnd ids d.list.length; rw [swept_all hc hnd ids, this.calm.syncDir]
        have HOK := Lib.hid hok; clear hok
        unfold nodeV at HS
        go_wp2_with fail
        refine HS.out.mono ?_
        rintro e w2 ⟨rfl, F', hD3, hC3, hF3⟩
        have hfin : KCleanIs F a d.clean w (.returned .nilIface) w2 := ⟨.nilIface, F', rfl, .inl ⟨HOK.out, rfl⟩, hD3, (HC.out.trans (Chg.ext HE2.out)).trans hC3, hF3⟩
        have HF := Lib.hid hfin; clear hfin hD3 hC3 hF3
        go_wp2
        go_ret
        exact HF.out
end Go.Proofs.YtgpbhjjajpbeeaaGreatDoor
/-
  The walk of keydirlaw.cleaned, where it is so.
-/
namespace Go.Proofs.YtgpbhjjajpbeeaaGreatDoor
open Go.RowKit Go.Lib Go.Maps Dk Pl

def segCells (x : Int) : List Value := [.int .i64 x, .slice none 0 0, .int .i64 0]
/-- the store being built -/
def StOwn (w : World) (B b : Nat) (ids : List Int) (v : Value) : Prop := BoxAt w b 50 #[.int .u64 0, v] ∧ w.ownsRow B 54 3 v ids.length (ids.flatMap segCells)
theorem flat3_at (ids : List Int) (i : Nat) (x : Int) (h : ids[i]? = some x) (j : Nat) (hj : j < 3) : (ids.flatMap segCells)[3 * i + j]? = (segCells x)[j]? := by
  induction ids generalizing i with
  | nil => simp at h
  | cons y l ih =>
    rw [List.flatMap_cons]
    cases i with
    | zero =>
      simp at h; subst h
      rw [List.getElem?_append_left (by simp [segCells]; omega)]; simp
    | succ i =>
      simp at h
      rw [List.getElem?_append_right (by simp [segCells]; omega), show 3 * (i + 1) + j - (segCells y).length = 3 * i + j by simp [segCells]; omega]
      exact ih i h
theorem StOwn.ids {w : World} {B b : Nat} {ids : List Int} {v : Value} (h : StOwn w B b ids v) (hl : ids.length ≤ 1000) : StIds w b ids := by
  obtain ⟨h1, h2⟩ := h
  have hm : maxLen ≤ 9223372036854775807 := by unfold maxLen; omega
  rcases h2.2 with ⟨rfl, h0⟩ | ⟨g, cap, cur, rfl, _, hb, h4, h5, h6, h7⟩
  · refine ⟨0, none, 0, by rw [h0]; exact h1, by omega, by omega, fun i x hx => ?_⟩
    have := (List.getElem?_eq_some_iff.1 hx).1
    omega
  · refine ⟨0, some ⟨g, 0, none⟩, cap, h1, by omega, by omega, fun i x hx => ⟨g, rfl, ?_⟩⟩
    have e := flat3_at ids i x hx 0 (by omega)
    rw [← h7, List.getElem?_take] at e
    split at e
    · simp only [World.cell?, hb]; rw [show i * 3 = 3 * i + 0 by omega]; simpa [segCells] using e
    · simp [segCells] at e
theorem info_seg : (Tryz.prog.info? 54).map (fun i => (i.zero, i.size, i.bytes)) = some (some (.agg #[.int .i64 0, .slice none 0 0, .int .i64 0]), 3, 40) := by kernel_rfl

set_option maxRecDepth 100000 in
set_option maxHeartbeats 1600000 in
theorem cleaned_any (v u x : Value) (old now : Fl) (ids : List Int) (w : World) (h : FilesIs w v old) (h' : FilesIs w u now) (hx : Ints w x ids) (hi : IdsIn ids) (hn : ∀ p ∈ old, p.1.length ≤ 1000000) (hn' : ∀ p ∈ now, p.1.length ≤ 1000000) (hc : cleanedB old now ids = true) :
    Calls Tryz.prog 35 #[v, u, x] w fun e w' => e = .returned (.bool true) ∧ Ext w w' := by
  obtain ⟨va, vc, rfl, hv1, hv2⟩ := h.form
  obtain ⟨ua, uc, rfl, hu1, hu2⟩ := h'.form
  obtain ⟨xa, xc, rfl, hxc, hxc', hxcell⟩ := id hx
  obtain ⟨i0, hi0, hz0, hz1, hz2⟩ := info_parts info_seg
  have hall : (old.all fun p => !(decide (p.1 = bManifest) || listedB ids p.1) || decide (aLook now p.1 = some p.2)) = true ∧ tidyB now ids = true := by
    unfold cleanedB at hc; rw [Bool.and_eq_true] at hc; exact hc
  have H := Lib.hid h; have H' := Lib.hid h'; have HI := Lib.hid hi; have HN := Lib.hid hn; have HN' := Lib.hid hn'; have HC := Lib.hid hall; have HX := Lib.hid hx
  have hil := hi.1
  clear h h' hi hn hn' hc hall hxcell hx
  go_enter Tryz.func35, Tryz.ntmps35
  go_wp2
  have hbox0 : BoxAt (w.alloc (.cells #[.int .u64 0, .slice none 0 0] 50)) w.heap.size 50 #[.int .u64 0, .slice none 0 0] := BoxAt.new _ _ rfl
  go_loopw [8] (fun i wr => ∃ (k : Nat) (sv : Value), k ≤ ids.length ∧ i = .int .i64 k ∧ StOwn wr (w.heap.size + 1) w.heap.size (ids.take k) sv ∧ Ext w wr) (fun i _ => ids.length - (intOf i).toNat)
  case atStart => exact ⟨0, .slice none 0 0, by omega, rfl, ⟨hbox0, rfl, Or.inl ⟨rfl, rfl⟩⟩, (Ext.refl w).new _⟩
  case round =>
    obtain ⟨k, sv, hk, rfl, hS, hE⟩ := hrel
    by_cases hlt : k < ids.length
    · obtain ⟨sa, sc, hsv⟩ := ownsRow_form hS.2
      have hlk : (ids.take k).length = k := by rw [List.length_take]; omega
      rw [hlk] at hsv
      subst hsv
      obtain ⟨xb, rfl, xcell⟩ := HX.out.at hE hlt
      obtain ⟨y, hy⟩ : ∃ y, ids[k] = y := ⟨_, rfl⟩
      rw [hy] at xcell
      have hEd : Ext wr wr.drew := Below.drew (Ext.refl wr)
      have hb1 := hS.1
      have hown : wr.ownsRow (w.heap.size + 1) 54 3 (.slice sa k sc) k ((ids.take k).flatMap segCells) := by have := hS.2; rw [hlk] at this; exact this
      have hodF := hown.alloc (.cells #[.int .i64 y, .slice none 0 0, .int .i64 0] 54)
      have m0 := (hb1.cell 1).trans (show _ = some (Value.slice sa k sc) from rfl)
      have mf0 := hb1.free 1
      have hod : (wr.drew.alloc (.cells #[.int .i64 y, .slice none 0 0, .int .i64 0] 54)).ownsRow (w.heap.size + 1) 54 3 (.slice sa k sc) k ((ids.take k).flatMap segCells) := hodF
      have hbF : BoxAt (wr.drew.alloc (.cells #[.int .i64 y, .slice none 0 0, .int .i64 0] 54)) w.heap.size 50 #[.int .u64 0, .slice sa k sc] := BoxAt.alloc (w := wr.drew) hb1 _
      have hne : (Value.slice sa k sc).ownBlock ≠ some w.heap.size := row_box_ne hown hb1 (by decide)
      have HS := Lib.hid hS; have HE := Lib.hid hE; have HY := Lib.hid hy; have HBF := Lib.hid hbF; have HNE := Lib.hid hne; have HOW := Lib.hid hown; have HLK := Lib.hid hlk
      have hE1 := hE.size
      have hlt0 : w.heap.size < wr.heap.size := hb1.lt
      have hk60 : k ≤ 60 := by omega
      clear hS hE hy hb1 hodF hbF hne hown hlk
      go_wp2_with fail
      go_region_law (refine step_append_lies _ (by rfl) _ _ _ (by rfl) (w.heap.size + 1) 54 i0 (.agg #[.int .i64 0, .slice none 0 0, .int .i64 0]) 3 40 Tryz.underlying48 hi0 hz0 hz1 hz2 rfl (by omega) (.slice sa k sc) k _ (by rfl) hod ⟨wr.heap.size, 0, none⟩ 1 1 [.int .i64 y, .slice none 0 0, .int .i64 0] (by rfl) (by rfl) (World.news_of_block (cs := #[.int .i64 y, .slice none 0 0, .int .i64 0]) (t := 54) (fr := (0, 0)) (heap_alloc_new wr.drew _)) (by simp [Value.oneCell']) (by omega) (by unfold maxLen; omega) (by omega) (by simp; omega) (wr.heap.size + 1) (by simp) ?_; intro gg cap6 w6 hown6 hgrow6 hat6 hlt6; have hb6 := HBF.out.grown' hgrow6 HNE.out; have m6 := (hb6.cell 1).trans (show _ = some (Value.slice sa k sc) from rfl); have mf6 := hb6.free 1; have HB6 := Lib.hid hb6; have HO6 := Lib.hid hown6; have HG6 := Lib.hid hgrow6; clear hb6 hown6 hgrow6)
      all_goals
        go_wp2
        go_roundw
        case rel =>
          have hEa : Ext w (wr.drew.alloc (.cells #[.int .i64 y, .slice none 0 0, .int .i64 0] 54)) := (Ext.trans HE.out (Below.drew (Ext.refl wr))).new _
          have htk : ids.take (k + 1) = ids.take k ++ [y] := by rw [take_snoc ids k hlt, HY.out]
          have hne6 : (Value.slice (some ⟨gg, 0, none⟩) (k + 1) cap6).ownBlock ≠ some w.heap.size := row_box_ne HO6.out HB6.out (by decide)
          refine ⟨k + 1, _, by omega, by go_num, ⟨by simpa using HB6.out.set 1 _, ?_⟩, ?_⟩
          · have := ownsRow_setCell_other (a := ⟨w.heap.size, 1, none⟩) HO6.out hne6 (.slice (some ⟨gg, 0, none⟩) (k + 1) cap6)
            have e : (ids.take (k + 1)).length = k + 1 := by rw [List.length_take]; omega
            rw [e, htk, List.flatMap_append]
            simpa [segCells] using this
          · refine Ext.setN ?_ (by simp)
            exact Below.grown hEa HG6.out (by simp; omega) (fun j hj => by have := (HOW.out.lt j hj).1; omega)
        case measure => simp [intOf]; omega
    · obtain rfl : k = ids.length := by omega
      rw [List.take_length] at hS
      have hSI := hS.ids (by omega)
      have htd := tidy_any _ now w.heap.size ids wr (H'.out.ext hE) hSI HI.out HN'.out HC.out.2
      have HTD := Lib.hid htd; have HE := Lib.hid hE
      clear htd hE hS hSI
      go_wp2_with fail
      refine HTD.out.mono ?_
      rintro e w1 ⟨rfl, hE1⟩
      have HE1 := Lib.hid (Ext.trans HE.out hE1); clear hE1
      go_wp2
      go_loopw [10] (fun i wr => ∃ k : Nat, k ≤ old.length ∧ i = .int .i64 k ∧ Ext w wr) (fun i _ => old.length - (intOf i).toNat)
      case atStart => exact ⟨0, by omega, rfl, HE1.out⟩
      case round =>
        obtain ⟨j, hj, rfl, hE2⟩ := hrel
        by_cases hlt2 : j < old.length
        · obtain ⟨q, hq⟩ : ∃ q, old[j]? = some q := ⟨_, List.getElem?_eq_getElem hlt2⟩
          have hqm := List.mem_of_getElem? hq
          obtain ⟨g, bv, rfl, c0, c1, hb⟩ := (H.out.ext hE2).at hq
          have hti := HC.out.1
          rw [List.all_eq_true] at hti
          have hti := hti q hqm
          have HTI := Lib.hid hti; have HE2 := Lib.hid hE2; have HBV := Lib.hid hb; have HQ := Lib.hid hq
          clear hti hE2 hb hq hqm
          unfold strV at c0
          go_wp2
          go_loopw [12, 13] (fun x i wq => ∃ m : Nat, m ≤ ids.length ∧ i = .int .i64 m ∧ x = .bool ((q.1 == [109, 97, 110, 105, 102, 101, 115, 116]) || listedB (ids.take m) q.1) ∧ Ext w wq) (fun _ i _ => ids.length - (intOf i).toNat)
          case atStart => exact ⟨0, by omega, rfl, by simp [listedB], HE2.out⟩
          case round =>
            obtain ⟨m, hm, rfl, rfl, hE3⟩ := hrel
            by_cases hml : m < ids.length
            · obtain ⟨xb, rfl, xcell⟩ := HX.out.at hE3 hml
              have hr := HI.out.2 ids[m] (List.getElem_mem hml)
              obtain ⟨y, hy⟩ : ∃ y : Nat, ids[m] = (y : Int) := ⟨ids[m].toNat, by omega⟩
              rw [hy] at xcell hr
              have hnm := refName_any bData y wr (by simp [bData]) (by omega)
              have hsn := listedB_snoc ids m hml q.1
              rw [hy] at hsn
              have HE3 := Lib.hid hE3; have HNA := Lib.hid hnm; have HSN := Lib.hid hsn
              clear hE3 hnm hsn c0 c1
              unfold strV at HNA
              unfold bData at HNA
              go_wp2_with fail
              refine HNA.out.mono ?_
              rintro e w2 ⟨rfl, hE4⟩
              have HE4 := Lib.hid (Ext.trans HE3.out hE4); clear hE4
              obtain ⟨nm, hnm⟩ : ∃ nm, segName [100, 97, 116, 97, 45] y = nm := ⟨_, rfl⟩
              rw [hnm]
              have HNM2 := Lib.hid hnm; clear hnm
              cases hx : (q.1 == [109, 97, 110, 105, 102, 101, 115, 116]) || listedB (ids.take m) q.1 with
              | true =>
                go_wp2
                go_roundw
                case rel => exact ⟨m + 1, by omega, by go_num, by rw [HSN.out, ← Bool.or_assoc, hx]; rfl, HE4.out⟩
                case measure => simp [intOf]; omega
              | false =>
                have hsn2 : ((q.1 == [109, 97, 110, 105, 102, 101, 115, 116]) || listedB (ids.take (m + 1)) q.1) = (nm == q.1) := by
                  rw [HSN.out, ← Bool.or_assoc, hx, Int.toNat_natCast]
                  show (false || decide (segName [100, 97, 116, 97, 45] y = q.1)) = _
                  rw [HNM2.out, Bool.false_or]; by_cases h : nm = q.1 <;> simp [h]
                have HSN2 := Lib.hid hsn2; clear hsn2
                go_wp2
                go_roundw
                case rel => exact ⟨m + 1, by omega, by go_num, by rw [HSN2.out], HE4.out⟩
                case measure => simp [intOf]; omega
            · obtain rfl : m = ids.length := by omega
              rw [List.take_length]
              obtain ⟨g', bv', hg', d0, d1, hb'⟩ := (H.out.ext hE3).at HQ.out
              injection hg' with hg'
              injection hg' with hg'
              subst hg'
              have hfd := findB_any _ now q.1 wr (H'.out.ext hE3)
              have hkeep : ((q.1 == [109, 97, 110, 105, 102, 101, 115, 116]) || listedB ids q.1) = true → aLook now q.1 = some q.2 := by
                intro hk
                have h1 := HTI.out
                have h2 : (decide (q.1 = bManifest) || listedB ids q.1) = true := by
                  rw [← hk]; congr 1
                  by_cases h : q.1 = bManifest
                  · rw [decide_eq_true h, h]; rfl
                  · rw [decide_eq_false h]; exact (beq_eq_false_iff_ne.2 h).symm
                rw [h2] at h1
                simpa using h1
              have HFD := Lib.hid hfd; have HKP := Lib.hid hkeep; have HB2 := Lib.hid hb'; have HE3 := Lib.hid hE3
              clear hfd hkeep hb' hE3 c0 c1
              unfold strV at HFD d0
              go_wp2_with fail
              refine HFD.out.mono ?_
              rintro e w2 ⟨rfl, fv, rfl, hfb⟩
              have hsm := same_any fv bv' _ q.2 w2 hfb HB2.out
              have HSM := Lib.hid hsm; clear hsm hfb
              go_wp2_with fail
              refine HSM.out.mono ?_
              rintro e w3 ⟨rfl, n3, hn3⟩
              have hE5 : Ext w w3 := Ext.trans HE3.out (hn3 ▸ Ext.drewN w2 n3)
              have HE5 := Lib.hid hE5; clear hE5 hn3 d0 d1
              cases hk : (q.1 == [109, 97, 110, 105, 102, 101, 115, 116]) || listedB ids q.1 with
              | false =>
                go_wp2
                go_roundw
                case rel => exact ⟨j + 1, by omega, by go_num, HE5.out⟩
                case measure => simp [intOf]; omega
              | true =>
                have hl := HKP.out hk
                rw [hl]
                simp only [Option.isSome_some, Option.getD_some]
                clear hk hl
                go_wp2
                go_roundw
                case rel => exact ⟨j + 1, by omega, by go_num, HE5.out⟩
                case measure => simp [intOf]; omega
        · have HE2 := Lib.hid hE2; clear hE2
          go_wp2
          go_ret
          exact ⟨rfl, HE2.out⟩
end Go.Proofs.YtgpbhjjajpbeeaaGreatDoor
