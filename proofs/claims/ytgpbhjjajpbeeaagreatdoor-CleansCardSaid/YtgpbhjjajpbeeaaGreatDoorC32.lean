/-
  The walk of keydirlaw.tidy, where it is so.
-/
import Derived.Test.YtgpbhjjajpbeeaaGreatDoorC31
import Derived.Test.YtgpbhjjajpbeeaaGreatDoorC29
import Derived.Test.YtgpbhjjajpbeeaaGreatDoorC30
import Derived.Test.YtgpbhjjajpbeeaaGreatDoorC22
import Derived.Test.YtgpbhjjajpbeeaaGreatDoorC27
set_option linter.unusedSimpArgs false
set_option linter.unusedVariables false
set_option linter.unnecessarySimpa false
namespace Go.Proofs.YtgpbhjjajpbeeaaGreatDoor
open Go.RowKit Go.Lib Go.Maps Dk Pl

theorem FilesIs.ext {w w' : World} {v : Value} {l : Fl} (h : FilesIs w v l) (hE : Ext w w') : FilesIs w' v l := by
  obtain ⟨a, cap, rows, rfl, h1, h2, h3, h4, h5⟩ := h
  refine ⟨a, cap, rows, rfl, h1, h2, h3, fun i p hp => ?_, fun i p q hp hq => ⟨(h5 i p q hp hq).1, (h5 i p q hp hq).2.ext hE⟩⟩
  obtain ⟨g, hg, c0, c1⟩ := h4 i p hp
  exact ⟨g, hg, hE.cell c0, hE.cell c1⟩
theorem FilesIs.at {w : World} {a : Option Addr} {cap : Nat} {l : Fl} (h : FilesIs w (.slice a l.length cap) l) {k : Nat} {q : Nm × List UInt8} (hq : l[k]? = some q) :
    ∃ g bv, a = some ⟨g, 0, none⟩ ∧ w.cell? ⟨g, k * 2, none⟩ = some (strV q.1) ∧ w.cell? ⟨g, k * 2 + 1, none⟩ = some bv ∧ Bytes w bv q.2 := by
  obtain ⟨a1, c1, r1, e1, -, -, l1, cell1, by1⟩ := h
  injection e1 with e1 _ e2; subst e1; subst e2
  have hk : k < l.length := (List.getElem?_eq_some_iff.1 hq).1
  obtain ⟨p1, hp1⟩ : ∃ p, r1[k]? = some p := ⟨_, List.getElem?_eq_getElem (by omega)⟩
  obtain ⟨g1, rfl, x0, x1⟩ := cell1 k p1 hp1
  obtain ⟨n1, b1⟩ := by1 k p1 q hp1 hq
  rw [n1] at x0
  exact ⟨g1, _, rfl, x0, x1, b1⟩
theorem FilesIs.form {w : World} {v : Value} {l : Fl} (h : FilesIs w v l) : ∃ a cap, v = .slice a l.length cap ∧ l.length ≤ cap ∧ cap ≤ 9223372036854775807 := by
  obtain ⟨a1, c1, r1, e1, h1, h2, _⟩ := h
  exact ⟨a1, c1, e1, h1, h2⟩
/-- a store of the document's, of which the numbers alone are known -/
def StIds (w : World) (b : Nat) (ids : List Int) : Prop :=
  ∃ (gen : Int) (a : Option Addr) (cap : Nat), BoxAt w b 50 #[.int .u64 gen, .slice a ids.length cap] ∧ ids.length ≤ cap ∧ cap ≤ 9223372036854775807 ∧
    ∀ (i : Nat) x, ids[i]? = some x → ∃ g, a = some ⟨g, 0, none⟩ ∧ w.cell? ⟨g, i * 3, none⟩ = some (.int .i64 x)
theorem StIds.ext {w w' : World} {b : Nat} {ids : List Int} (h : StIds w b ids) (hE : Ext w w') : StIds w' b ids := by
  obtain ⟨gen, a, cap, hb, h1, h2, h3⟩ := h
  refine ⟨gen, a, cap, (hE.block b hb.lt).trans hb, h1, h2, fun i x hx => ?_⟩
  obtain ⟨g, hg, c⟩ := h3 i x hx
  exact ⟨g, hg, hE.cell c⟩
/-- numbers that can be segments' -/
def IdsIn (ids : List Int) : Prop := ids.length ≤ 60 ∧ ∀ x ∈ ids, 1 ≤ x ∧ x ≤ 999999
theorem listedB_snoc (ids : List Int) (k : Nat) (hk : k < ids.length) (n : Nm) : listedB (ids.take (k + 1)) n = (listedB (ids.take k) n || decide (segName bData ids[k].toNat = n)) := by
  unfold listedB
  rw [take_snoc ids k hk, List.any_append]; simp

set_option maxRecDepth 100000 in
set_option maxHeartbeats 1600000 in
theorem tidy_any (v : Value) (l : Fl) (b : Nat) (ids : List Int) (w : World) (h : FilesIs w v l) (hs : StIds w b ids) (hi : IdsIn ids) (hn : ∀ p ∈ l, p.1.length ≤ 1000000) (ht : tidyB l ids = true) :
    Calls Tryz.prog 79 #[v, .pointer (some ⟨b, 0, none⟩)] w fun e w' => e = .returned (.bool true) ∧ Ext w w' := by
  obtain ⟨a, cap, rfl, hc, hc'⟩ := h.form
  have H := Lib.hid h; have HS := Lib.hid hs; have HI := Lib.hid hi; have HN := Lib.hid hn; have HT := Lib.hid ht
  clear h hs hi hn ht
  go_enter Tryz.func79, Tryz.ntmps79
  go_wp2
  go_loopw [5] (fun i wr => ∃ k : Nat, k ≤ l.length ∧ i = .int .i64 k ∧ Ext w wr) (fun i _ => l.length - (intOf i).toNat)
  case atStart => exact ⟨0, by omega, rfl, Ext.refl w⟩
  case round =>
    obtain ⟨k, hk, rfl, hE⟩ := hrel
    by_cases hlt : k < l.length
    · obtain ⟨q, hq⟩ : ∃ q, l[k]? = some q := ⟨_, List.getElem?_eq_getElem hlt⟩
      have hqm := List.mem_of_getElem? hq
      have hqn := HN.out q hqm
      obtain ⟨g, bv, rfl, c0, c1, hb⟩ := (H.out.ext hE).at hq
      have hname := isName_any bHint q.1 wr (by simp [bHint]) hqn
      have hti : (decide (q.1 = bManifest) || (isNm bHint q.1 || listedB ids q.1)) = true := by
        have := HT.out; unfold tidyB at this; rw [List.all_eq_true] at this; exact this q hqm
      have HNM := Lib.hid hname; have HE := Lib.hid hE; have HTI := Lib.hid hti
      clear hname hE hti hb hq c1
      unfold strV at c0 HNM
      unfold bHint at HNM
      go_wp2_with fail
      refine HNM.out.mono ?_
      rintro e w1 ⟨rfl, rfl⟩
      by_cases hm : q.1 = bManifest
      · have hm' : (q.1 == [109, 97, 110, 105, 102, 101, 115, 116]) = true := beq_iff_eq.2 hm
        clear hm
        go_wp2
        go_roundw
        case rel => exact ⟨k + 1, by omega, by go_num, HE.out⟩
        case measure => simp [intOf]; omega
      · have hm' : (q.1 == [109, 97, 110, 105, 102, 101, 115, 116]) = false := beq_eq_false_iff_ne.2 hm
        have HM := Lib.hid hm; clear hm
        cases hh : isNm [104, 105, 110, 116, 45] q.1 with
        | true =>
          go_wp2
          go_roundw
          case rel => exact ⟨k + 1, by omega, by go_num, HE.out⟩
          case measure => simp [intOf]; omega
        | false =>
          have hl : listedB ids q.1 = true := by
            have h1 := HTI.out
            rw [decide_eq_false HM.out] at h1
            have h2 : isNm bHint q.1 = false := hh
            rw [h2] at h1
            simpa using h1
          have HL := Lib.hid hl; clear hl
          go_wp2
          go_loopw [8, 9] (fun x i wq => ∃ j : Nat, j ≤ ids.length ∧ i = .int .i64 j ∧ x = .bool (listedB (ids.take j) q.1) ∧ Ext w wq) (fun _ i _ => ids.length - (intOf i).toNat)
          case atStart => exact ⟨0, by omega, rfl, by simp [listedB], HE.out⟩
          case round =>
            obtain ⟨j, hj, rfl, rfl, hEq⟩ := hrel
            obtain ⟨gen, sa, sc, hbx, hs1, hs2, hs3⟩ := HS.out.ext hEq
            have s1 := (hbx.cell 1).trans (show _ = some (Value.slice sa ids.length sc) from rfl)
            by_cases hjl : j < ids.length
            · obtain ⟨gs, rfl, sc0⟩ := hs3 j _ (List.getElem?_eq_getElem hjl)
              have hr := HI.out.2 ids[j] (List.getElem_mem hjl)
              obtain ⟨y, hy⟩ : ∃ y : Nat, ids[j] = (y : Int) := ⟨ids[j].toNat, by omega⟩
              rw [hy] at sc0 hr
              have hnm := refName_any bData y wr (by simp [bData]) (by omega)
              have hsn := listedB_snoc ids j hjl q.1
              rw [hy] at hsn
              have HEQ := Lib.hid hEq; have HNA := Lib.hid hnm; have HSN := Lib.hid hsn
              clear hEq hnm hsn hs3 hbx
              unfold strV at HNA
              unfold bData at HNA
              go_wp2_with fail
              refine HNA.out.mono ?_
              rintro e w2 ⟨rfl, hE2⟩
              have HE2 := Lib.hid (Ext.trans HEQ.out hE2); clear hE2
              obtain ⟨nm, hnm⟩ : ∃ nm, segName [100, 97, 116, 97, 45] y = nm := ⟨_, rfl⟩
              rw [hnm]
              have HNM2 := Lib.hid hnm; clear hnm
              cases hx : listedB (ids.take j) q.1 with
              | true =>
                go_wp2
                go_roundw
                case rel => exact ⟨j + 1, by omega, by go_num, by rw [HSN.out, hx]; rfl, HE2.out⟩
                case measure => simp [intOf]; omega
              | false =>
                have hsn2 : listedB (ids.take (j + 1)) q.1 = (nm == q.1) := by
                  rw [HSN.out, hx, Int.toNat_natCast]
                  show (false || decide (segName [100, 97, 116, 97, 45] y = q.1)) = _
                  rw [HNM2.out, Bool.false_or]; by_cases h : nm = q.1 <;> simp [h]
                have HSN2 := Lib.hid hsn2; clear hsn2
                go_wp2
                go_roundw
                case rel => exact ⟨j + 1, by omega, by go_num, by rw [HSN2.out], HE2.out⟩
                case measure => simp [intOf]; omega
            · obtain rfl : j = ids.length := by omega
              rw [List.take_length, HL.out]
              have HEQ := Lib.hid hEq; clear hEq hs3 hbx
              go_wp2
              go_roundw
              case rel => exact ⟨k + 1, by omega, by go_num, HEQ.out⟩
              case measure => simp [intOf]; omega
    · obtain rfl : k = l.length := by omega
      have HE := Lib.hid hE; clear hE
      go_wp2
      go_ret
      exact ⟨rfl, HE.out⟩
end Go.Proofs.YtgpbhjjajpbeeaaGreatDoor
/-
  The walks of keydir's sweep, Clean, where nothing fails.
-/
namespace Go.Proofs.YtgpbhjjajpbeeaaGreatDoor
open Go.RowKit Go.Lib Go.Maps Dk Pl

abbrev KeepAt (w : World) (r : Nat) (l : List (Nm × Int)) : Prop := MapOf Tryz.prog 9 strV (Value.int .i64) w r l
theorem zeroI (w : World) : (zeroValue 3).run Tryz.prog w = .ok (.int .i64 0) w := by kernel_rfl
theorem segName_len (kind : Nm) (k : Nat) : (segName kind k).length = kind.length + 6 := by simp [segName]
theorem Held.block {w : World} {F : Nat → Prop} {S : Nat → Prop} {Φ : World → Prop} (h : Dep S Φ w) (hS : ∀ b, S b → b < w.heap.size ∧ ¬ F b) : Held w F Φ := ⟨S, hS, h⟩

/-- what sweep leaves -/
def SweepIs (F : Nat → Prop) (a : Nat) (d : D) (w : World) (e : Ending) (w' : World) : Prop :=
  e = .returned .nilIface ∧ ∃ F', DiskAt w' F' a d ∧ Chg F F' w w' ∧ ∀ b, F b → F' b

set_option maxRecDepth 100000 in
set_option maxHeartbeats 1600000 in
theorem sweep_any (F : Nat → Prop) (a : Nat) (d : D) (ids : List Int) (v : Value) (w : World) (h : DiskAt w F a d) (hc : d.Calm) (hnd : (d.now.map (·.1)).Nodup) (hv : Held w F (fun W => Ints W v ids)) (hi : IdsIn ids) (hl : LaidP w) (hnl : d.now.length ≤ 32768)
    (hml : d.moves.length ≤ 900000) (hms : ∀ l ∈ d.moves, l.length ≤ 1000000 ∧ ∀ m ∈ l, m.1.length ≤ maxLen) (hnm : ∀ p ∈ d.now, p.1.length ≤ 1000000) :
    Calls Tryz.prog 78 #[nodeV a, v] w (SweepIs F a (d.sweep ids).2 w) := by
  have hmm := @run_makeMap Tryz.prog
  obtain ⟨va, vc, rfl, hvc, hvc', -⟩ := id hv.get
  have hm0 : KeepAt (w.alloc (.map #[] 0)) w.heap.size [] := MapOf.made w
  obtain ⟨w1, hrun, hN1, hO1⟩ := hm0.store keyedStr strV_inj Tryz.underlying247 (keyStr (l := bManifest) (by unfold bManifest maxLen; simp)) 1
  have hE1 : Ext w w1 := by
    have := (Ext.refl w).new (.map #[] 0)
    exact Ext.off this hO1 (Nat.le_refl _)
  have hk0 : aPut ([] : List (Nm × Int)) bManifest 1 = keepL [] := rfl
  rw [hk0] at hN1
  have HN1 := Lib.hid hN1; have HE1 := Lib.hid hE1; have HD := Lib.hid h; have HV := Lib.hid hv; have HI := Lib.hid hi; have HL := Lib.hid hl; have HLOW := Lib.hid h.low
  clear hN1 hE1 hO1 hm0 hk0 h hv hi hl
  unfold strV bManifest at hrun
  show Calls Tryz.prog 78 #[.pointer (some ⟨a, 0, none⟩), .slice va ids.length vc] w (SweepIs F a (d.sweep ids).2 w)
  go_enter Tryz.func78, Tryz.ntmps78
  go_wp2
  go_loopw [15] (fun i wr => ∃ k : Nat, k ≤ ids.length ∧ i = .int .i64 k ∧ KeepAt wr w.heap.size (keepL (ids.take k)) ∧ Ext w wr) (fun i _ => ids.length - (intOf i).toNat)
  case atStart => exact ⟨0, by omega, rfl, by simpa using HN1.out, HE1.out⟩
  case round =>
    obtain ⟨k, hk, rfl, hM, hE⟩ := hrel
    by_cases hlt : k < ids.length
    · obtain ⟨xb, rfl, xcell⟩ := Ints.at HV.out.get hE hlt
      have hr := HI.out.2 ids[k] (List.getElem_mem hlt)
      obtain ⟨y, hy⟩ : ∃ y : Nat, ids[k] = (y : Int) := ⟨ids[k].toNat, by omega⟩
      rw [hy] at xcell hr
      have hnm := kname_any bData y wr (by simp [bData]) (by omega) (HL.out.ext hE)
      have hks : keepL (ids.take (k + 1)) = aPut (keepL (ids.take k)) (segName bData y) 1 := by
        rw [take_snoc ids k hlt, keepL_snoc, hy, Int.toNat_natCast]
      have HNM := Lib.hid hnm; have HKS := Lib.hid hks; have HM := Lib.hid hM; have HE := Lib.hid hE; have HY := Lib.hid hy
      clear hnm hks hM hE hy
      unfold strV at HNM
      unfold bData at HNM
      go_wp2_with fail
      refine HNM.out.mono ?_
      rintro e w2 ⟨rfl, hE2⟩
      have hM2 := HM.out.ext hE2
      obtain ⟨w3, hrun3, hN3, hO3⟩ := hM2.store keyedStr strV_inj Tryz.underlying247 (keyStr (l := segName bData y) (by rw [segName_len]; unfold bData maxLen; simp)) 1
      have hE3 : Ext w w3 := Ext.off (Ext.trans HE.out hE2) hO3 (Nat.le_refl _)
      have HN3 := Lib.hid hN3; have HE3 := Lib.hid hE3; clear hN3 hE3 hO3 hM2 hE2
      unfold strV bData at hrun3
      go_wp2
      go_roundw
      case rel => exact ⟨k + 1, by omega, by go_num, by rw [HKS.out]; exact HN3.out, HE3.out⟩
      case measure => simp [intOf]; omega
    · obtain rfl : k = ids.length := by omega
      rw [List.take_length] at hM
      have hlist := list_any F a d wr (HD.out.ext hE) hnl
      have HLI := Lib.hid hlist; have HM := Lib.hid hM; have HE := Lib.hid hE
      clear hlist hM hE
      unfold nodeV at HLI
      go_wp2_with fail
      refine HLI.out.mono ?_
      rintro e w2 ⟨nv, rfl, hN, hE2⟩
      have hll : d.list.length ≤ 32768 := by unfold D.list; simpa using hnl
      have hF2 : ∀ b, F b → b < w.heap.size := HLOW.out
      have hheld : Held w2 F (fun W => OwnN W 0 nv d.list ∧ KeepAt W w.heap.size (keepL ids)) := by
        refine Held.and ((Held.of (Dep.row hN) fun b hb => ⟨(World.ownsRow.lt hN b hb).2, fun hF => ?_⟩).mono fun W hW => ownsRow_mono hW (Nat.zero_le _)) (Held.of (Dep.map (HM.out.ext hE2)) fun b hb => ⟨?_, fun hF => ?_⟩)
        · have := (World.ownsRow.lt hN b hb).1; have := hF2 b hF; have := HE.out.size; omega
        · rw [hb]; exact (HM.out.ext hE2).lt
        · have := hF2 b hF; omega
      have hC2 : Chg F F w w2 := Chg.ext (Ext.trans HE.out hE2)
      have hD2 : DiskAt w2 F a (d.swept ids 0) := by rw [D.swept_zero]; exact (HD.out.ext HE.out).ext hE2
      obtain ⟨na, nc, hnv⟩ := ownsRow_form hN
      subst hnv
      have HH := Lib.hid hheld; have HC2 := Lib.hid hC2; have HD2 := Lib.hid hD2
      clear hheld hC2 hD2 hN hE2 hF2
      go_wp2
      go_loopw [26] (fun i wr => ∃ (j : Nat) (F' : Nat → Prop), j ≤ d.list.length ∧ i = .int .i64 j ∧ DiskAt wr F' a (d.swept ids j) ∧ Held wr F' (fun W => OwnN W 0 (.slice na d.list.length nc) d.list ∧ KeepAt W w.heap.size (keepL ids)) ∧ Chg F F' w wr ∧ ∀ b, F b → F' b) (fun i _ => d.list.length - (intOf i).toNat)
      case atStart => exact ⟨0, F, by omega, rfl, HD2.out, HH.out, HC2.out, fun b hb => hb⟩
      case round =>
        obtain ⟨j, F', hj, rfl, hD3, hH3, hC3, hF3⟩ := hrel
        have hsw := hc.sw hnd ids j
        by_cases hjl : j < d.list.length
        · obtain ⟨nm, hn⟩ : ∃ nm, d.list[j]? = some nm := ⟨_, List.getElem?_eq_getElem hjl⟩
          obtain ⟨nb, nc', hnv', hcell⟩ := hH3.get.1.cell hn
          injection hnv' with e1 e2 e3
          subst e1; subst e3
          have hnl2 : nm.length ≤ 1000000 := by
            have := List.mem_of_getElem? hn
            rw [list_mem] at this
            obtain ⟨p, hp, rfl⟩ := List.mem_map.1 this
            exact hnm p hp
          have hlk := hH3.get.2.look keyedStr strV_inj Tryz.underlying247 (zeroI wr) (keyStr (l := nm) (by unfold maxLen; omega))
          rw [keepL_look] at hlk
          have HN := Lib.hid hn; have HD3 := Lib.hid hD3; have HH3 := Lib.hid hH3; have HC3 := Lib.hid hC3; have HF3 := Lib.hid hF3; have HSW := Lib.hid hsw
          clear hn hD3 hH3 hC3 hF3 hsw e2
          unfold strV at hcell hlk
          cases hkl : decide (nm = bManifest) || listedB ids nm with
          | true =>
            rw [hkl] at hlk
            simp only [if_true, Option.map_some, Option.getD_some] at hlk
            have hkb : keepB ids nm = true := by unfold keepB; rw [← Bool.or_assoc, hkl]; rfl
            have hsk := swept_keep HN.out hkb
            have HSK := Lib.hid hsk; clear hsk hkb hkl
            go_wp2
            go_roundw
            case rel => exact ⟨j + 1, F', by omega, by go_num, by rw [HSK.out]; exact HD3.out, HH3.out, HC3.out, HF3.out⟩
            case measure => simp [intOf]; omega
          | false =>
            rw [hkl] at hlk
            simp only [Bool.false_eq_true, if_false, Option.map_none, Option.getD_none] at hlk
            have hih := isHint_any nm wr hnl2
            have hkb : keepB ids nm = isNm bHint nm := by unfold keepB; rw [← Bool.or_assoc, hkl]; rfl
            have HIH := Lib.hid hih; have HKB := Lib.hid hkb; clear hih hkb hkl
            unfold strV at HIH
            go_wp2_with fail
            refine HIH.out.mono ?_
            rintro e w3 ⟨rfl, hE3⟩
            have hD4 := HD3.out.ext hE3
            have hH4 := HH3.out.ext hE3
            have hC4 := HC3.out.trans (Chg.ext (F := F') hE3)
            have HD4 := Lib.hid hD4; have HH4 := Lib.hid hH4; have HC4 := Lib.hid hC4
            clear hD4 hH4 hC4 hE3 hcell hlk
            cases hhint : isNm bHint nm with
            | true =>
              have hsk := swept_keep HN.out (HKB.out.trans hhint)
              have HSK := Lib.hid hsk; clear hsk hhint
              go_wp2
              go_roundw
              case rel => exact ⟨j + 1, F', by omega, by go_num, by rw [HSK.out]; exact HD4.out, HH4.out, HC4.out, HF3.out⟩
              case measure => simp [intOf]; omega
            | false =>
              have hsd := swept_drop hc hnd HN.out (HKB.out.trans hhint)
              have hml2 : (d.swept ids j).moves.length ≤ 1000000 := by
                rw [HSW.out.moves, List.length_append, List.length_map]
                have h1 := List.length_filter_le (fun n => !keepB ids n) (d.list.take j)
                have h2 : (d.list.take j).length ≤ 32768 := by rw [List.length_take]; omega
                omega
              have hrm := remove_any F' a (d.swept ids j) nm w3 HD4.out (by unfold maxLen; omega) hml2
              rw [hsd] at hrm
              have HRM := Lib.hid hrm; clear hrm hsd hml2 hhint
              unfold nodeV strV at HRM
              go_wp2_with fail
              refine HRM.out.mono ?_
              rintro e w4 ⟨F4, v4, rfl, hv4, hD5, hC5, hF5⟩
              obtain rfl : v4 = .nilIface := hv4.get
              have hH5 := HH4.out.step hC5
              have HD5 := Lib.hid hD5; have HH5 := Lib.hid hH5; have HC5 := Lib.hid (HC4.out.trans hC5); have HF5 := Lib.hid hF5
              clear hD5 hH5 hC5 hF5 hv4
              go_wp2
              go_roundw
              case rel => exact ⟨j + 1, F4, by omega, by go_num, HD5.out, HH5.out, HC5.out, fun b hb => HF5.out b (HF3.out b hb)⟩
              case measure => simp [intOf]; omega
        · obtain rfl : j = d.list.length := by omega
          have hsa := swept_all hc hnd ids
          have hsy := syncDir_any F' a _ wr hD3 (by
            rw [hsw.moves, List.length_append, List.length_map]
            have h1 := List.length_filter_le (fun n => !keepB ids n) (d.list.take d.list.length)
            have h2 : (d.list.take d.list.length).length ≤ 32768 := by rw [List.length_take]; omega
            omega) (by
            rw [hsw.moves]
            intro l hl
            rcases List.mem_append.1 hl with hl | hl
            · exact hms l hl
            · obtain ⟨n, hn, rfl⟩ := List.mem_map.1 hl
              refine ⟨by simp, fun m hm => ?_⟩
              simp at hm; subst hm
              have := List.mem_of_mem_take (List.mem_filter.1 hn).1
              rw [list_mem] at this
              obtain ⟨p, hp, rfl⟩ := List.mem_map.1 this
              have := hnm p hp
              show p.1.length ≤ maxLen
              unfold maxLen; omega)
          rw [← hsa] at hsy
          have hok : (d.sweep ids).1 = .ok := by rw [hsa, hsw.calm.syncDir]
          rw [show d.sweep ids = ((d.sweep ids).1, (d.sweep ids).2) from rfl, hok] at hsy
          have HSY := Lib.hid hsy; have HC3 := Lib.hid hC3; have HF3 := Lib.hid hF3
          clear hsy hok hsa hsw hD3 hH3 hC3 hF3
          unfold nodeV at HSY
          go_wp2_with fail
          refine HSY.out.mono ?_
          rintro e w4 ⟨F4, v4, rfl, hv4, hD5, hC5, hF5⟩
          obtain rfl : v4 = .nilIface := hv4.get
          have hfin : SweepIs F a (d.sweep ids).2 w (.returned .nilIface) w4 := ⟨rfl, F4, hD5, HC3.out.trans hC5, fun b hb => hF5 b (HF3.out b hb)⟩
          have HF := Lib.hid hfin; clear hfin hD5 hC5 hF5 hv4
          go_wp2
          go_ret
          exact HF.out
end Go.Proofs.YtgpbhjjajpbeeaaGreatDoor
