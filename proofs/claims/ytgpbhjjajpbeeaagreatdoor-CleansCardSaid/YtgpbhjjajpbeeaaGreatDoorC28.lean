/-
  The walk of a directory's disk: all of it is safe.
-/
import Derived.Test.YtgpbhjjajpbeeaaGreatDoorC27
import Derived.Test.YtgpbhjjajpbeeaaGreatDoorC11
import Derived.Deep.DeepCutAuto
set_option linter.unusedSimpArgs false
set_option linter.unusedVariables false
set_option linter.unnecessarySimpa false
namespace Go.Proofs.YtgpbhjjajpbeeaaGreatDoor
open Go.RowKit Go.Lib Go.Maps Dk Pl

theorem Held.laid {w0 wr : World} {F : Nat → Prop} (h : Laid w0) (hE : Ext w0 wr) (hF : ∀ b, F b → w0.heap.size ≤ b) : Held wr F Laid := by
  have hlt : 0 < w0.heap.size := Classical.byContradiction fun hn => by
    unfold Laid World.cell? at h
    have : w0.heap[0]? = none := by rw [Array.getElem?_eq_none]; omega
    rw [this] at h; cases h
  refine .of (S := fun b => b = 0) (fun w' hw => ?_) fun b e => by subst e; exact ⟨Nat.lt_of_lt_of_le hlt hE.size, fun hb => by have := hF _ hb; omega⟩
  have h2 := Laid.ext h hE
  unfold Laid World.cell? at h2 ⊢
  rw [hw _ rfl]; exact h2
/-- what hung on old blocks alone -/
theorem Held.lift {w0 wr : World} {F : Nat → Prop} {Φ : World → Prop} (h : Held w0 (fun _ => False) Φ) (hE : Ext w0 wr) (hF : ∀ b, F b → w0.heap.size ≤ b) : Held wr F Φ := by
  obtain ⟨S, h1, h2⟩ := h
  exact ⟨S, fun b hb => ⟨Nat.lt_of_lt_of_le (h1 b hb).1 hE.size, fun hb' => by have := hF b hb'; have := (h1 b hb).1; omega⟩, fun w' hw => h2 w' fun b hb => (hw b hb).trans (hE.block b (h1 b hb).1)⟩
/-- the disk while it is laid -/
structure LSt (w0 : World) (a k : Nat) (F : Nat → Prop) (E : D) (wr : World) : Prop where
  disk : DiskAt wr F a E
  built : E.Built k
  ext : Ext w0 wr
  low : ∀ b, F b → w0.heap.size ≤ b
theorem LSt.to {w0 : World} {a k : Nat} {F : Nat → Prop} {E : D} {wr w' : World} (h : LSt w0 a k F E wr) (hE : Ext wr w') : LSt w0 a k F E w' := ⟨h.disk.ext hE, h.built, h.ext.trans hE, h.low⟩
theorem LSt.more {w0 : World} {a k m : Nat} {F : Nat → Prop} {E : D} {wr : World} (h : LSt w0 a k F E wr) (hk : k ≤ m) : LSt w0 a m F E wr := ⟨h.disk, h.built.more hk, h.ext, h.low⟩
theorem LSt.file {w0 : World} {a k : Nat} {F : Nat → Prop} {E : D} {wr w' : World} {e : Ending} (h : LSt w0 a k F E wr) (hf : FileIs F a (k + 1) wr e w') : ∃ F' E', LSt w0 a (k + 1) F' E' w' ∧ Chg F F' wr w' := by
  obtain ⟨-, F', E', hD, hB, hC, hF⟩ := hf
  refine ⟨F', E', ⟨hD, hB, ?_, fun b hb => ?_⟩, hC⟩
  · exact h.ext.trans' (hC.below h.low h.ext.size)
  · rcases hC.grow b hb with h1 | h1
    · exact h.low b h1
    · have := h.ext.size; omega
theorem segName_len' (kind : Nm) (k : Nat) : (segName kind k).length = kind.length + 6 := by simp [segName]
theorem strV_data (b : ByteArray) : strV b.data.toList = .string b := rfl

/-- the numbers while they are told: a row that is none of the disk's blocks -/
structure IdsSt (n0 : Nat) (F : Nat → Prop) (v : Value) (l : List Int) (w : World) : Prop where
  own : OwnI w n0 v l
  off : ∀ b, v.ownBlock = some b → ¬ F b
theorem IdsSt.held {n0 : Nat} {F : Nat → Prop} {v : Value} {l : List Int} {w : World} (h : IdsSt n0 F v l w) : Held w F (fun W => OwnI W n0 v l) :=
  .of (Dep.row h.own) fun b hb => ⟨(World.ownsRow.lt h.own b hb).2, h.off b hb⟩
theorem IdsSt.step {n0 : Nat} {F F' : Nat → Prop} {v : Value} {l : List Int} {w w' : World} (h : IdsSt n0 F v l w) (c : Chg F F' w w') : IdsSt n0 F' v l w' :=
  ⟨(h.held.step c).get, fun b hb hF => (c.grow b hF).elim (h.off b hb) fun h1 => by have := (World.ownsRow.lt h.own b hb).2; omega⟩
theorem IdsSt.to {n0 : Nat} {F : Nat → Prop} {v : Value} {l : List Int} {w w' : World} (h : IdsSt n0 F v l w) (hE : Ext w w') : IdsSt n0 F v l w' := h.step (Chg.ext hE)
/-- what disk answers -/
def LDiskIs (w : World) (e : Ending) (w' : World) : Prop :=
  ∃ a F d, e = .returned (nodeV a) ∧ DiskAt w' F a d ∧ d.Safe ∧ (∀ x ∈ d.ids, (d.node x).data.length ≤ 1099511627776) ∧ d.now.length ≤ 400 ∧ (∀ p ∈ d.now, p.1.length ≤ 1000000) ∧ Ext w w' ∧ ∀ b, F b → w.heap.size ≤ b

set_option maxRecDepth 100000 in
set_option maxHeartbeats 3200000 in
theorem disk_any (v : Value) (d : Dr) (w : World) (h : DrAt w v d) (hs : d.Small) (hL : Laid w) :
    Calls Tryz.prog 13 #[v, .int .i64 1099511627776] w (LDiskIs w) := by
  obtain ⟨v0, v1, v3, rfl, h0, h1, h3⟩ := h
  obtain ⟨a0, c0, rfl, hl0, hm0⟩ := h0.form
  obtain ⟨a1, c1, rfl, hl1, hm1⟩ := h1.form
  obtain ⟨a3, c3, rfl, hl3, hm3, -⟩ := h3.open
  obtain ⟨w0, hw0⟩ : ∃ w0, w.alloc (.cells #[.slice a0 d.segs.length c0, .slice a1 d.others.length c1, .int .u64 d.gen, .slice a3 d.spoilt.length c3, .bool d.whole, .bool d.without] 27) = w0 := ⟨_, rfl⟩
  have hb0 : BoxAt w0 w.heap.size 27 #[.slice a0 d.segs.length c0, .slice a1 d.others.length c1, .int .u64 d.gen, .slice a3 d.spoilt.length c3, .bool d.whole, .bool d.without] := hw0 ▸ BoxAt.new _ _ rfl
  have hEw : Ext w w0 := hw0 ▸ (Ext.refl w).new _
  have b0 := (hb0.cell 0).trans (show _ = some (Value.slice a0 d.segs.length c0) from rfl)
  have b1 := (hb0.cell 1).trans (show _ = some (Value.slice a1 d.others.length c1) from rfl)
  have b2 := (hb0.cell 2).trans (show _ = some (Value.int .u64 d.gen) from rfl)
  have b3 := (hb0.cell 3).trans (show _ = some (Value.slice a3 d.spoilt.length c3) from rfl)
  have b4 := (hb0.cell 4).trans (show _ = some (Value.bool d.whole) from rfl)
  have b5 := (hb0.cell 5).trans (show _ = some (Value.bool d.without) from rfl)
  have hnew := newDisk_any 1099511627776 w0 (by omega)
  have H0 := Lib.hid (h0.ext fun _ _ => SgAt.ext hEw); have H1 := Lib.hid (h1.ext fun _ _ => OtAt.ext hEw); have H3 := Lib.hid (h3.ext hEw); have HS := Lib.hid hs; have HL0 := Lib.hid (hL.ext hEw)
  have HEW := Lib.hid hEw; have HW0 := Lib.hid hw0; have HNEW := Lib.hid hnew
  have B0 := Lib.hid b0; have B1 := Lib.hid b1; have B2 := Lib.hid b2; have B3 := Lib.hid b3; have B4 := Lib.hid b4; have B5 := Lib.hid b5
  clear h0 h1 h3 hs hL hEw hw0 hb0 hnew b0 b1 b2 b3 b4 b5
  obtain ⟨i0, hi, hz0, hz1, hz2⟩ := info_parts info_u8
  obtain ⟨ii, hii, hi0, hi1, hi2⟩ := info_parts info_int
  obtain ⟨n0, hn0⟩ : ∃ n0, w0.heap.size = n0 := ⟨_, rfl⟩
  go_enter Tryz.func13, Tryz.ntmps13
  go_wp2_with fail
  rw [HW0.out]
  refine HNEW.out.mono ?_
  rintro e w1 ⟨a, F1, rfl, hD1, hE1, hF1⟩
  have hl1' : IdsSt n0 F1 (.slice none 0 0) [] w1 := ⟨⟨rfl, .inl ⟨rfl, rfl⟩⟩, fun b hb => by cases hb⟩
  have HD1 := Lib.hid hD1; have HE1 := Lib.hid hE1; have HF1 := Lib.hid hF1; have HL1 := Lib.hid hl1'
  clear hD1 hE1 hF1 hl1' HNEW
  unfold nodeV
  go_wp2
  go_loopw [6, 7] (fun ids i wr => ∃ (k : Nat) (F : Nat → Prop) (D : D) (l : List Int), k ≤ d.segs.length ∧ i = .int .i64 k ∧ LSt w0 a k F D wr ∧ l.length ≤ k ∧ IdsSt n0 F ids l wr) (fun _ i _ => d.segs.length - (intOf i).toNat)
  case atStart => exact ⟨0, F1, _, [], by omega, rfl, ⟨HD1.out, D.Built.empty, HE1.out, HF1.out⟩, by simp, HL1.out⟩
  case round =>
    obtain ⟨k, F, E, l, hk, rfl, hST, hll, hI⟩ := hrel
    have b0 := hST.ext.cell B0.out
    have HST := Lib.hid hST; have HI := Lib.hid hI
    obtain ⟨ia, ic, hiv⟩ := ownsRow_form hI.own
    subst hiv
    clear hST hI
    have hsg := HS.out.segs
    by_cases hlt : k < d.segs.length
    · obtain ⟨s, hs⟩ : ∃ s, d.segs[k]? = some s := ⟨_, List.getElem?_eq_getElem hlt⟩
      have hsm := List.mem_of_getElem? hs
      have hst := HS.out.tail s hsm
      have hsr := HS.out.recs s hsm
      obtain ⟨b, rfl, u1, u2, s0, s1, s2, s3, s4, hrec, htail⟩ := (H0.out.ext fun _ _ => SgAt.ext HST.out.ext).at hs
      obtain ⟨ra, rc, rfl, hrc, hrc'⟩ := hrec.form
      obtain ⟨ta, tc, rfl, htc, htc', -⟩ := htail.open
      have HREC := Lib.hid hrec; have HSR := Lib.hid hsr; have HTL := Lib.hid htail
      clear hrec htail hs hsm hsr
      obtain ⟨nb, hnb⟩ : ∃ nb, wr.heap.size = nb := ⟨_, rfl⟩
      obtain ⟨wA, hwA⟩ : ∃ wA, wr.alloc (.cells #[.int .i64 s.id, .slice ra s.recs.length rc, .slice ta s.tail.length tc, .bool s.listed, .bool s.gone] 94) = wA := ⟨_, rfl⟩
      have hbA : BoxAt wA nb 94 #[.int .i64 s.id, .slice ra s.recs.length rc, .slice ta s.tail.length tc, .bool s.listed, .bool s.gone] := hwA ▸ BoxAt.new _ _ hnb
      have hEA : Ext wr wA := hwA ▸ (Ext.refl wr).new _
      have q1 := (hbA.cell 1).trans (show _ = some (Value.slice ra s.recs.length rc) from rfl)
      have q2 := (hbA.cell 2).trans (show _ = some (Value.slice ta s.tail.length tc) from rfl)
      have q3 := (hbA.cell 3).trans (show _ = some (Value.bool s.listed) from rfl)
      have q4 := (hbA.cell 4).trans (show _ = some (Value.bool s.gone) from rfl)
      have hid := id_any s.id wA
      have hboxA : Held wA F (fun W => BoxAt W nb 94 #[.int .i64 s.id, .slice ra s.recs.length rc, .slice ta s.tail.length tc, .bool s.listed, .bool s.gone]) := Held.box hbA fun hF => by have := HST.out.disk.low nb hF; omega
      have HBA := Lib.hid hboxA; clear hboxA
      have HID := Lib.hid hid; have HWA := Lib.hid hwA; have HEA := Lib.hid hEA; have HNB := Lib.hid hnb
      have Q1 := Lib.hid q1; have Q2 := Lib.hid q2; have Q3 := Lib.hid q3; have Q4 := Lib.hid q4
      clear hid hwA hEA hbA q2 q3 q4 hnb
      obtain ⟨nA, hnA⟩ : ∃ nA, wA.heap.size = nA := ⟨_, rfl⟩
      go_wp2_with fail
      rw [HWA.out, HNB.out]
      refine HID.out.mono ?_
      rintro e w2 ⟨y, rfl, hy1, hy2, hw2⟩
      rw [hw2]; clear hw2
      go_wp2
      go_loopw [10, 11] (fun bs i wq => ∃ (j : Nat) (m : List UInt8), j ≤ s.recs.length ∧ i = .int .i64 j ∧ OwnB wq nA bs m ∧ m.length ≤ 200 * j ∧ Ext wA wq) (fun _ i _ => s.recs.length - (intOf i).toNat)
      case atStart => exact ⟨0, [], by omega, rfl, ownB_nil _ _, by simp, Ext.refl _⟩
      case round =>
        obtain ⟨j, m, hj, rfl, hown, hml, hEq⟩ := hrel
        obtain ⟨ma, mc, rfl⟩ := ownsRow_form hown
        have q1 := hEq.cell Q1.out
        have HOWN := Lib.hid hown; have HEQ := Lib.hid hEq
        clear hown hEq
        have hrl := HSR.out.1
        by_cases hjl : j < s.recs.length
        · obtain ⟨r, hr⟩ : ∃ r, s.recs[j]? = some r := ⟨_, List.getElem?_eq_getElem hjl⟩
          obtain ⟨bb, rfl, r0, r1, r2, r3⟩ := (HREC.out.ext fun _ _ => RcAt.ext (HEA.out.trans HEQ.out)).at hr
          have hrec := record_any r.seq r.key r.val r.del wr
          have HRC := Lib.hid hrec; clear hrec hr
          unfold recV refV at HRC
          go_wp2_with fail
          refine HRC.out.mono ?_
          rintro e w3 ⟨rfl, hE3⟩
          have henc := refenc_any r.seq r.key r.val r.del 0 (w3.alloc (.cells #[.int .u64 r.seq, .string r.key, .string r.val, .bool r.del, .int .i64 0] 116))
          have HEN := Lib.hid henc; have HE3 := Lib.hid hE3; clear henc hE3
          unfold refV at HEN
          go_wp2_with fail
          refine HEN.out.mono ?_
          rintro e w4 ⟨x, n, m2, rfl, hE4, hO4, hl4⟩
          have hE34 : Ext wr w4 := (HE3.out.new _).trans hE4
          by_cases hn : n = 0
          · subst hn
            have hsz4 : nA ≤ w4.heap.size := by have := HEQ.out.size; have := hE34.size; omega
            obtain ⟨xa, xc, rfl⟩ := ownsRow_form hO4
            have hO := ownsRow_below HOWN.out hE34
            have hB4 := hO4.bytes
            have HO := Lib.hid hO; have HB4 := Lib.hid hB4; have HE4 := Lib.hid (HEQ.out.trans hE34)
            clear hO hB4 hE34 hE4 hO4 HOWN HEN HRC
            go_wp2_with (at_builtin; go_must (refine wpList_append_src rfl _ _ 25 rfl nA 5 i0 (.int .u8 0) 1 1 Tryz.underlying25 hi hz0 hz1 hz2 rfl (by omega) (.slice ma m.length mc) m.length (m.map byteV) rfl HO.out (.slice xa m2.length xc) m2.length (m2.map byteV) rfl HB4.out (by simp) (byteV_one m2) (by unfold maxLen; omega) (by omega) hsz4 ?_); intro b5 c5 w5 hown5 hgrow5 hat5; clear hat5)
            have hO5 : OwnB w5 nA (.slice b5 (m.length + m2.length) c5) (m ++ m2) := by
              unfold OwnB; rw [List.map_append, List.length_append]; exact hown5
            have hE5 : Ext wA w5 := Below.grown HE4.out hgrow5 (by omega) (fun r hr => by have := (HO.out.lt r hr); omega)
            have HO5 := Lib.hid hO5; have HE5 := Lib.hid hE5; clear hO5 hE5 hown5 hgrow5
            go_roundw
            case rel => exact ⟨j + 1, m ++ m2, by omega, by go_num, HO5.out, by rw [List.length_append]; omega, HE5.out⟩
            case measure => simp [intOf]; omega
          · have hnn : (n == 0) = false := beq_eq_false_iff_ne.2 hn
            have hE4q := HEQ.out.trans hE34
            have hO := ownsRow_below HOWN.out hE34
            have HO := Lib.hid hO; have HE4 := Lib.hid hE4q
            clear hO hE4q hE34 hE4 hO4 hn HOWN
            go_wp2
            go_roundw
            case rel => exact ⟨j + 1, m, by omega, by go_num, HO.out, by omega, HE4.out⟩
            case measure => simp [intOf]; omega
        · obtain rfl : j = s.recs.length := by omega
          have q2 := HEQ.out.cell Q2.out
          have q4 := HEQ.out.cell Q4.out
          have htb := HTL.out.ext (HEA.out.trans HEQ.out)
          have hsz5 : nA ≤ wr.heap.size := by have := HEQ.out.size; omega
          have HTB := Lib.hid htb; clear htb
          have hszE := HEQ.out.size
          go_wp2_with (at_builtin; go_must (refine wpList_append_src rfl _ _ 25 rfl nA 5 i0 (.int .u8 0) 1 1 Tryz.underlying25 hi hz0 hz1 hz2 rfl (by omega) (.slice ma m.length mc) m.length (m.map byteV) rfl HOWN.out (.slice ta s.tail.length tc) s.tail.length (s.tail.map byteV) rfl HTB.out (by simp) (byteV_one _) (by unfold maxLen; omega) (by omega) hsz5 ?_); intro b5 c5 w5 hown5 hgrow5 hat5; clear hat5; have hE5 := Below.grown HEQ.out hgrow5 hszE (fun r hr => by have := (HOWN.out.lt r hr); omega); have q5 := Ext.cell hE5 Q4.out; have HE5 := Lib.hid hE5; clear hE5)
          have hnm := refName_any bData y w5 (by simp [bData]) hy2
          have HNM := Lib.hid hnm; clear hnm
          have hO5 : OwnB w5 nA (.slice b5 (m.length + s.tail.length) c5) (m ++ s.tail) := by
            unfold OwnB; rw [List.map_append, List.length_append]; exact hown5
          have HO5 := Lib.hid hO5; clear hO5 hown5 hgrow5 q5 q4 q2 q1 s0 s3 s4
          unfold strV bData at HNM
          go_wp2_with fail
          refine HNM.out.mono ?_
          rintro e w6 ⟨rfl, hE6⟩
          have hst6 : LSt w0 a k F E w6 := HST.out.to ((HEA.out.trans HE5.out).trans hE6)
          have hF6 : ∀ b, F b → b < nA := fun b hb => by have := HST.out.disk.low b hb; have := HEA.out.size; omega
          have hO6 : OwnB w6 nA (.slice b5 (m.length + s.tail.length) c5) (m ++ s.tail) := ownsRow_below HO5.out hE6
          have hby : Held w6 F (fun W => Bytes W (.slice b5 (m.length + s.tail.length) c5) (m ++ s.tail)) := (Held.ownB hO6 fun b hb hF => by have := (hO6.lt b hb).1; have := hF6 b hF; omega).mono fun W hW => OwnB.bytes hW
          have hfile := file_any F a E k (segName bData y) _ (m ++ s.tail) w6 hst6.disk hst6.built (by omega) (by rw [segName_len']; simp [bData]) hby (by rw [List.length_append]; omega) (Held.laid HL0.out hst6.ext hst6.low)
          have HFL := Lib.hid hfile; have HST6 := Lib.hid hst6; have HE6 := Lib.hid hE6; clear hfile hst6 hby hO6 hF6 hE6
          unfold nodeV strV at HFL
          go_wp2_with fail
          refine HFL.out.mono ?_
          rintro e w7 hfl
          obtain rfl := hfl.1
          obtain ⟨F7, E7, hst7, hC7⟩ := HST6.out.file hfl
          have HST7 := Lib.hid hst7; have HI7 := Lib.hid ((HI.out.to ((HEA.out.trans HE5.out).trans HE6.out)).step hC7); have HB7 := Lib.hid ((HBA.out.ext (Ext.trans HE5.out HE6.out)).step hC7)
          clear hst7 hC7 hfl
          go_wp2_with fail
          rotate_left
          have hx : ∃ F7 E7, LSt w0 a (k + 1) F7 E7 w5 ∧ IdsSt n0 F7 (.slice ia l.length ic) l w5 ∧ Held w5 F7 (fun W => BoxAt W nb 94 #[.int .i64 s.id, .slice ra s.recs.length rc, .slice ta s.tail.length tc, .bool s.listed, .bool s.gone]) :=
            ⟨F, E, ⟨HST.out.disk.ext (HEA.out.trans HE5.out), HST.out.built.more (by omega), HST.out.ext.trans (HEA.out.trans HE5.out), HST.out.low⟩, HI.out.to (HEA.out.trans HE5.out), HBA.out.ext HE5.out⟩
          obtain ⟨F7, E7, hst7, hi7, hb7⟩ := hx
          have HST7 := Lib.hid hst7; have HI7 := Lib.hid hi7; have HB7 := Lib.hid hb7
          clear hst7 hi7 hb7 hown5 hgrow5 q5 q4 q2 q1 s0 s3 s4
          all_goals
            rename World => wz
            have hin := in_any (.slice ia l.length ic) l (y : Int) wz HI7.out.own.ints
            have q3 := (HB7.out.get.cell 3).trans (show _ = some (Value.bool s.listed) from rfl)
            have HIN := Lib.hid hin; clear hin
            refine HIN.out.mono ?_
            rintro e w8 ⟨rfl, hw8⟩
            rw [hw8]
            clear hw8 w8 HIN
            cases hsl : s.listed with
            | false =>
              rw [hsl] at q3
              go_wp2
              go_roundw
              case rel => exact ⟨k + 1, F7, E7, l, by omega, by go_num, HST7.out, by omega, HI7.out⟩
              case measure => simp [intOf]; omega
            | true =>
              rw [hsl] at q3
              cases hyl : decide ((y : Int) ∈ l) with
              | true =>
                go_wp2
                go_roundw
                case rel => exact ⟨k + 1, F7, E7, l, by omega, by go_num, HST7.out, by omega, HI7.out⟩
                case measure => simp [intOf]; omega
              | false =>
                have hszz : n0 ≤ wz.heap.size := by have := HST7.out.ext.size; omega
                have hsz0 : wz.heap.size ≤ (wz.alloc (.cells #[.int .i64 y] 3)).heap.size := by simp
                go_wp2_with (at_builtin; go_must (refine wpList_append_src rfl _ _ 69 rfl n0 3 ii (.int .i64 0) 1 8 Tryz.underlying69 hii hi0 hi1 hi2 rfl (by omega) (.slice ia l.length ic) l.length _ rfl (World.ownsRow.alloc HI7.out.own (.cells #[.int .i64 y] 3)) (.slice (some ⟨wz.heap.size, 0, none⟩) 1 1) 1 [.int .i64 y] rfl (slice_one wz _ _) rfl (by simp [Value.oneCell']) (by unfold maxLen; omega) (by omega) (by omega) ?_); intro b9 c9 w9 hown9 hgrow9 hat9)
                have hO9 : OwnI w9 n0 (.slice b9 (l.length + 1) c9) (l ++ [(y : Int)]) := by
                  unfold OwnI; rw [List.map_append, List.length_append]; exact hown9
                have hEz : Ext w0 (wz.alloc (.cells #[.int .i64 y] 3)) := HST7.out.ext.new _
                have hE9 : Ext w0 w9 := Below.grown hEz hgrow9 (by have := hEz.size; omega) (fun r hr => by have := (World.ownsRow.lt HI7.out.own r hr).1; omega)
                have hD9 : DiskAt w9 F7 a E7 := HST7.out.disk.frame (fun b hb => by
                  have hlt := HST7.out.disk.low b hb
                  refine (hgrow9.block b (by simp; omega) (fun e => HI7.out.off b e.symm hb)).trans ?_
                  exact heap_alloc_old _ _ hlt) (by have := hgrow9.size; omega)
                have hI9 : IdsSt n0 F7 (.slice b9 (l.length + 1) c9) (l ++ [(y : Int)]) w9 := ⟨hO9, fun b hb hF => by
                  rcases hat9 with h | h
                  · exact HI7.out.off b (h.symm.trans hb) hF
                  · have := HST7.out.disk.low b hF
                    rw [h] at hb; injection hb with hb; simp at hb; omega⟩
                have HST9 := Lib.hid (⟨hD9, HST7.out.built, hE9, HST7.out.low⟩ : LSt w0 a (k + 1) F7 E7 w9); have HI9 := Lib.hid hI9
                clear hO9 hEz hE9 hD9 hI9 hown9 hgrow9 hat9
                go_roundw
                case rel => exact ⟨k + 1, F7, E7, l ++ [(y : Int)], by omega, by go_num, HST9.out, by simp; omega, HI9.out⟩
                case measure => simp [intOf]; omega
    · obtain rfl : k = d.segs.length := by omega
      have b2 := HST.out.ext.cell B2.out
      have hwm := refWriteMan_any d.gen (.slice ia l.length ic) l wr HI.out.own.ints
      have HWM := Lib.hid hwm; clear hwm
      obtain ⟨nB, hnB⟩ : ∃ nB, wr.heap.size = nB := ⟨_, rfl⟩
      go_wp2_with fail
      refine HWM.out.mono ?_
      rintro e w2 ⟨x, rfl, hE2, hcase⟩
      obtain ⟨ml, hml, hox⟩ : ∃ ml : List UInt8, ml.length ≤ 300 ∧ OwnB w2 nB x ml := by
        rcases hcase with ⟨hok, hO⟩ | ⟨-, rfl⟩
        · have h60 : l.length ≤ 60 := by unfold idsOK at hok; simp only [Bool.and_eq_true, decide_eq_true_eq] at hok; exact hok.1
          exact ⟨_, by unfold summed manBody; simp [be_length, idBytes_length]; omega, hnB ▸ hO⟩
        · exact ⟨[], by simp, ownB_nil _ _⟩
      obtain ⟨xa, xc, rfl⟩ := ownsRow_form hox
      have hst2 := HST.out.to hE2
      have b3 := hst2.ext.cell B3.out
      have b4 := hst2.ext.cell B4.out
      have hsz2 : nB ≤ w2.heap.size := by have := hE2.size; omega
      have hsp := HS.out.spoilt
      have HOX := Lib.hid hox; have HST2 := Lib.hid hst2; have HSB := Lib.hid (H3.out.ext hst2.ext); have HE2 := Lib.hid hE2
      obtain ⟨z, hz⟩ : ∃ z, (if idsOK l = true then (0 : Int) else 4) = z := ⟨_, rfl⟩
      rw [hz]
      clear hox hst2 hcase hE2 hz b0 b2
      go_upto_region 24 with fail
      go_cut [103] (fun c wx => wx = w2 ∧ c = .bool (decide (0 < d.spoilt.length) && !d.whole))
      case first =>
        by_cases hs0 : 0 < d.spoilt.length
        · have he : (decide (0 < d.spoilt.length) && !d.whole) = !d.whole := by rw [decide_eq_true hs0]; rfl
          go_wp2_with fail
          go_meet
          exact ⟨rfl, by rw [he]⟩
        · have he : (decide (0 < d.spoilt.length) && !d.whole) = false := by rw [decide_eq_false hs0]; rfl
          go_wp2_with fail
          go_meet
          exact ⟨rfl, by rw [he]⟩
      case rest =>
        obtain ⟨hwc, rfl⟩ := hcut
        subst hwc
        generalize (decide (0 < d.spoilt.length) && !d.whole) = cc
        go_upto_if 103 with fail
        go_cut [17] (fun v wx => wx = wc ∧ ∃ l' : List UInt8, l'.length ≤ 300 ∧ OwnB wx nB v l')
        case first =>
          cases cc
          · go_wp2_with fail
            go_meet
            exact ⟨rfl, ml, hml, HOX.out⟩
          · go_wp2_with fail
            go_meet
            exact ⟨rfl, [], by simp, ownB_nil _ _⟩
        case rest =>
          obtain ⟨hwc, ml2, hml2, hox2⟩ := hcut
          obtain ⟨xa2, xc2, rfl⟩ := ownsRow_form hox2
          subst hwc
          have HOX2 := Lib.hid hox2; clear hox2 HOX
          go_upto_if 110 with (at_builtin; go_must (refine wpList_append_src rfl _ _ 25 rfl nB 5 i0 (.int .u8 0) 1 1 Tryz.underlying25 hi hz0 hz1 hz2 rfl (by omega) (.slice xa2 ml2.length xc2) ml2.length (ml2.map byteV) rfl HOX2.out (.slice a3 d.spoilt.length c3) d.spoilt.length (d.spoilt.map byteV) rfl HSB.out (by simp) (byteV_one _) (by unfold maxLen; omega) (by omega) hsz2 ?_); intro b10 c10 w10 hown10 hgrow10 hat10; clear hat10; obtain ⟨u10, hu10⟩ : ∃ u, Value.slice b10 (ml2.length + d.spoilt.length) c10 = u := ⟨_, rfl⟩; rw [hu10] at hown10 ⊢; obtain ⟨lst, hl10, hO10⟩ : ∃ lst : List UInt8, lst.length ≤ 41000 ∧ OwnB w10 nB u10 lst := ⟨ml2 ++ d.spoilt, by rw [List.length_append]; omega, by unfold OwnB; rw [List.map_append, List.length_append]; exact hown10⟩; have hst10 := HST.out.to (Below.grown HE2.out hgrow10 HE2.out.size (fun r hr => by have := (HOX2.out.lt r hr); omega)); have b5 := hst10.ext.cell B5.out; have HO10 := Lib.hid hO10; have HST10 := Lib.hid hst10; clear hO10 hst10 hown10 hgrow10 hu10)
          go_cut [5] (fun v wx => v = .pointer (some ⟨a, 0, none⟩) ∧ ∃ F7 E7, LSt w0 a 61 F7 E7 wx)
          case first =>
            have hby : Held w10 F (fun W => Bytes W u10 lst) := (Held.ownB HO10.out fun b hb hF => by have := (HO10.out.lt b hb).1; have := HST.out.disk.low b hF; omega).mono fun W hW => OwnB.bytes hW
            have hfile := file_any F a E d.segs.length bManifest u10 lst w10 HST10.out.disk HST10.out.built (by omega) (by simp [bManifest]) hby (by omega) (Held.laid HL0.out HST10.out.ext HST10.out.low)
            unfold nodeV strV bManifest at hfile
            have HFILE := Lib.hid hfile; clear hfile hby
            go_wp2_with fail
            all_goals
              first
              | (refine HFILE.out.mono ?_
                 rintro e wz hfl
                 obtain rfl := hfl.1
                 obtain ⟨F7, E7, hst7, -⟩ := HST10.out.file hfl
                 have HST7 := Lib.hid (hst7.more (m := 61) (by omega))
                 clear hst7 hfl
                 go_wp2_with fail
                 go_meet
                 exact ⟨rfl, F7, E7, HST7.out⟩)
              | (go_meet
                 exact ⟨rfl, F, E, HST10.out.more (by omega)⟩)
          case rest =>
            obtain ⟨rfl, F7, E7, hst7⟩ := hcut
            have HST7 := Lib.hid hst7
            clear b5 b4 b3 hst7 HO10 HST10 HSB HOX2 HI HST HE2 HWM
            go_wp2_with fail
            go_loopw [19] (fun i wq => ∃ (k2 : Nat) (F : Nat → Prop) (E : D), k2 ≤ d.others.length ∧ i = .int .i64 k2 ∧ LSt w0 a (61 + k2) F E wq) (fun i _ => d.others.length - (intOf i).toNat)
            case atStart => exact ⟨0, F7, E7, by omega, rfl, HST7.out⟩
            case round =>
              obtain ⟨k2, F, E, hk2, rfl, hST⟩ := hrel
              have b1 := hST.ext.cell B1.out
              have HST := Lib.hid hST; clear hST
              have hot := HS.out.others
              by_cases hlt2 : k2 < d.others.length
              · obtain ⟨s, hs⟩ : ∃ s, d.others[k2]? = some s := ⟨_, List.getElem?_eq_getElem hlt2⟩
                obtain ⟨hn1, hn2⟩ := HS.out.other s (List.mem_of_getElem? hs)
                obtain ⟨b, rfl, u2, s0, s1, s2, hby⟩ := H1.out.at hs
                replace s0 := HST.out.ext.cell s0
                replace s1 := HST.out.ext.cell s1
                replace s2 := HST.out.ext.cell s2
                obtain ⟨ba, bc, rfl, hbc, hbc', -⟩ := hby.open
                have hbh : Held w0 (fun _ => False) (fun W => Bytes W (.slice ba s.bytes.length bc) s.bytes) := Held.bytes hby (fun _ _ _ _ h => h)
                have HBH := Lib.hid hbh; clear hbh hby hs
                by_cases hh : 0 < s.hint
                · have hid := id_any s.hint wr
                  have HID := Lib.hid hid; clear hid
                  go_wp2_with fail
                  refine HID.out.mono ?_
                  rintro e w2 ⟨y, rfl, hy1, hy2, hw2⟩
                  rw [hw2]; clear hw2 w2
                  have hnm := refName_any bHint y wr (by simp [bHint]) hy2
                  have HNM := Lib.hid hnm; clear hnm
                  unfold strV bHint at HNM
                  go_wp2_with fail
                  refine HNM.out.mono ?_
                  rintro e w6 ⟨rfl, hE6⟩
                  have hst6 := HST.out.to hE6
                  have d1 := hE6.cell b1
                  have t2 := hE6.cell s2
                  have hfile := file_any F a E (61 + k2) (segName bHint y) _ s.bytes w6 hst6.disk hst6.built (by omega) (by rw [segName_len']; simp [bHint]) (HBH.out.lift hst6.ext hst6.low) (by omega) (Held.laid HL0.out hst6.ext hst6.low)
                  have HFL := Lib.hid hfile; have HST6 := Lib.hid hst6; clear hfile hst6 hE6 b1 s0 s1 s2
                  unfold nodeV strV bHint at HFL
                  go_wp2_with fail
                  refine HFL.out.mono ?_
                  rintro e w7 hfl
                  obtain rfl := hfl.1
                  obtain ⟨F8, E8, hst8, -⟩ := HST6.out.file hfl
                  have HST8 := Lib.hid hst8; clear hst8 hfl
                  go_wp2_with fail
                  go_roundw
                  case rel => exact ⟨k2 + 1, F8, E8, by omega, by go_num, HST8.out⟩
                  case measure => simp [intOf]; omega
                · have hfile := file_any F a E (61 + k2) s.name.data.toList _ s.bytes wr HST.out.disk HST.out.built (by omega) (by have := size_data s.name; omega) (HBH.out.lift HST.out.ext HST.out.low) (by omega) (Held.laid HL0.out HST.out.ext HST.out.low)
                  rw [strV_data] at hfile
                  have HFL := Lib.hid hfile; clear hfile
                  unfold nodeV at HFL
                  go_wp2_with fail
                  refine HFL.out.mono ?_
                  rintro e w7 hfl
                  obtain rfl := hfl.1
                  obtain ⟨F8, E8, hst8, -⟩ := HST.out.file hfl
                  have HST8 := Lib.hid hst8; clear hst8 hfl
                  go_wp2_with fail
                  go_roundw
                  case rel => exact ⟨k2 + 1, F8, E8, by omega, by go_num, HST8.out⟩
                  case measure => simp [intOf]; omega
              · obtain rfl : k2 = d.others.length := by omega
                have hsy := syncDir_any F a E wr HST.out.disk (by have := HST.out.built.mlen; omega) (fun l hl => ⟨(HST.out.built.mnames l hl).1, fun m hm => by have := (HST.out.built.mnames l hl).2 m hm; unfold maxLen; omega⟩)
                obtain ⟨E', hE', hsafe, hnow, hids, hnode⟩ := HST.out.built.syncDir
                rw [hE'] at hsy
                have HSY := Lib.hid hsy; clear hsy
                unfold nodeV at HSY
                go_wp2_with fail
                refine HSY.out.mono ?_
                rintro e w7 ⟨F8, v8, rfl, -, hD8, hC8, -⟩
                have hfin : LDiskIs w (.returned (nodeV a)) w7 := by
                  refine ⟨a, F8, E', rfl, hD8, hsafe, fun x hx => ?_, ?_, fun p hp => ?_, ?_, fun b hb => ?_⟩
                  · rw [hnode]; rw [hids] at hx; exact HST.out.built.bound x hx
                  · rw [hnow]; have := HST.out.built.len; omega
                  · rw [hnow] at hp; exact HST.out.built.names p hp
                  · exact HEW.out.trans (HST.out.ext.trans' (hC8.below HST.out.low HST.out.ext.size))
                  · have h1 := HEW.out.size
                    have h2 := HST.out.ext.size
                    rcases hC8.grow b hb with h | h
                    · have := HST.out.low b h; omega
                    · omega
                have HFN := Lib.hid hfin; clear hfin hD8 hC8
                unfold nodeV at HFN
                go_wp2
                go_ret
                exact HFN.out
end Go.Proofs.YtgpbhjjajpbeeaaGreatDoor
