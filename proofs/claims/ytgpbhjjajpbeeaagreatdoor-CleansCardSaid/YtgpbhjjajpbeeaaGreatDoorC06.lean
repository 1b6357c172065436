/-
  The walk of record.Decode: what Pl.dec says of the bytes. No condition.
-/
import Derived.Test.YtgpbhjjajpbeeaaGreatDoorC05
set_option linter.unusedSimpArgs false
set_option linter.unusedVariables false
set_option linter.unnecessarySimpa false
namespace Go.Proofs.YtgpbhjjajpbeeaaGreatDoor
open Go.RowKit Go.Lib Pl

def zeroRec : Value := .agg #[.int .u64 0, .string ⟨#[]⟩, .string ⟨#[]⟩, .bool false]
/-- what Decode answers -/
def decV : Option Rec → Value
  | none => .tuple #[zeroRec, .int .i64 0, errV 3]
  | some r => .tuple #[.agg #[.int .u64 r.seq, .string ⟨r.key.toArray⟩, .string ⟨r.val.toArray⟩, .bool r.del], .int .i64 r.size, .nilIface]
def DecIs (r : Option Rec) (w : World) (e : Ending) (w' : World) : Prop := e = .returned (decV r) ∧ Ext w w'
theorem BoxAt.set {w : World} {n : Nat} {t : TypeId} {cs : Array Value} (h : BoxAt w n t cs) (i : Nat) (u : Value) : BoxAt (w.setCell ⟨n, i, none⟩ u) n t (cs.setIfInBounds i u) := by
  unfold BoxAt at *
  simp [World.setCell, Array.getElem?_modify, h]
theorem BoxAt.setOther {w : World} {n : Nat} {t : TypeId} {cs : Array Value} (h : BoxAt w n t cs) {a : Addr} (ha : a.block ≠ n) (u : Value) : BoxAt (w.setCell a u) n t cs :=
  (Below.heap_setCell _ _ _ _ (Ne.symm ha)).trans h
theorem BoxAt.free {w : World} {n : Nat} {t : TypeId} {cs : Array Value} (h : BoxAt w n t cs) (i : Nat) : w.frozen? ⟨n, i, none⟩ = false := by
  unfold BoxAt at h; simp [World.frozen?, h]

theorem Ext.setN {w w' : World} (h : Ext w w') {a : Addr} (ha : w.heap.size ≤ a.block) {u : Value} : Ext w (w'.setCell a u) := h.setCell (p := a) ha u

set_option maxRecDepth 100000 in
set_option maxHeartbeats 2000000 in
theorem decode_any (v : Value) (l : List UInt8) (w : World) (h : Bytes w v l) :
    Calls Tryz.prog 71 #[v] w (DecIs (dec l) w) := by
  obtain ⟨⟨m1, s1⟩, e1⟩ : ∃ p, p = rdN (l, false) 4 := ⟨_, rfl⟩
  obtain ⟨⟨m2, s2⟩, e2⟩ : ∃ p, p = rdN s1 8 := ⟨_, rfl⟩
  obtain ⟨⟨fl, s3⟩, e3⟩ : ∃ p, p = rdN s2 1 := ⟨_, rfl⟩
  obtain ⟨⟨k, s4⟩, e4⟩ : ∃ p, p = rdN s3 1 := ⟨_, rfl⟩
  obtain ⟨⟨vl, s5⟩, e5⟩ : ∃ p, p = rdN s4 2 := ⟨_, rfl⟩
  obtain ⟨⟨key, s6⟩, e6⟩ : ∃ p, p = rdT s5 k := ⟨_, rfl⟩
  obtain ⟨⟨val, s7⟩, e7⟩ : ∃ p, p = rdT s6 vl := ⟨_, rfl⟩
  obtain ⟨hk, hvl, hall⟩ := rd_all e1 e2 e3 e4 e5 e6 e7
  have HA := Lib.hid hall; clear hall
  have E1 := Lib.hid e1; have E2 := Lib.hid e2; have E3 := Lib.hid e3; have E4 := Lib.hid e4; have E5 := Lib.hid e5; have E6 := Lib.hid e6; have E7 := Lib.hid e7
  clear e1 e2 e3 e4 e5 e6 e7
  obtain ⟨a, cap, rfl, h1, h2, h3⟩ := id h
  have HL := Lib.hid (BytesL.of h)
  clear h h2 h3
  go_enter Tryz.func71, Tryz.ntmps71
  go_wp2_with fail
  have x0 : BoxAt (w.alloc (.cells #[.int .u64 0, .string ⟨#[]⟩, .string ⟨#[]⟩, .bool false] 111)) w.heap.size 111 #[.int .u64 0, .string ⟨#[]⟩, .string ⟨#[]⟩, .bool false] := heap_alloc_new w _
  have y0 : BoxAt ((w.alloc (.cells #[.int .u64 0, .string ⟨#[]⟩, .string ⟨#[]⟩, .bool false] 111)).alloc (.cells #[.int .u64 0, .string ⟨#[]⟩, .string ⟨#[]⟩, .bool false] 111)) (w.heap.size + 1) 111 #[.int .u64 0, .string ⟨#[]⟩, .string ⟨#[]⟩, .bool false] := BoxAt.new _ _ (by simp)
  have X := (x0.alloc (.cells #[.int .u64 0, .string ⟨#[]⟩, .string ⟨#[]⟩, .bool false] 111)).alloc (.cells #[.slice a l.length cap, .bool false] 241)
  have Y := y0.alloc (.cells #[.slice a l.length cap, .bool false] 241)
  have hEx : Ext w (((w.alloc (.cells #[.int .u64 0, .string ⟨#[]⟩, .string ⟨#[]⟩, .bool false] 111)).alloc (.cells #[.int .u64 0, .string ⟨#[]⟩, .string ⟨#[]⟩, .bool false] 111)).alloc (.cells #[.slice a l.length cap, .bool false] 241)) := (((Ext.refl w).new _).new _).new _
  have hR : ReaderAt (((w.alloc (.cells #[.int .u64 0, .string ⟨#[]⟩, .string ⟨#[]⟩, .bool false] 111)).alloc (.cells #[.int .u64 0, .string ⟨#[]⟩, .string ⟨#[]⟩, .bool false] 111)).alloc (.cells #[.slice a l.length cap, .bool false] 241)) (w.heap.size + 1 + 1) w.heap.size l false := by
    refine ⟨.slice a l.length cap, ?_, by omega, HL.out.below hEx⟩
    exact BoxAt.new _ _ (by simp)
  clear x0 y0
  have c1 := rnumber_any (w.heap.size + 1 + 1) w.heap.size 4 (l, false) _ hR (by omega)
  rw [← E1.out] at c1
  refine c1.mono ?_
  clear c1 hR
  rintro e w1 ⟨rfl, hR, hb⟩
  replace hEx := Below.trans hEx (hb.mono (by omega))
  replace X := X.below hb (by omega)
  replace Y := Y.below hb (by omega)
  clear hb
  go_wp2_with fail
  have c2 := rnumber_any (w.heap.size + 1 + 1) w.heap.size 8 s1 _ hR (by omega)
  rw [← E2.out] at c2
  refine c2.mono ?_
  clear c2 hR
  rintro e w2 ⟨rfl, hR, hb⟩
  replace hEx := Below.trans hEx (hb.mono (by omega))
  replace X := X.below hb (by omega)
  replace Y := Y.below hb (by omega)
  clear hb
  have yc : w2.cell? ⟨w.heap.size + 1, 0, none⟩ = some (.int .u64 0) := Y.cell 0
  have yf := Y.free 0
  go_wp2_with fail
  clear yc yf
  replace hR := hR.set (a := ⟨w.heap.size + 1, 0, none⟩) (by simp) (by simp) (.int .u64 m2)
  replace X := X.setOther (a := ⟨w.heap.size + 1, 0, none⟩) (by simp) (.int .u64 m2)
  replace Y := Y.set 0 (.int .u64 m2)
  replace hEx := hEx.setCell (p := ⟨w.heap.size + 1, 0, none⟩) (by simp) (.int .u64 m2)
  have c3 := rnumber_any (w.heap.size + 1 + 1) w.heap.size 1 s2 _ hR (by omega)
  rw [← E3.out] at c3
  refine c3.mono ?_
  clear c3 hR
  rintro e w3 ⟨rfl, hR, hb⟩
  replace hEx := Below.trans hEx (hb.mono (by omega))
  replace X := X.below hb (by omega)
  replace Y := Y.below hb (by omega)
  clear hb
  go_wp2_with fail
  have c4 := rnumber_any (w.heap.size + 1 + 1) w.heap.size 1 s3 _ hR (by omega)
  rw [← E4.out] at c4
  refine c4.mono ?_
  clear c4 hR
  rintro e w4 ⟨rfl, hR, hb⟩
  replace hEx := Below.trans hEx (hb.mono (by omega))
  replace X := X.below hb (by omega)
  replace Y := Y.below hb (by omega)
  clear hb
  go_wp2_with fail
  have c5 := rnumber_any (w.heap.size + 1 + 1) w.heap.size 2 s4 _ hR (by omega)
  rw [← E5.out] at c5
  refine c5.mono ?_
  clear c5 hR
  rintro e w5 ⟨rfl, hR, hb⟩
  replace hEx := Below.trans hEx (hb.mono (by omega))
  replace X := X.below hb (by omega)
  replace Y := Y.below hb (by omega)
  clear hb
  go_wp2_with fail
  have c6 := rtext_any (w.heap.size + 1 + 1) w.heap.size k s5 _ hR
  rw [← E6.out] at c6
  refine c6.mono ?_
  clear c6 hR
  rintro e w6 ⟨rfl, hR, hb⟩
  replace hEx := Below.trans hEx (hb.mono (by omega))
  replace X := X.below hb (by omega)
  replace Y := Y.below hb (by omega)
  clear hb
  go_wp2_with fail
  have c7 := rtext_any (w.heap.size + 1 + 1) w.heap.size vl s6 _ hR
  rw [← E7.out] at c7
  refine c7.mono ?_
  clear c7 hR
  rintro e w7 ⟨rfl, hR, hb⟩
  replace hEx := Below.trans hEx (hb.mono (by omega))
  replace X := X.below hb (by omega)
  replace Y := Y.below hb (by omega)
  clear hb
  have yc1 : w7.cell? ⟨w.heap.size + 1, 1, none⟩ = some (.string ⟨#[]⟩) := Y.cell 1
  have yc2 : w7.cell? ⟨w.heap.size + 1, 2, none⟩ = some (.string ⟨#[]⟩) := Y.cell 2
  have yc3 : w7.cell? ⟨w.heap.size + 1, 3, none⟩ = some (.bool false) := Y.cell 3
  have yf1 := Y.free 1
  have yf2 := Y.free 2
  have yf3 := Y.free 3
  have xc0 : w7.cell? ⟨w.heap.size, 0, none⟩ = some (.int .u64 0) := X.cell 0
  have xc1 : w7.cell? ⟨w.heap.size, 1, none⟩ = some (.string ⟨#[]⟩) := X.cell 1
  have xc2 : w7.cell? ⟨w.heap.size, 2, none⟩ = some (.string ⟨#[]⟩) := X.cell 2
  have xc3 : w7.cell? ⟨w.heap.size, 3, none⟩ = some (.bool false) := X.cell 3
  have xf0 := X.free 0
  have xf1 := X.free 1
  have xf2 := X.free 2
  have xf3 := X.free 3
  have hwk : IntKind.i64.wrap (k : Int) = (k : Int) := IntWalk.i64_in _ (by omega)
  have hwv : IntKind.i64.wrap (vl : Int) = (vl : Int) := IntWalk.i64_in _ (by omega)
  obtain ⟨rv, hr1, hr2, hr3⟩ := hR
  obtain ⟨rc0, rc1, rf0, rf1⟩ := two_cells hr1
  clear hr1 hr2 hr3 rf0 rf1 rc0
  by_cases hbad : s7.2 = true
  · have hd : dec l = none := by
      rcases HA.out with ⟨_, h⟩ | ⟨h, _⟩
      · unfold dec good; rw [decide_eq_false (by omega)]; rfl
      · rw [hbad] at h; cases h

    rw [hbad] at rc1
    go_wp2
    refine bodyPost_ret (v := decV none) ?_ rfl ⟨by rw [hd], ?_⟩
    · simp [results, Tryz.results71, go_sem, xc0, xc1, xc2, xc3, decV, zeroRec, errV]
    · repeat' refine Ext.setN ?_ (by simp)
      exact hEx
  replace hbad : s7.2 = false := Bool.eq_false_iff.2 hbad
  rw [hbad] at rc1
  obtain ⟨hlen, rfl, rfl, rfl, rfl, rfl, rfl, rfl⟩ : 16 + klen l + vlen l ≤ l.length ∧ m1 = num (List.take 4 l) ∧ m2 = num (List.take 8 (List.drop 4 l)) ∧ fl = flagOf l ∧ k = klen l ∧ vl = vlen l ∧ key = List.take k (List.drop 16 l) ∧ val = List.take vl (List.drop (16 + k) l) := by
    rcases HA.out with ⟨h, _⟩ | ⟨_, h⟩
    · rw [hbad] at h; cases h
    · exact h
  have HD : good l = false → dec l = none := by intro h; unfold dec; rw [h]; rfl
  by_cases c1 : 1 < flagOf l
  · have hd : dec l = none := HD (by unfold good; rw [show decide (flagOf l ≤ 1) = false from decide_eq_false (by omega)]; simp)
    go_wp2
    refine bodyPost_ret (v := decV none) ?_ rfl ⟨by rw [hd], ?_⟩
    · simp [results, Tryz.results71, go_sem, xc0, xc1, xc2, xc3, decV, zeroRec, errV]
    · repeat' refine Ext.setN ?_ (by simp)
      exact hEx
  by_cases c2 : klen l < 1
  · have hd : dec l = none := HD (by unfold good; rw [show decide (1 ≤ klen l) = false from decide_eq_false (by omega)]; simp)
    go_wp2
    refine bodyPost_ret (v := decV none) ?_ rfl ⟨by rw [hd], ?_⟩
    · simp [results, Tryz.results71, go_sem, xc0, xc1, xc2, xc3, decV, zeroRec, errV]
    · repeat' refine Ext.setN ?_ (by simp)
      exact hEx
  by_cases c3 : 16 < klen l
  · have hd : dec l = none := HD (by unfold good; rw [show decide (klen l ≤ 16) = false from decide_eq_false (by omega)]; simp)
    go_wp2
    refine bodyPost_ret (v := decV none) ?_ rfl ⟨by rw [hd], ?_⟩
    · simp [results, Tryz.results71, go_sem, xc0, xc1, xc2, xc3, decV, zeroRec, errV]
    · repeat' refine Ext.setN ?_ (by simp)
      exact hEx
  by_cases c4 : 64 < vlen l
  · have hd : dec l = none := HD (by unfold good; rw [show decide (vlen l ≤ 64) = false from decide_eq_false (by omega)]; simp)
    go_wp2
    refine bodyPost_ret (v := decV none) ?_ rfl ⟨by rw [hd], ?_⟩
    · simp [results, Tryz.results71, go_sem, xc0, xc1, xc2, xc3, decV, zeroRec, errV]
    · repeat' refine Ext.setN ?_ (by simp)
      exact hEx
  by_cases c5 : flagOf l = 1 ∧ 0 < vlen l
  · have hd : dec l = none := HD (by unfold good; rw [show decide (flagOf l = 1) = true from decide_eq_true (by omega), show decide (0 < vlen l) = true from decide_eq_true (by omega)]; simp)
    have hv0 := c5.2
    have hf1 : ((flagOf l : Int) == 1) = true := beq_iff_eq.2 (by omega)
    go_wp2
    refine bodyPost_ret (v := decV none) ?_ rfl ⟨by rw [hd], ?_⟩
    · simp [results, Tryz.results71, go_sem, xc0, xc1, xc2, xc3, decV, zeroRec, errV]
    · repeat' refine Ext.setN ?_ (by simp)
      exact hEx
  by_cases hf : flagOf l = 1
  · have hv0 : ¬ 0 < vlen l := fun h => c5 ⟨hf, h⟩
    have hf1 : ((flagOf l : Int) == 1) = true := beq_iff_eq.2 (by omega)
    have hsl : ∀ W : World, Below w.heap.size w W → Bytes W (.slice (a.map (fun x => ⟨x.block, x.off + 4, none⟩)) (16 + klen l + vlen l - 4) (cap - 4)) ((l.take (16 + klen l + vlen l)).drop 4) := by
      intro W hW
      have := ((HL.out.below hW).sliced 4 (16 + klen l + vlen l) (by omega) (by omega)).1
      rw [if_neg (by omega)] at this
      exact this
    have HS := Lib.hid hsl; clear hsl
    have hcap : 16 + klen l + vlen l ≤ cap := by omega
    have hm1 : num (l.take 4) < 4294967296 := num_take_lt l 4
    have hEx' : Ext w (((w7.setCell ⟨w.heap.size + 1, 1, none⟩ (.string ⟨(List.take (klen l) (List.drop 16 l)).toArray⟩)).setCell ⟨w.heap.size + 1, 2, none⟩ (.string ⟨(List.take (vlen l) (List.drop (16 + klen l) l)).toArray⟩)).setCell ⟨w.heap.size + 1, 3, none⟩ (.bool true)) := by
      repeat' refine Ext.setN ?_ (by simp)
      exact hEx
    have X' : BoxAt (((w7.setCell ⟨w.heap.size + 1, 1, none⟩ (.string ⟨(List.take (klen l) (List.drop 16 l)).toArray⟩)).setCell ⟨w.heap.size + 1, 2, none⟩ (.string ⟨(List.take (vlen l) (List.drop (16 + klen l) l)).toArray⟩)).setCell ⟨w.heap.size + 1, 3, none⟩ (.bool true)) w.heap.size 111 #[.int .u64 0, .string ⟨#[]⟩, .string ⟨#[]⟩, .bool false] := by
      repeat' refine BoxAt.setOther ?_ (by simp) _
      exact X
    have Y' : BoxAt (((w7.setCell ⟨w.heap.size + 1, 1, none⟩ (.string ⟨(List.take (klen l) (List.drop 16 l)).toArray⟩)).setCell ⟨w.heap.size + 1, 2, none⟩ (.string ⟨(List.take (vlen l) (List.drop (16 + klen l) l)).toArray⟩)).setCell ⟨w.heap.size + 1, 3, none⟩ (.bool true)) (w.heap.size + 1) 111 #[.int .u64 (num ((l.drop 4).take 8)), .string ⟨(List.take (klen l) (List.drop 16 l)).toArray⟩, .string ⟨(List.take (vlen l) (List.drop (16 + klen l) l)).toArray⟩, .bool true] :=
      ((Y.set 1 _).set 2 _).set 3 _
    go_wp2_with fail
    refine (sum_any _ _ _ (HS.out _ hEx')).mono ?_
    rintro e w8 ⟨rfl, hw⟩
    rw [hw] at X' Y' hEx'
    clear hw X Y hEx
    clear xc0 xc1 xc2 xc3 xf0 xf1 xf2 xf3 yc1 yc2 yc3 yf1 yf2 yf3
    have xc0 := X'.cell 0
    have xc1 := X'.cell 1
    have xc2 := X'.cell 2
    have xc3 := X'.cell 3
    have xf0 := X'.free 0
    have xf1 := X'.free 1
    have xf2 := X'.free 2
    have xf3 := X'.free 3
    have yc0 := Y'.cell 0
    have yc1 := Y'.cell 1
    have yc2 := Y'.cell 2
    have yc3 := Y'.cell 3
    have hwc : IntKind.u64.wrap (crc ((l.take (16 + klen l + vlen l)).drop 4) : Int) = (crc ((l.take (16 + klen l + vlen l)).drop 4) : Int) := by
      have := crc_lt ((l.take (16 + klen l + vlen l)).drop 4)
      rw [IntKind.wrap_u64]; omega
    by_cases hcr : crc ((l.take (16 + klen l + vlen l)).drop 4) = num (l.take 4)
    · have hcr' : ((crc ((l.take (16 + klen l + vlen l)).drop 4) : Int) != (num (l.take 4) : Int)) = false := by rw [bne, beq_iff_eq.2 (by omega)]; rfl
      go_wp2
      refine bodyPost_ret (v := decV (some ⟨num ((l.drop 4).take 8), (l.drop 16).take (klen l), (l.drop (16 + klen l)).take (vlen l), true, 16 + klen l + vlen l⟩)) ?_ rfl ⟨?_, ?_⟩
      · simp [results, Tryz.results71, go_sem, xc0, xc1, xc2, xc3, decV, zeroRec, errV]
      · unfold dec
        rw [if_pos (by unfold good; rw [decide_eq_true hlen, decide_eq_true hcr, decide_eq_true (show flagOf l ≤ 1 by omega), decide_eq_true (show 1 ≤ klen l by omega), decide_eq_true (show klen l ≤ 16 by omega), decide_eq_true (show vlen l ≤ 64 by omega), decide_eq_false (show ¬ 0 < vlen l by omega), Bool.and_false]; rfl)]
        simp [hf]
      · repeat' refine Ext.setN ?_ (by simp)
        exact hEx'
    · have hcr' : ((crc ((l.take (16 + klen l + vlen l)).drop 4) : Int) != (num (l.take 4) : Int)) = true := by rw [bne, beq_eq_false_iff_ne.2 (by omega)]; rfl
      have hd : dec l = none := HD (by unfold good; rw [decide_eq_false hcr]; simp)
      go_wp2
      refine bodyPost_ret (v := decV none) ?_ rfl ⟨by rw [hd], ?_⟩
      · simp [results, Tryz.results71, go_sem, xc0, xc1, xc2, xc3, decV, zeroRec, errV]
      · repeat' refine Ext.setN ?_ (by simp)
        exact hEx'
  · have hf1 : ((flagOf l : Int) == 1) = false := beq_eq_false_iff_ne.2 (by omega)
    have hsl : ∀ W : World, Below w.heap.size w W → Bytes W (.slice (a.map (fun x => ⟨x.block, x.off + 4, none⟩)) (16 + klen l + vlen l - 4) (cap - 4)) ((l.take (16 + klen l + vlen l)).drop 4) := by
      intro W hW
      have := ((HL.out.below hW).sliced 4 (16 + klen l + vlen l) (by omega) (by omega)).1
      rw [if_neg (by omega)] at this
      exact this
    have HS := Lib.hid hsl; clear hsl
    have hcap : 16 + klen l + vlen l ≤ cap := by omega
    have hm1 : num (l.take 4) < 4294967296 := num_take_lt l 4
    have hEx' : Ext w (((w7.setCell ⟨w.heap.size + 1, 1, none⟩ (.string ⟨(List.take (klen l) (List.drop 16 l)).toArray⟩)).setCell ⟨w.heap.size + 1, 2, none⟩ (.string ⟨(List.take (vlen l) (List.drop (16 + klen l) l)).toArray⟩)).setCell ⟨w.heap.size + 1, 3, none⟩ (.bool false)) := by
      repeat' refine Ext.setN ?_ (by simp)
      exact hEx
    have X' : BoxAt (((w7.setCell ⟨w.heap.size + 1, 1, none⟩ (.string ⟨(List.take (klen l) (List.drop 16 l)).toArray⟩)).setCell ⟨w.heap.size + 1, 2, none⟩ (.string ⟨(List.take (vlen l) (List.drop (16 + klen l) l)).toArray⟩)).setCell ⟨w.heap.size + 1, 3, none⟩ (.bool false)) w.heap.size 111 #[.int .u64 0, .string ⟨#[]⟩, .string ⟨#[]⟩, .bool false] := by
      repeat' refine BoxAt.setOther ?_ (by simp) _
      exact X
    have Y' : BoxAt (((w7.setCell ⟨w.heap.size + 1, 1, none⟩ (.string ⟨(List.take (klen l) (List.drop 16 l)).toArray⟩)).setCell ⟨w.heap.size + 1, 2, none⟩ (.string ⟨(List.take (vlen l) (List.drop (16 + klen l) l)).toArray⟩)).setCell ⟨w.heap.size + 1, 3, none⟩ (.bool false)) (w.heap.size + 1) 111 #[.int .u64 (num ((l.drop 4).take 8)), .string ⟨(List.take (klen l) (List.drop 16 l)).toArray⟩, .string ⟨(List.take (vlen l) (List.drop (16 + klen l) l)).toArray⟩, .bool false] :=
      ((Y.set 1 _).set 2 _).set 3 _
    go_wp2_with fail
    refine (sum_any _ _ _ (HS.out _ hEx')).mono ?_
    rintro e w8 ⟨rfl, hw⟩
    rw [hw] at X' Y' hEx'
    clear hw X Y hEx
    clear xc0 xc1 xc2 xc3 xf0 xf1 xf2 xf3 yc1 yc2 yc3 yf1 yf2 yf3
    have xc0 := X'.cell 0
    have xc1 := X'.cell 1
    have xc2 := X'.cell 2
    have xc3 := X'.cell 3
    have xf0 := X'.free 0
    have xf1 := X'.free 1
    have xf2 := X'.free 2
    have xf3 := X'.free 3
    have yc0 := Y'.cell 0
    have yc1 := Y'.cell 1
    have yc2 := Y'.cell 2
    have yc3 := Y'.cell 3
    have hwc : IntKind.u64.wrap (crc ((l.take (16 + klen l + vlen l)).drop 4) : Int) = (crc ((l.take (16 + klen l + vlen l)).drop 4) : Int) := by
      have := crc_lt ((l.take (16 + klen l + vlen l)).drop 4)
      rw [IntKind.wrap_u64]; omega
    by_cases hcr : crc ((l.take (16 + klen l + vlen l)).drop 4) = num (l.take 4)
    · have hcr' : ((crc ((l.take (16 + klen l + vlen l)).drop 4) : Int) != (num (l.take 4) : Int)) = false := by rw [bne, beq_iff_eq.2 (by omega)]; rfl
      go_wp2
      refine bodyPost_ret (v := decV (some ⟨num ((l.drop 4).take 8), (l.drop 16).take (klen l), (l.drop (16 + klen l)).take (vlen l), false, 16 + klen l + vlen l⟩)) ?_ rfl ⟨?_, ?_⟩
      · simp [results, Tryz.results71, go_sem, xc0, xc1, xc2, xc3, decV, zeroRec, errV]
      · unfold dec
        rw [if_pos (by unfold good; rw [decide_eq_true hlen, decide_eq_true hcr, decide_eq_true (show flagOf l ≤ 1 by omega), decide_eq_true (show 1 ≤ klen l by omega), decide_eq_true (show klen l ≤ 16 by omega), decide_eq_true (show vlen l ≤ 64 by omega), decide_eq_false hf]; rfl)]
        simp [hf]
      · repeat' refine Ext.setN ?_ (by simp)
        exact hEx'
    · have hcr' : ((crc ((l.take (16 + klen l + vlen l)).drop 4) : Int) != (num (l.take 4) : Int)) = true := by rw [bne, beq_eq_false_iff_ne.2 (by omega)]; rfl
      have hd : dec l = none := HD (by unfold good; rw [decide_eq_false hcr]; simp)
      go_wp2
      refine bodyPost_ret (v := decV none) ?_ rfl ⟨by rw [hd], ?_⟩
      · simp [results, Tryz.results71, go_sem, xc0, xc1, xc2, xc3, decV, zeroRec, errV]
      · repeat' refine Ext.setN ?_ (by simp)
        exact hEx'
end Go.Proofs.YtgpbhjjajpbeeaaGreatDoor
/-
  What stands where nothing but one block has turned.
-/
namespace Go.Proofs.YtgpbhjjajpbeeaaGreatDoor
open Go.RowKit Go.Lib Pl

/-- nothing has turned but block g -/
structure Off (g : Nat) (w w' : World) : Prop where
  os : w'.os = w.os
  tape : w'.tape = w.tape
  output : w'.output = w.output
  size : w'.heap.size = w.heap.size
  block : ∀ k, k ≠ g → w'.heap[k]? = w.heap[k]?
theorem Off.refl (g : Nat) (w : World) : Off g w w := ⟨rfl, rfl, rfl, rfl, fun _ _ => rfl⟩
theorem Off.trans {g : Nat} {a b c : World} (h : Off g a b) (k : Off g b c) : Off g a c :=
  ⟨k.os.trans h.os, k.tape.trans h.tape, k.output.trans h.output, k.size.trans h.size, fun i hi => (k.block i hi).trans (h.block i hi)⟩
theorem Off.drewN (g : Nat) (w : World) (n : Nat) : Off g w (w.drewN n) := by
  induction n with
  | zero => exact Off.refl g w
  | succ n ih => exact ih.trans ⟨rfl, rfl, rfl, rfl, fun _ _ => rfl⟩
theorem Off.setCell {g : Nat} {w w' : World} (h : Off g w w') (i : Nat) (u : Value) : Off g w (w'.setCell ⟨g, i, none⟩ u) := by
  refine h.trans ⟨rfl, rfl, rfl, by simp [World.setCell], fun k hk => ?_⟩
  simp [World.setCell, Array.getElem?_modify, Ne.symm hk]
theorem Off.below {g B : Nat} {w w' : World} (h : Off g w w') (hB : B ≤ g) : Below B w w' :=
  ⟨h.os, h.tape, h.output, Nat.le_of_eq h.size.symm, fun k hk => h.block k (by omega)⟩
theorem Off.box {g n : Nat} {w w' : World} (h : Off g w w') {t : TypeId} {cs : Array Value} (hb : BoxAt w n t cs) (hn : n ≠ g) : BoxAt w' n t cs := (h.block n hn).trans hb
end Go.Proofs.YtgpbhjjajpbeeaaGreatDoor
