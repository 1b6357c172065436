/-
  The walk of keydirref.Decode: what Pl.dec says of the bytes. No condition.
-/
import Derived.Test.YtgpbhjjajpbeeaaGreatDoorC23
import Derived.Test.YtgpbhjjajpbeeaaGreatDoorC06
import Derived.BigRegion
set_option linter.unusedSimpArgs false
set_option linter.unusedVariables false
set_option linter.unnecessarySimpa false
namespace Go.Proofs.YtgpbhjjajpbeeaaGreatDoor
open Go.RowKit Go.Lib Pl

def zeroRef : Value := .agg #[.int .u64 0, .string ⟨#[]⟩, .string ⟨#[]⟩, .bool false, .int .i64 0]
def refDecV : Option Rec → Value
  | none => .tuple #[zeroRef, .bool false]
  | some r => .tuple #[.agg #[.int .u64 r.seq, .string ⟨r.key.toArray⟩, .string ⟨r.val.toArray⟩, .bool r.del, .int .i64 r.size], .bool true]
def RefDecIs (r : Option Rec) (w : World) (e : Ending) (w' : World) : Prop := e = .returned (refDecV r) ∧ Ext w w'
theorem num_one (b : UInt8) : num [b] = b.toNat := by simp [num]
theorem one_at {l : List UInt8} {k : Nat} (h : k < l.length) : (l.drop k).take 1 = [l[k]] := by
  rw [List.drop_eq_getElem_cons h]; rfl
theorem Bytes.at {w : World} {ad : Addr} {cap : Nat} {l : List UInt8} (h : Bytes w (.slice (some ad) l.length cap) l) (k : Nat) (hk : k < l.length) : w.cell? (ad.add k) = some (.int .u8 (num ((l.drop k).take 1))) := by
  obtain ⟨a', c, hv, h1, h2, h3⟩ := h
  injection hv with ha
  obtain ⟨b, hb, hc⟩ := h3 (by intro e; simp at e; subst e; simp at hk)
  rw [hb] at ha; injection ha with ha; subst ha
  rw [one_at hk, num_one]
  exact hc k _ (by rw [List.getElem?_map, List.getElem?_eq_getElem hk]; rfl)

set_option maxRecDepth 100000 in
set_option maxHeartbeats 2000000 in
theorem refdecode_any (v : Value) (l : List UInt8) (w : World) (h : Bytes w v l) :
    Calls Tryz.prog 125 #[v] w (RefDecIs (dec l) w) := by
  have HD : good l = false → dec l = none := by intro h; unfold dec; rw [h]; rfl
  obtain ⟨a, cap, rfl, h1, h2, h3⟩ := id h
  clear h3
  by_cases c0 : l.length < 16
  · have hd : dec l = none := HD (by unfold good; rw [decide_eq_false (by omega)]; rfl)
    clear h
    go_enter Tryz.func125, Tryz.ntmps125
    go_wp2
    refine bodyPost_ret (v := refDecV none) ?_ rfl ⟨by first | rfl | rw [hd], ?_⟩
    · simp [results, Tryz.results125, go_sem, refDecV, zeroRef]
    · exact ((Ext.refl w).new _).new _
  obtain ⟨ad, rfl⟩ : ∃ ad, a = some ad := by
    cases a with
    | none => have := h2.2 rfl; omega
    | some ad => exact ⟨ad, rfl⟩
  have hc12 : w.cell? ⟨ad.block, ad.off + 12, none⟩ = some (.int .u8 (flagOf l)) := h.at 12 (by omega)
  have hc13 : w.cell? ⟨ad.block, ad.off + 13, none⟩ = some (.int .u8 (klen l)) := h.at 13 (by omega)
  have HB := Lib.hid h; clear h
  have h16 : 16 ≤ l.length := by omega
  have hk256 : klen l < 256 := num_take_lt (l.drop 13) 1
  have hf256 : flagOf l < 256 := num_take_lt (l.drop 12) 1
  have hv256 : vlen l < 65536 := num_take_lt (l.drop 14) 2
  have hm1 : num (l.take 4) < 4294967296 := num_take_lt l 4
  have hwk : IntKind.i64.wrap (klen l : Int) = (klen l : Int) := IntWalk.i64_in _ (by omega)
  have hwv : IntKind.i64.wrap (vlen l : Int) = (vlen l : Int) := IntWalk.i64_in _ (by omega)
  have hsl : ∀ W : World, Ext w W → ∀ i j, 0 < i → i ≤ j → j ≤ l.length → i < cap → Bytes W (.slice (some ⟨ad.block, ad.off + i, none⟩) (j - i) (cap - i)) ((l.take j).drop i) := by
    intro W hW i j h0 hij hj hc
    have := (HB.out.ext hW).sliced i j hij hj
    rw [if_neg (by omega)] at this
    have e : (some ad).map (·.add i) = some ⟨ad.block, ad.off + i, none⟩ := by
      show some (ad.add i) = _
      unfold Addr.add; rw [if_neg (by omega)]
    rw [e] at this; exact this
  have HS := Lib.hid hsl; clear hsl
  have hE0 : Ext w ((w.alloc (.cells #[.int .u64 0, .string ⟨#[]⟩, .string ⟨#[]⟩, .bool false, .int .i64 0] 116)).alloc (.cells #[.int .u64 0, .string ⟨#[]⟩, .string ⟨#[]⟩, .bool false, .int .i64 0] 116)) := ((Ext.refl w).new _).new _
  have X : BoxAt ((w.alloc (.cells #[.int .u64 0, .string ⟨#[]⟩, .string ⟨#[]⟩, .bool false, .int .i64 0] 116)).alloc (.cells #[.int .u64 0, .string ⟨#[]⟩, .string ⟨#[]⟩, .bool false, .int .i64 0] 116)) w.heap.size 116 #[.int .u64 0, .string ⟨#[]⟩, .string ⟨#[]⟩, .bool false, .int .i64 0] := (BoxAt.new _ _ rfl).alloc _
  have Y : BoxAt ((w.alloc (.cells #[.int .u64 0, .string ⟨#[]⟩, .string ⟨#[]⟩, .bool false, .int .i64 0] 116)).alloc (.cells #[.int .u64 0, .string ⟨#[]⟩, .string ⟨#[]⟩, .bool false, .int .i64 0] 116)) (w.heap.size + 1) 116 #[.int .u64 0, .string ⟨#[]⟩, .string ⟨#[]⟩, .bool false, .int .i64 0] := BoxAt.new _ _ (by simp)
  have hd12 := hE0.cell hc12
  have hd13 := hE0.cell hc13
  go_enter Tryz.func125, Tryz.ntmps125
  go_wp2_with fail
  refine (refnumber_any _ ((l.take 16).drop 14) _ (HS.out _ hE0 14 16 (by omega) (by omega) (by omega) (by omega)) (by simp; omega)).mono ?_
  rintro e W ⟨rfl, hw⟩
  rw [hw] at hE0 X Y hd12 hd13
  clear hw
  have ev : num ((l.take 16).drop 14) = vlen l := by unfold vlen; rw [List.drop_take]
  rw [ev]
  clear ev
  have yc0 := Y.cell 0
  have yc1 := Y.cell 1
  have yc2 := Y.cell 2
  have yc3 := Y.cell 3
  have yc4 := Y.cell 4
  have xc0 := X.cell 0
  have xf0 := X.free 0
  have xc1 := X.cell 1
  have xf1 := X.free 1
  have xc2 := X.cell 2
  have xf2 := X.free 2
  have xc3 := X.cell 3
  have xf3 := X.free 3
  have xc4 := X.cell 4
  have xf4 := X.free 4
  by_cases c1 : l.length < 16 + klen l + vlen l
  · have hd : dec l = none := HD (by unfold good; rw [decide_eq_false (by omega)]; rfl)
    go_wp2
    refine bodyPost_ret (v := refDecV none) ?_ rfl ⟨by first | rfl | rw [hd], ?_⟩
    · simp [results, Tryz.results125, go_sem, refDecV, zeroRef, xc0, xc1, xc2, xc3, xc4]
    · repeat' refine Ext.setN ?_ (by simp)
      exact hE0
  have hcap : 16 + klen l + vlen l ≤ cap := by omega
  go_wp2_with fail
  refine (refsum_any _ ((l.take (16 + klen l + vlen l)).drop 4) _ (HS.out _ hE0 4 (16 + klen l + vlen l) (by omega) (by omega) (by omega) (by omega))).mono ?_
  rintro e W' ⟨rfl, rfl⟩
  have hq : Bytes W (.slice (some ad) 4 cap) (l.take 4) := by
    have := (HB.out.ext hE0).sliced 0 4 (by omega) (by omega)
    rw [if_neg (by omega)] at this; exact this
  go_wp2_with fail
  refine (refnumber_any _ (l.take 4) _ hq (by simp; omega)).mono ?_
  rintro e W' ⟨rfl, rfl⟩
  have hwc : IntKind.u64.wrap (crc ((l.take (16 + klen l + vlen l)).drop 4) : Int) = (crc ((l.take (16 + klen l + vlen l)).drop 4) : Int) := by
    have := crc_lt ((l.take (16 + klen l + vlen l)).drop 4)
    rw [IntKind.wrap_u64]; omega
  by_cases hcr : crc ((l.take (16 + klen l + vlen l)).drop 4) = num (l.take 4)
  case neg =>
    have hcr' : ((num (l.take 4) : Int) != (crc ((l.take (16 + klen l + vlen l)).drop 4) : Int)) = true := by rw [bne, beq_eq_false_iff_ne.2 (by omega)]; rfl
    have hd : dec l = none := HD (by unfold good; rw [decide_eq_false hcr]; simp)
    go_wp2
    refine bodyPost_ret (v := refDecV none) ?_ rfl ⟨by first | rfl | rw [hd], ?_⟩
    · simp [results, Tryz.results125, go_sem, refDecV, zeroRef, xc0, xc1, xc2, xc3, xc4]
    · repeat' refine Ext.setN ?_ (by simp)
      exact hE0
  have hcr' : ((num (l.take 4) : Int) != (crc ((l.take (16 + klen l + vlen l)).drop 4) : Int)) = false := by rw [bne, beq_iff_eq.2 (by omega)]; rfl
  by_cases c2 : 1 < flagOf l
  · have hd : dec l = none := HD (by unfold good; rw [show decide (flagOf l ≤ 1) = false from decide_eq_false (by omega)]; simp)
    go_wp2
    refine bodyPost_ret (v := refDecV none) ?_ rfl ⟨by first | rfl | rw [hd], ?_⟩
    · simp [results, Tryz.results125, go_sem, refDecV, zeroRef, xc0, xc1, xc2, xc3, xc4]
    · repeat' refine Ext.setN ?_ (by simp)
      exact hE0
  by_cases c3 : klen l < 1
  · have hd : dec l = none := HD (by unfold good; rw [show decide (1 ≤ klen l) = false from decide_eq_false (by omega)]; simp)
    have hk0 : ((klen l : Int) == 0) = true := beq_iff_eq.2 (by omega)
    go_wp2
    refine bodyPost_ret (v := refDecV none) ?_ rfl ⟨by first | rfl | rw [hd], ?_⟩
    · simp [results, Tryz.results125, go_sem, refDecV, zeroRef, xc0, xc1, xc2, xc3, xc4]
    · repeat' refine Ext.setN ?_ (by simp)
      exact hE0
  have hk0 : ((klen l : Int) == 0) = false := beq_eq_false_iff_ne.2 (by omega)
  by_cases c4 : 16 < klen l
  · have hd : dec l = none := HD (by unfold good; rw [show decide (klen l ≤ 16) = false from decide_eq_false (by omega)]; simp)
    go_wp2
    refine bodyPost_ret (v := refDecV none) ?_ rfl ⟨by first | rfl | rw [hd], ?_⟩
    · simp [results, Tryz.results125, go_sem, refDecV, zeroRef, xc0, xc1, xc2, xc3, xc4]
    · repeat' refine Ext.setN ?_ (by simp)
      exact hE0
  by_cases c5 : 64 < vlen l
  · have hd : dec l = none := HD (by unfold good; rw [show decide (vlen l ≤ 64) = false from decide_eq_false (by omega)]; simp)
    go_wp2
    refine bodyPost_ret (v := refDecV none) ?_ rfl ⟨by first | rfl | rw [hd], ?_⟩
    · simp [results, Tryz.results125, go_sem, refDecV, zeroRef, xc0, xc1, xc2, xc3, xc4]
    · repeat' refine Ext.setN ?_ (by simp)
      exact hE0
  by_cases c6 : flagOf l = 1 ∧ 0 < vlen l
  · have hd : dec l = none := HD (by unfold good; rw [show decide (flagOf l = 1) = true from decide_eq_true c6.1, show decide (0 < vlen l) = true from decide_eq_true c6.2]; simp)
    have hf1 : ((flagOf l : Int) == 1) = true := beq_iff_eq.2 (by omega)
    have hv0 := c6.2
    go_wp2
    refine bodyPost_ret (v := refDecV none) ?_ rfl ⟨by first | rfl | rw [hd], ?_⟩
    · simp [results, Tryz.results125, go_sem, refDecV, zeroRef, xc0, xc1, xc2, xc3, xc4]
    · repeat' refine Ext.setN ?_ (by simp)
      exact hE0
  by_cases hf : flagOf l = 1
  · have hv0 : ¬ 0 < vlen l := fun h => c6 ⟨hf, h⟩
    have hf1 : ((flagOf l : Int) == 1) = true := beq_iff_eq.2 (by omega)
    have hdec : dec l = some ⟨num ((l.drop 4).take 8), (l.drop 16).take (klen l), (l.drop (16 + klen l)).take (vlen l), true, 16 + klen l + vlen l⟩ := by
      unfold dec
      rw [if_pos (by unfold good; rw [decide_eq_true (show 16 + klen l + vlen l ≤ l.length by omega), decide_eq_true hcr, decide_eq_true (show flagOf l ≤ 1 by omega), decide_eq_true (show 1 ≤ klen l by omega), decide_eq_true (show klen l ≤ 16 by omega), decide_eq_true (show vlen l ≤ 64 by omega), decide_eq_false (show ¬ 0 < vlen l by omega), Bool.and_false]; rfl)]
      simp [hf]
    go_wp2_with fail
    refine (refnumber_any _ ((l.take 12).drop 4) _ (HS.out _ hE0 4 12 (by omega) (by omega) (by omega) (by omega)) (by simp; omega)).mono ?_
    rintro e W' ⟨rfl, rfl⟩
    go_wp2_with fail
    have hE1 : Ext w W.drew := Ext.trans hE0 (Ext.drewN W 1)
    have hq1 := run_string_of (HS.out _ hE1 16 (16 + klen l) (by omega) (by omega) (by omega) (by omega))
    have hq1' := run_string_of (HS.out _ hE1 16 (16 + klen l) (by omega) (by omega) (by omega) (by omega))
    rw [show 16 + klen l - 16 = klen l by omega] at hq1
    have hq2 := run_string_of ((HB.out.ext hE1).sliced (16 + klen l) (16 + klen l + vlen l) (by omega) (by omega))
    by_cases hcc : cap = 16 + klen l
    · rw [if_pos hcc] at hq2
      have hq2' := hq2
      rw [show 16 + klen l + vlen l - (16 + klen l) = vlen l by omega] at hq2'
      have hcT : (cap = 16 + klen l) = True := eq_true hcc
      clear hcc
      go_region
      go_wp2
      all_goals
        refine bodyPost_ret (v := refDecV (some ⟨num ((l.drop 4).take 8), (l.drop 16).take (klen l), (l.drop (16 + klen l)).take (vlen l), true, 16 + klen l + vlen l⟩)) ?_ rfl ⟨?_, ?_⟩
        · simp [results, Tryz.results125, go_sem, refDecV, zeroRef, xc0, xc1, xc2, xc3, xc4, List.drop_take]
        · first | rfl | rw [hdec]
        · refine Ext.trans ?_ (Ext.drewN _ 1)
          repeat' refine Ext.setN ?_ (by simp)
          exact hE0
    · rw [if_neg hcc] at hq2
      have e : (some ad).map (·.add (16 + klen l)) = some (ad.add (16 + klen l)) := rfl
      rw [e] at hq2
      have hq2' := hq2
      rw [show 16 + klen l + vlen l - (16 + klen l) = vlen l by omega] at hq2'
      go_region
      go_wp2
      all_goals
        refine bodyPost_ret (v := refDecV (some ⟨num ((l.drop 4).take 8), (l.drop 16).take (klen l), (l.drop (16 + klen l)).take (vlen l), true, 16 + klen l + vlen l⟩)) ?_ rfl ⟨?_, ?_⟩
        · simp [results, Tryz.results125, go_sem, refDecV, zeroRef, xc0, xc1, xc2, xc3, xc4, List.drop_take]
        · first | rfl | rw [hdec]
        · refine Ext.trans ?_ (Ext.drewN _ 1)
          repeat' refine Ext.setN ?_ (by simp)
          exact hE0
  · have hf1 : ((flagOf l : Int) == 1) = false := beq_eq_false_iff_ne.2 (by omega)
    have hdec : dec l = some ⟨num ((l.drop 4).take 8), (l.drop 16).take (klen l), (l.drop (16 + klen l)).take (vlen l), false, 16 + klen l + vlen l⟩ := by
      unfold dec
      rw [if_pos (by unfold good; rw [decide_eq_true (show 16 + klen l + vlen l ≤ l.length by omega), decide_eq_true hcr, decide_eq_true (show flagOf l ≤ 1 by omega), decide_eq_true (show 1 ≤ klen l by omega), decide_eq_true (show klen l ≤ 16 by omega), decide_eq_true (show vlen l ≤ 64 by omega), decide_eq_false hf]; rfl)]
      simp [hf]
    go_wp2_with fail
    refine (refnumber_any _ ((l.take 12).drop 4) _ (HS.out _ hE0 4 12 (by omega) (by omega) (by omega) (by omega)) (by simp; omega)).mono ?_
    rintro e W' ⟨rfl, rfl⟩
    go_wp2_with fail
    have hE1 : Ext w W.drew := Ext.trans hE0 (Ext.drewN W 1)
    have hq1 := run_string_of (HS.out _ hE1 16 (16 + klen l) (by omega) (by omega) (by omega) (by omega))
    have hq1' := run_string_of (HS.out _ hE1 16 (16 + klen l) (by omega) (by omega) (by omega) (by omega))
    rw [show 16 + klen l - 16 = klen l by omega] at hq1
    have hq2 := run_string_of ((HB.out.ext hE1).sliced (16 + klen l) (16 + klen l + vlen l) (by omega) (by omega))
    by_cases hcc : cap = 16 + klen l
    · rw [if_pos hcc] at hq2
      have hq2' := hq2
      rw [show 16 + klen l + vlen l - (16 + klen l) = vlen l by omega] at hq2'
      have hcT : (cap = 16 + klen l) = True := eq_true hcc
      clear hcc
      go_region
      go_wp2
      all_goals
        refine bodyPost_ret (v := refDecV (some ⟨num ((l.drop 4).take 8), (l.drop 16).take (klen l), (l.drop (16 + klen l)).take (vlen l), false, 16 + klen l + vlen l⟩)) ?_ rfl ⟨?_, ?_⟩
        · simp [results, Tryz.results125, go_sem, refDecV, zeroRef, xc0, xc1, xc2, xc3, xc4, List.drop_take]
        · first | rfl | rw [hdec]
        · refine Ext.trans ?_ (Ext.drewN _ 1)
          repeat' refine Ext.setN ?_ (by simp)
          exact hE0
    · rw [if_neg hcc] at hq2
      have e : (some ad).map (·.add (16 + klen l)) = some (ad.add (16 + klen l)) := rfl
      rw [e] at hq2
      have hq2' := hq2
      rw [show 16 + klen l + vlen l - (16 + klen l) = vlen l by omega] at hq2'
      go_region
      go_wp2
      all_goals
        refine bodyPost_ret (v := refDecV (some ⟨num ((l.drop 4).take 8), (l.drop 16).take (klen l), (l.drop (16 + klen l)).take (vlen l), false, 16 + klen l + vlen l⟩)) ?_ rfl ⟨?_, ?_⟩
        · simp [results, Tryz.results125, go_sem, refDecV, zeroRef, xc0, xc1, xc2, xc3, xc4, List.drop_take]
        · first | rfl | rw [hdec]
        · refine Ext.trans ?_ (Ext.drewN _ 1)
          repeat' refine Ext.setN ?_ (by simp)
          exact hE0
end Go.Proofs.YtgpbhjjajpbeeaaGreatDoor
