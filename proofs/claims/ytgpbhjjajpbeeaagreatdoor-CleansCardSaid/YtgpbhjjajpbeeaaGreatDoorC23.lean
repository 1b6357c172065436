/-
  The walk of keydirref.Encode: the bytes of Pl.summed (Pl.body ..), or the error's number. No condition on the record.
-/
import Derived.Test.YtgpbhjjajpbeeaaGreatDoorC22
set_option linter.unusedSimpArgs false
set_option linter.unusedVariables false
set_option linter.unnecessarySimpa false
namespace Go.Proofs.YtgpbhjjajpbeeaaGreatDoor
open Go.RowKit Go.Lib Pl

def refV (seq : Nat) (k v : ByteArray) (d : Bool) (size : Int) : Value := .agg #[.int .u64 seq, .string k, .string v, .bool d, .int .i64 size]
def RetNum (n : Int) (w : World) (e : Ending) (w' : World) : Prop := e = .returned (.tuple #[.slice none 0 0, .int .i64 n]) ∧ Ext w w'
def RetBytesOK (l : List UInt8) (w : World) (e : Ending) (w' : World) : Prop := ∃ v, e = .returned (.tuple #[v, .int .i64 0]) ∧ OwnB w' w.heap.size v l ∧ Ext w w'
theorem slice_one (w : World) (x : Value) (t : TypeId) : SliceIs (w.alloc (.cells #[x] t)) (.slice (some ⟨w.heap.size, 0, none⟩) 1 1) 1 [x] :=
  ⟨_, _, rfl, Nat.le_refl _, ⟨by omega, fun h => by cases h⟩, fun _ => ⟨_, rfl, fun i y hy => World.news_of_block (cs := #[x]) (t := t) (fr := (0, 0)) (heap_alloc_new w _) i y hy⟩⟩

set_option maxHeartbeats 400000 in
theorem refencode_key (seq : Nat) (k v : ByteArray) (d : Bool) (sz : Int) (w : World) (h : k.size < 1 ∨ 16 < k.size) :
    Calls Tryz.prog 49 #[refV seq k v d sz] w (RetNum 1 w) := by
  unfold refV
  rcases h with h | h
  · have h0 : ((k.size : Int) == 0) = true := beq_iff_eq.2 (by omega)
    go_enter Tryz.func49, Tryz.ntmps49
    go_wp2
    go_ret2
    exact ⟨rfl, Below.alloc (Below.refl _ _) (Nat.le_refl _) _⟩
  · have h0 : ((k.size : Int) == 0) = false := beq_eq_false_iff_ne.2 (by omega)
    go_enter Tryz.func49, Tryz.ntmps49
    go_wp2
    go_ret2
    exact ⟨rfl, Below.alloc (Below.refl _ _) (Nat.le_refl _) _⟩
set_option maxHeartbeats 400000 in
theorem refencode_val (seq : Nat) (k v : ByteArray) (d : Bool) (sz : Int) (w : World) (h1 : 1 ≤ k.size) (h2 : k.size ≤ 16) (h : 64 < v.size ∨ (v.size ≤ 64 ∧ d = true ∧ 0 < v.size)) :
    Calls Tryz.prog 49 #[refV seq k v d sz] w (RetNum 2 w) := by
  unfold refV
  have h0 : ((k.size : Int) == 0) = false := beq_eq_false_iff_ne.2 (by omega)
  have h'' : ¬ 16 < k.size := by omega
  rcases h with h | ⟨h, rfl, hv⟩
  · go_enter Tryz.func49, Tryz.ntmps49
    go_wp2
    go_ret2
    exact ⟨rfl, Below.alloc (Below.refl _ _) (Nat.le_refl _) _⟩
  · have hv' : v.toList.isEmpty = false := by rw [isEmpty_size]; exact decide_eq_false (by omega)
    go_enter Tryz.func49, Tryz.ntmps49
    go_wp2
    go_ret2
    exact ⟨rfl, Below.alloc (Below.refl _ _) (Nat.le_refl _) _⟩

set_option maxRecDepth 100000 in
set_option maxHeartbeats 1600000 in
theorem refencode_ok (seq : Nat) (k v : ByteArray) (d : Bool) (sz : Int) (w : World) (h1 : 1 ≤ k.size) (h2 : k.size ≤ 16) (hv : v.size ≤ 64) (h : d = false ∨ v.size = 0) :
    Calls Tryz.prog 49 #[refV seq k v d sz] w (RetBytesOK (summed (body seq k.data.toList v.data.toList d)) w) := by
  unfold refV
  obtain ⟨i0, hi, hz0, hz1, hz2⟩ := info_parts info_u8
  have h0 : ((k.size : Int) == 0) = false := beq_eq_false_iff_ne.2 (by omega)
  have h'' : ¬ 16 < k.size := by omega
  have h3 : ¬ 64 < v.size := by omega
  have hwk : IntKind.u64.wrap (k.size : Int) = (k.size : Int) := by rw [IntKind.wrap_u64]; omega
  have hwv : IntKind.u64.wrap (v.size : Int) = (v.size : Int) := by rw [IntKind.wrap_u64]; omega
  rcases Bool.eq_false_or_eq_true d with rfl | rfl
  · have hv' : v.toList.isEmpty = true := by rw [isEmpty_size]; exact decide_eq_true (by simpa using h)
    go_enter Tryz.func49, Tryz.ntmps49
    go_wp2_with fail
    have hx : BoxAt (w.alloc (.cells #[.int .u64 seq, .string k, .string v, .bool true, .int .i64 sz] 116)) w.heap.size 116 #[.int .u64 seq, .string k, .string v, .bool true, .int .i64 sz] := heap_alloc_new w _
    have hb : Below (w.heap.size + 1) (w.alloc (.cells #[.int .u64 seq, .string k, .string v, .bool true, .int .i64 sz] 116)) (w.alloc (.cells #[.int .u64 seq, .string k, .string v, .bool true, .int .i64 sz] 116)) := Below.refl _ _
    have hs : w.heap.size + 1 ≤ (w.alloc (.cells #[.int .u64 seq, .string k, .string v, .bool true, .int .i64 sz] 116)).heap.size := by simp
    refine (fixed_any _ (w.heap.size + 1) ([]) (seq) 8 _ (World.ownsRow_nil _ _ _ _) (by omega) (by simp [be_length, size_data] <;> omega) hs).mono ?_
    rintro e w2 ⟨v2, rfl, hown, hbn⟩
    replace hx := hx.below hbn (by omega)
    replace hs := Nat.le_trans hs hbn.size
    replace hb := hb.trans hbn
    clear hbn
    have hcw23 : w2.cell? ⟨w.heap.size, 3, none⟩ = some (.bool true) := hx.cell 3
    rw [List.nil_append] at hown
    have hs2 : w.heap.size + 1 ≤ w2.heap.size := hs
    have e3 : (be seq 8 ++ be 1 1).map byteV = (be seq 8).map byteV ++ [.int .u8 1] := by rw [List.map_append]; rfl
    have e3' : (be seq 8 ++ be 1 1).length = (be seq 8).length + 1 := by simp [be_length]
    have E3 := Lib.hid e3; clear e3
    have E3' := Lib.hid e3'; clear e3'
    go_wp2_with (at_builtin; go_must (refine wpList_append_src rfl _ _ 25 rfl (w.heap.size + 1) 5 i0 (.int .u8 0) 1 1 Tryz.underlying25 hi hz0 hz1 hz2 rfl (by omega) v2 _ _ rfl (hown.alloc _) _ 1 [.int .u8 1] rfl (slice_one w2 _ _) rfl (by simp [Value.oneCell']) (by simp [be_length, maxLen]) (by simp [be_length]) (by simp; omega) ?_); intro b3 c3 w3 hown3 hgrow3 hat3; clear hat3; have hx3 := (hx.alloc (.cells #[.int .u8 1] 5)).grown hgrow3 (fun k hk => by have := (hown.lt k hk).1; omega); have hc31 : w3.cell? ⟨w.heap.size, 1, none⟩ = some (.string k) := hx3.cell 1)
    replace hb := (hb.alloc hs (.cells #[.int .u8 1] 5)).grown hgrow3 (by simp; omega) (fun k hk => (hown.lt k hk).1)
    replace hs : w.heap.size + 1 ≤ w3.heap.size := by have := hgrow3.size; simp at this; omega
    clear hx hown hs2
    have hx := hx3
    have hown : OwnB w3 (w.heap.size + 1) (.slice b3 ((be seq 8).length + 1) c3) (be seq 8 ++ be 1 1) := by
      unfold OwnB; rw [E3.out, E3'.out]; exact hown3
    clear hown3 hgrow3 hx3
    refine (fixed_any _ (w.heap.size + 1) (be seq 8 ++ be 1 1) (k.size) 1 _ hown (by omega) (by simp [be_length, size_data] <;> omega) hs).mono ?_
    rintro e w4 ⟨v4, rfl, hown, hbn⟩
    replace hx := hx.below hbn (by omega)
    replace hs := Nat.le_trans hs hbn.size
    replace hb := hb.trans hbn
    clear hbn
    have hcw42 : w4.cell? ⟨w.heap.size, 2, none⟩ = some (.string v) := hx.cell 2
    go_wp2_with fail
    refine (fixed_any _ (w.heap.size + 1) (be seq 8 ++ be 1 1 ++ be k.size 1) (v.size) 2 _ hown (by omega) (by simp [be_length, size_data] <;> omega) hs).mono ?_
    rintro e w5 ⟨v5, rfl, hown, hbn⟩
    replace hx := hx.below hbn (by omega)
    replace hs := Nat.le_trans hs hbn.size
    replace hb := hb.trans hbn
    clear hbn
    have hcw51 : w5.cell? ⟨w.heap.size, 1, none⟩ = some (.string k) := hx.cell 1
    generalize hL : be seq 8 ++ be 1 1 ++ be k.size 1 ++ be v.size 2 = L5 at *
    have hLl : L5.length = 12 := by rw [← hL]; simp [be_length]
    have HL := Lib.hid hL; clear hL
    have HLl := Lib.hid hLl; clear hLl
    go_wp2_with (first | (at_builtin; refine wpList_append_text rfl _ _ 25 9 rfl (w.heap.size + 1) 5 i0 Tryz.underlying25 Tryz.underlying9 hi hz0 hz1 hz2 v5 L5 rfl hown k rfl (by rw [HLl.out]; unfold maxLen; omega) (by rw [HLl.out]; omega) hs ?_; intro b6 c6 w6 hown6 hgrow6; have hx6 := hx.grown hgrow6 (fun k hk => by have := (hown.lt k hk).1; omega); have hc62 : w6.cell? ⟨w.heap.size, 2, none⟩ = some (.string v) := hx6.cell 2; have hs6 : w.heap.size + 1 ≤ w6.heap.size := Nat.le_trans hs hgrow6.size) | (at_builtin; refine wpList_append_text rfl _ _ 25 9 rfl (w.heap.size + 1) 5 i0 Tryz.underlying25 Tryz.underlying9 hi hz0 hz1 hz2 (.slice b6 (L5.length + k.size) c6) (L5 ++ k.data.toList) rfl hown6 v rfl (by rw [List.length_append, size_data, HLl.out]; unfold maxLen; omega) (by rw [List.length_append, size_data, HLl.out]; omega) hs6 ?_; intro b7 c7 w7 hown7 hgrow7))
    replace hb := (hb.grown hgrow6 hs (fun k hk => (hown.lt k hk).1)).grown hgrow7 hs6 (fun k hk => (hown6.lt k hk).1)
    have hs7 : w.heap.size + 1 ≤ w7.heap.size := Nat.le_trans hs6 hgrow7.size
    have hI : OwnB w7 (w.heap.size + 1) (.slice b7 (L5.length + k.size + v.size) c7) (body seq k.data.toList v.data.toList true) := by
      rw [show (L5 ++ k.data.toList).length = L5.length + k.size by rw [List.length_append, size_data]] at hown7
      rw [show L5 ++ k.data.toList ++ v.data.toList = body seq k.data.toList v.data.toList true by rw [← HL.out]; simp [body, size_data]] at hown7
      exact hown7
    have hIl : (body seq k.data.toList v.data.toList true).length ≤ 92 := by simp [body, be_length, size_data]; omega
    clear hown7 hgrow7 hown6 hgrow6 hx hx6 hc62 hs6 hs
    generalize Value.slice b7 (L5.length + k.size + v.size) c7 = v7 at *
    generalize body seq k.data.toList v.data.toList true = I at *
    refine (refsum_any v7 I w7 hI.bytes).mono ?_
    rintro e w8 ⟨rfl, rfl⟩
    have hwc : IntKind.u64.wrap ((crc I : Nat) : Int) = ((crc I : Nat) : Int) := by rw [IntKind.wrap_u64]; have := crc_lt I; omega
    go_wp2_with fail
    refine (fixed_any _ w7.heap.size [] (crc I) 4 _ (World.ownsRow_nil _ _ _ _) (by omega) (by simp) (Nat.le_refl _)).mono ?_
    rintro e w9 ⟨v9, rfl, hown9, hb9⟩
    rw [List.nil_append] at hown9
    generalize hC : be (crc I) 4 = C at *
    have hCl : C.length = 4 := by rw [← hC, be_length]
    have HC := Lib.hid hC; clear hC
    have HCl := Lib.hid hCl; clear hCl
    clear hwc
    go_wp2_with (at_builtin; go_must (refine wpList_append_src rfl _ _ 25 rfl w7.heap.size 5 i0 (.int .u8 0) 1 1 Tryz.underlying25 hi hz0 hz1 hz2 rfl (by omega) v9 C.length _ rfl hown9 v7 I.length (I.map byteV) rfl (hI.bytes.ext hb9) (by simp) (byteV_one _) (by rw [HCl.out]; unfold maxLen; omega) (by rw [HCl.out]; omega) hb9.size ?_); intro b10 c10 w10 hown10 hgrow10 hat10; clear hat10)
    go_ret2
    refine ⟨_, rfl, ?_, ?_⟩
    · unfold OwnB
      have e1 : (summed I).map byteV = C.map byteV ++ I.map byteV := by rw [← List.map_append, summed, HC.out]
      have e2 : (summed I).length = C.length + I.length := by rw [summed, HC.out, List.length_append]
      rw [e1, e2]
      exact ownsRow_mono hown10 (by omega)
    · have h9 : Below (w.heap.size + 1) w7 w10 := (hb9.mono hs7).grown hgrow10 (Nat.le_trans hs7 hb9.size) (fun k hk => by have := (hown9.lt k hk).1; omega)
      exact (Below.alloc (Below.refl _ _) (Nat.le_refl _) _).trans ((hb.trans h9).mono (by omega))
  · go_enter Tryz.func49, Tryz.ntmps49
    go_wp2_with fail
    have hx : BoxAt (w.alloc (.cells #[.int .u64 seq, .string k, .string v, .bool false, .int .i64 sz] 116)) w.heap.size 116 #[.int .u64 seq, .string k, .string v, .bool false, .int .i64 sz] := heap_alloc_new w _
    have hb : Below (w.heap.size + 1) (w.alloc (.cells #[.int .u64 seq, .string k, .string v, .bool false, .int .i64 sz] 116)) (w.alloc (.cells #[.int .u64 seq, .string k, .string v, .bool false, .int .i64 sz] 116)) := Below.refl _ _
    have hs : w.heap.size + 1 ≤ (w.alloc (.cells #[.int .u64 seq, .string k, .string v, .bool false, .int .i64 sz] 116)).heap.size := by simp
    refine (fixed_any _ (w.heap.size + 1) ([]) (seq) 8 _ (World.ownsRow_nil _ _ _ _) (by omega) (by simp [be_length, size_data] <;> omega) hs).mono ?_
    rintro e w2 ⟨v2, rfl, hown, hbn⟩
    replace hx := hx.below hbn (by omega)
    replace hs := Nat.le_trans hs hbn.size
    replace hb := hb.trans hbn
    clear hbn
    have hcw23 : w2.cell? ⟨w.heap.size, 3, none⟩ = some (.bool false) := hx.cell 3
    rw [List.nil_append] at hown
    have hs2 : w.heap.size + 1 ≤ w2.heap.size := hs
    have e3 : (be seq 8 ++ be 0 1).map byteV = (be seq 8).map byteV ++ [.int .u8 0] := by rw [List.map_append]; rfl
    have e3' : (be seq 8 ++ be 0 1).length = (be seq 8).length + 1 := by simp [be_length]
    have E3 := Lib.hid e3; clear e3
    have E3' := Lib.hid e3'; clear e3'
    go_wp2_with (at_builtin; go_must (refine wpList_append_src rfl _ _ 25 rfl (w.heap.size + 1) 5 i0 (.int .u8 0) 1 1 Tryz.underlying25 hi hz0 hz1 hz2 rfl (by omega) v2 _ _ rfl (hown.alloc _) _ 1 [.int .u8 0] rfl (slice_one w2 _ _) rfl (by simp [Value.oneCell']) (by simp [be_length, maxLen]) (by simp [be_length]) (by simp; omega) ?_); intro b3 c3 w3 hown3 hgrow3 hat3; clear hat3; have hx3 := (hx.alloc (.cells #[.int .u8 0] 5)).grown hgrow3 (fun k hk => by have := (hown.lt k hk).1; omega); have hc31 : w3.cell? ⟨w.heap.size, 1, none⟩ = some (.string k) := hx3.cell 1)
    replace hb := (hb.alloc hs (.cells #[.int .u8 0] 5)).grown hgrow3 (by simp; omega) (fun k hk => (hown.lt k hk).1)
    replace hs : w.heap.size + 1 ≤ w3.heap.size := by have := hgrow3.size; simp at this; omega
    clear hx hown hs2
    have hx := hx3
    have hown : OwnB w3 (w.heap.size + 1) (.slice b3 ((be seq 8).length + 1) c3) (be seq 8 ++ be 0 1) := by
      unfold OwnB; rw [E3.out, E3'.out]; exact hown3
    clear hown3 hgrow3 hx3
    refine (fixed_any _ (w.heap.size + 1) (be seq 8 ++ be 0 1) (k.size) 1 _ hown (by omega) (by simp [be_length, size_data] <;> omega) hs).mono ?_
    rintro e w4 ⟨v4, rfl, hown, hbn⟩
    replace hx := hx.below hbn (by omega)
    replace hs := Nat.le_trans hs hbn.size
    replace hb := hb.trans hbn
    clear hbn
    have hcw42 : w4.cell? ⟨w.heap.size, 2, none⟩ = some (.string v) := hx.cell 2
    go_wp2_with fail
    refine (fixed_any _ (w.heap.size + 1) (be seq 8 ++ be 0 1 ++ be k.size 1) (v.size) 2 _ hown (by omega) (by simp [be_length, size_data] <;> omega) hs).mono ?_
    rintro e w5 ⟨v5, rfl, hown, hbn⟩
    replace hx := hx.below hbn (by omega)
    replace hs := Nat.le_trans hs hbn.size
    replace hb := hb.trans hbn
    clear hbn
    have hcw51 : w5.cell? ⟨w.heap.size, 1, none⟩ = some (.string k) := hx.cell 1
    generalize hL : be seq 8 ++ be 0 1 ++ be k.size 1 ++ be v.size 2 = L5 at *
    have hLl : L5.length = 12 := by rw [← hL]; simp [be_length]
    have HL := Lib.hid hL; clear hL
    have HLl := Lib.hid hLl; clear hLl
    go_wp2_with (first | (at_builtin; refine wpList_append_text rfl _ _ 25 9 rfl (w.heap.size + 1) 5 i0 Tryz.underlying25 Tryz.underlying9 hi hz0 hz1 hz2 v5 L5 rfl hown k rfl (by rw [HLl.out]; unfold maxLen; omega) (by rw [HLl.out]; omega) hs ?_; intro b6 c6 w6 hown6 hgrow6; have hx6 := hx.grown hgrow6 (fun k hk => by have := (hown.lt k hk).1; omega); have hc62 : w6.cell? ⟨w.heap.size, 2, none⟩ = some (.string v) := hx6.cell 2; have hs6 : w.heap.size + 1 ≤ w6.heap.size := Nat.le_trans hs hgrow6.size) | (at_builtin; refine wpList_append_text rfl _ _ 25 9 rfl (w.heap.size + 1) 5 i0 Tryz.underlying25 Tryz.underlying9 hi hz0 hz1 hz2 (.slice b6 (L5.length + k.size) c6) (L5 ++ k.data.toList) rfl hown6 v rfl (by rw [List.length_append, size_data, HLl.out]; unfold maxLen; omega) (by rw [List.length_append, size_data, HLl.out]; omega) hs6 ?_; intro b7 c7 w7 hown7 hgrow7))
    replace hb := (hb.grown hgrow6 hs (fun k hk => (hown.lt k hk).1)).grown hgrow7 hs6 (fun k hk => (hown6.lt k hk).1)
    have hs7 : w.heap.size + 1 ≤ w7.heap.size := Nat.le_trans hs6 hgrow7.size
    have hI : OwnB w7 (w.heap.size + 1) (.slice b7 (L5.length + k.size + v.size) c7) (body seq k.data.toList v.data.toList false) := by
      rw [show (L5 ++ k.data.toList).length = L5.length + k.size by rw [List.length_append, size_data]] at hown7
      rw [show L5 ++ k.data.toList ++ v.data.toList = body seq k.data.toList v.data.toList false by rw [← HL.out]; simp [body, size_data]] at hown7
      exact hown7
    have hIl : (body seq k.data.toList v.data.toList false).length ≤ 92 := by simp [body, be_length, size_data]; omega
    clear hown7 hgrow7 hown6 hgrow6 hx hx6 hc62 hs6 hs
    generalize Value.slice b7 (L5.length + k.size + v.size) c7 = v7 at *
    generalize body seq k.data.toList v.data.toList false = I at *
    refine (refsum_any v7 I w7 hI.bytes).mono ?_
    rintro e w8 ⟨rfl, rfl⟩
    have hwc : IntKind.u64.wrap ((crc I : Nat) : Int) = ((crc I : Nat) : Int) := by rw [IntKind.wrap_u64]; have := crc_lt I; omega
    go_wp2_with fail
    refine (fixed_any _ w7.heap.size [] (crc I) 4 _ (World.ownsRow_nil _ _ _ _) (by omega) (by simp) (Nat.le_refl _)).mono ?_
    rintro e w9 ⟨v9, rfl, hown9, hb9⟩
    rw [List.nil_append] at hown9
    generalize hC : be (crc I) 4 = C at *
    have hCl : C.length = 4 := by rw [← hC, be_length]
    have HC := Lib.hid hC; clear hC
    have HCl := Lib.hid hCl; clear hCl
    clear hwc
    go_wp2_with (at_builtin; go_must (refine wpList_append_src rfl _ _ 25 rfl w7.heap.size 5 i0 (.int .u8 0) 1 1 Tryz.underlying25 hi hz0 hz1 hz2 rfl (by omega) v9 C.length _ rfl hown9 v7 I.length (I.map byteV) rfl (hI.bytes.ext hb9) (by simp) (byteV_one _) (by rw [HCl.out]; unfold maxLen; omega) (by rw [HCl.out]; omega) hb9.size ?_); intro b10 c10 w10 hown10 hgrow10 hat10; clear hat10)
    go_ret2
    refine ⟨_, rfl, ?_, ?_⟩
    · unfold OwnB
      have e1 : (summed I).map byteV = C.map byteV ++ I.map byteV := by rw [← List.map_append, summed, HC.out]
      have e2 : (summed I).length = C.length + I.length := by rw [summed, HC.out, List.length_append]
      rw [e1, e2]
      exact ownsRow_mono hown10 (by omega)
    · have h9 : Below (w.heap.size + 1) w7 w10 := (hb9.mono hs7).grown hgrow10 (Nat.le_trans hs7 hb9.size) (fun k hk => by have := (hown9.lt k hk).1; omega)
      exact (Below.alloc (Below.refl _ _) (Nat.le_refl _) _).trans ((hb.trans h9).mono (by omega))
end Go.Proofs.YtgpbhjjajpbeeaaGreatDoor
