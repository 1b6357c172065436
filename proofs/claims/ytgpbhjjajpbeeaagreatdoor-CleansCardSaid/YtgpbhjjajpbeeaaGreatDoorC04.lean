/-
  The walk of record.Encode: the bytes of Pl.summed (Pl.body ..), or the error. No condition on the record.
-/
import Derived.Test.YtgpbhjjajpbeeaaGreatDoorC03
set_option linter.unusedSimpArgs false
set_option linter.unusedVariables false
set_option linter.unnecessarySimpa false
namespace Go.Proofs.YtgpbhjjajpbeeaaGreatDoor
open Go.RowKit Go.Lib Pl

def recV (seq : Nat) (k v : ByteArray) (d : Bool) : Value := .agg #[.int .u64 seq, .string k, .string v, .bool d]
def errV (n : Int) : Value := .iface 37 (.int .i64 n)
def RetErr (n : Int) (w : World) (e : Ending) (w' : World) : Prop := e = .returned (.tuple #[.slice none 0 0, errV n]) ∧ Ext w w'
/-- fresh bytes, and no error -/
def RetBytes (l : List UInt8) (w : World) (e : Ending) (w' : World) : Prop := ∃ v, e = .returned (.tuple #[v, .nilIface]) ∧ OwnB w' w.heap.size v l ∧ Ext w w'

set_option maxHeartbeats 400000 in
theorem encode_key (seq : Nat) (k v : ByteArray) (d : Bool) (w : World) (h : k.size < 1 ∨ 16 < k.size) :
    Calls Tryz.prog 171 #[recV seq k v d] w (RetErr 1 w) := by
  unfold recV
  rcases h with h | h
  · go_enter Tryz.func171, Tryz.ntmps171
    go_wp2
    go_ret2
    exact ⟨rfl, Below.alloc (Below.refl _ _) (Nat.le_refl _) _⟩
  · have h' : ¬ k.size < 1 := by omega
    go_enter Tryz.func171, Tryz.ntmps171
    go_wp2
    go_ret2
    exact ⟨rfl, Below.alloc (Below.refl _ _) (Nat.le_refl _) _⟩
set_option maxHeartbeats 400000 in
theorem encode_val (seq : Nat) (k v : ByteArray) (d : Bool) (w : World) (h1 : 1 ≤ k.size) (h2 : k.size ≤ 16) (h : 64 < v.size ∨ (v.size ≤ 64 ∧ d = true ∧ 0 < v.size)) :
    Calls Tryz.prog 171 #[recV seq k v d] w (RetErr 2 w) := by
  unfold recV
  have h' : ¬ k.size < 1 := by omega
  have h'' : ¬ 16 < k.size := by omega
  rcases h with h | ⟨h, rfl, hv⟩
  · go_enter Tryz.func171, Tryz.ntmps171
    go_wp2
    go_ret2
    exact ⟨rfl, Below.alloc (Below.refl _ _) (Nat.le_refl _) _⟩
  · have hv' : v.toList.isEmpty = false := by rw [isEmpty_size]; exact decide_eq_false (by omega)
    go_enter Tryz.func171, Tryz.ntmps171
    go_wp2
    go_ret2
    exact ⟨rfl, Below.alloc (Below.refl _ _) (Nat.le_refl _) _⟩

def BoxAt (w : World) (n : Nat) (t : TypeId) (cs : Array Value) : Prop := w.heap[n]? = some (.cells cs t (0, 0))
theorem BoxAt.cell {w : World} {n : Nat} {t : TypeId} {cs : Array Value} (h : BoxAt w n t cs) (i : Nat) : w.cell? ⟨n, i, none⟩ = cs[i]? := by
  unfold BoxAt at h; simp [World.cell?, h]
theorem BoxAt.new {w : World} {n : Nat} (cs : Array Value) (t : TypeId) (h : w.heap.size = n) : BoxAt (w.alloc (.cells cs t)) n t cs := by
  subst h; exact heap_alloc_new w _
theorem BoxAt.below {w w' : World} {n B : Nat} {t : TypeId} {cs : Array Value} (h : BoxAt w n t cs) (hb : Below B w w') (hn : n < B) : BoxAt w' n t cs :=
  (hb.block n hn).trans h
theorem BoxAt.grown {w w' : World} {n : Nat} {t : TypeId} {cs : Array Value} (h : BoxAt w n t cs) {row : Option Nat} (hg : w.grownBy w' row) (hr : ∀ k, row = some k → n < k) : BoxAt w' n t cs :=
  (hg.block n (lt_of_block h) (fun e => by have := hr n e.symm; omega)).trans h
theorem BoxAt.alloc {w : World} {n : Nat} {t : TypeId} {cs : Array Value} (h : BoxAt w n t cs) (o : Obj) : BoxAt (w.alloc o) n t cs :=
  (Below.heap_alloc w o n (lt_of_block h)).trans h

set_option maxRecDepth 100000 in
set_option maxHeartbeats 800000 in
theorem encode_ok (seq : Nat) (k v : ByteArray) (d : Bool) (w : World) (h1 : 1 ≤ k.size) (h2 : k.size ≤ 16) (hv : v.size ≤ 64) (h : d = false ∨ v.size = 0) :
    Calls Tryz.prog 171 #[recV seq k v d] w (RetBytes (summed (body seq k.data.toList v.data.toList d)) w) := by
  unfold recV
  obtain ⟨i0, hi, hz0, hz1, hz2⟩ := info_parts info_u8
  have h' : ¬ k.size < 1 := by omega
  have h'' : ¬ 16 < k.size := by omega
  have h3 : ¬ 64 < v.size := by omega
  have hwk : IntKind.u64.wrap (k.size : Int) = (k.size : Int) := by rw [IntKind.wrap_u64]; omega
  have hwv : IntKind.u64.wrap (v.size : Int) = (v.size : Int) := by rw [IntKind.wrap_u64]; omega
  rcases Bool.eq_false_or_eq_true d with rfl | rfl
  · have hv' : v.toList.isEmpty = true := by rw [isEmpty_size]; exact decide_eq_true (by simpa using h)
    go_enter Tryz.func171, Tryz.ntmps171
    go_wp2_with (at_make; go_must (refine wpList_make_own _ rfl _ _ 25 rfl (w.heap.size + 1) 5 i0 (.int .u8 0) 1 Tryz.underlying25 hi hz0 hz1 .i64 .i64 _ (16 + k.size + v.size) rfl rfl (by omega) (by rw [hz2]; omega) (by unfold maxLen; omega) (by simp) ?_); intro w1 hown1 hgrow1)
    have hx0 : BoxAt (w.alloc (.cells #[.int .u64 seq, .string k, .string v, .bool true] 111)) w.heap.size 111 #[.int .u64 seq, .string k, .string v, .bool true] := heap_alloc_new w _
    have hx1 : BoxAt w1 w.heap.size 111 #[.int .u64 seq, .string k, .string v, .bool true] := (hgrow1.block _ (by simp) (by simp)).trans hx0
    have hb1 : Below (w.heap.size + 1) (w.alloc (.cells #[.int .u64 seq, .string k, .string v, .bool true] 111)) w1 := (Below.refl _ _).grown hgrow1 (by simp) (by simp)
    have hs1 : w.heap.size + 1 ≤ w1.heap.size := by have := hb1.size; simp at this; exact this
    have hW : WriterAt (w1.alloc (.cells #[.slice (some ⟨w.heap.size + 1, 0, none⟩) 0 (16 + k.size + v.size)] 309)) (w.heap.size + 1) w1.heap.size [] :=
      ⟨_, heap_alloc_new w1 _, hs1, by have := hown1.alloc (.cells #[.slice (some ⟨w.heap.size + 1, 0, none⟩) 0 (16 + k.size + v.size)] 309); simpa [OwnB] using this⟩
    have hbA : Below (w.heap.size + 1) w1 (w1.alloc (.cells #[.slice (some ⟨w.heap.size + 1, 0, none⟩) 0 (16 + k.size + v.size)] 309)) := Below.alloc (Below.refl _ _) hs1 _
    have hb := hb1.trans hbA
    have hx := hx1.below hbA (by omega)
    clear hown1 hgrow1 hb1 hx0 hx1 hbA
    generalize w1.heap.size = bw at *
    refine (number_any bw (w.heap.size + 1) _ (0) 4 _ hW (by omega) (by simp [be_length, size_data])).mono ?_
    clear hW
    rintro e w2 ⟨rfl, hW, hbn⟩
    replace hx := hx.below hbn (by omega)
    replace hb := hb.trans hbn
    clear hbn
    have hc2 : w2.cell? ⟨w.heap.size, 0, none⟩ = some (.int .u64 seq) := hx.cell 0
    go_wp2_with fail
    refine (number_any bw (w.heap.size + 1) _ (seq) 8 _ hW (by omega) (by simp [be_length, size_data])).mono ?_
    clear hW
    rintro e w3 ⟨rfl, hW, hbn⟩
    replace hx := hx.below hbn (by omega)
    replace hb := hb.trans hbn
    clear hbn
    go_wp2_with fail
    refine (number_any bw (w.heap.size + 1) _ (1) 1 _ hW (by omega) (by simp [be_length, size_data])).mono ?_
    clear hW
    rintro e w4 ⟨rfl, hW, hbn⟩
    replace hx := hx.below hbn (by omega)
    replace hb := hb.trans hbn
    clear hbn
    have hc4 : w4.cell? ⟨w.heap.size, 1, none⟩ = some (.string k) := hx.cell 1
    go_wp2_with fail
    refine (number_any bw (w.heap.size + 1) _ (k.size) 1 _ hW (by omega) (by simp [be_length, size_data])).mono ?_
    clear hW
    rintro e w5 ⟨rfl, hW, hbn⟩
    replace hx := hx.below hbn (by omega)
    replace hb := hb.trans hbn
    clear hbn
    have hc5 : w5.cell? ⟨w.heap.size, 2, none⟩ = some (.string v) := hx.cell 2
    go_wp2_with fail
    refine (number_any bw (w.heap.size + 1) _ (v.size) 2 _ hW (by omega) (by simp [be_length, size_data])).mono ?_
    clear hW
    rintro e w6 ⟨rfl, hW, hbn⟩
    replace hx := hx.below hbn (by omega)
    replace hb := hb.trans hbn
    clear hbn
    have hc6 : w6.cell? ⟨w.heap.size, 1, none⟩ = some (.string k) := hx.cell 1
    go_wp2_with fail
    refine (text_any bw (w.heap.size + 1) _ k _ hW (by simp [be_length, size_data]; omega)).mono ?_
    clear hW
    rintro e w7 ⟨rfl, hW, hbn⟩
    replace hx := hx.below hbn (by omega)
    replace hb := hb.trans hbn
    clear hbn
    have hc7 : w7.cell? ⟨w.heap.size, 2, none⟩ = some (.string v) := hx.cell 2
    go_wp2_with fail
    refine (text_any bw (w.heap.size + 1) _ v _ hW (by simp [be_length, size_data]; omega)).mono ?_
    clear hW
    rintro e w8 ⟨rfl, hW, hbn⟩
    replace hx := hx.below hbn (by omega)
    replace hb := hb.trans hbn
    clear hbn
    go_wp2_with fail
    refine (summed_any bw (w.heap.size + 1) _ _ hW (by simp [be_length]) (by simp [be_length, size_data]; omega)).mono ?_
    rintro e w9 ⟨r, rfl, hr, hbn⟩
    replace hb := hb.trans hbn
    clear hbn
    go_wp2_with fail
    go_ret2
    refine ⟨r, rfl, ?_, ?_⟩
    · have e1 : ([] ++ be 0 4 ++ be seq 8 ++ be 1 1 ++ be k.size 1 ++ be v.size 2 ++ k.data.toList ++ v.data.toList).drop 4 = body seq k.data.toList v.data.toList true := by
        rw [show [] ++ be 0 4 ++ be seq 8 ++ be 1 1 ++ be k.size 1 ++ be v.size 2 ++ k.data.toList ++ v.data.toList = be 0 4 ++ body seq k.data.toList v.data.toList true by simp [body, size_data], List.drop_left' (be_length 0 4)]
      rw [e1] at hr
      exact ownsRow_mono hr (by omega)
    · exact (Below.alloc (Below.refl _ _) (Nat.le_refl _) _).trans (hb.mono (by omega))
  · go_enter Tryz.func171, Tryz.ntmps171
    go_wp2_with (at_make; go_must (refine wpList_make_own _ rfl _ _ 25 rfl (w.heap.size + 1) 5 i0 (.int .u8 0) 1 Tryz.underlying25 hi hz0 hz1 .i64 .i64 _ (16 + k.size + v.size) rfl rfl (by omega) (by rw [hz2]; omega) (by unfold maxLen; omega) (by simp) ?_); intro w1 hown1 hgrow1)
    have hx0 : BoxAt (w.alloc (.cells #[.int .u64 seq, .string k, .string v, .bool false] 111)) w.heap.size 111 #[.int .u64 seq, .string k, .string v, .bool false] := heap_alloc_new w _
    have hx1 : BoxAt w1 w.heap.size 111 #[.int .u64 seq, .string k, .string v, .bool false] := (hgrow1.block _ (by simp) (by simp)).trans hx0
    have hb1 : Below (w.heap.size + 1) (w.alloc (.cells #[.int .u64 seq, .string k, .string v, .bool false] 111)) w1 := (Below.refl _ _).grown hgrow1 (by simp) (by simp)
    have hs1 : w.heap.size + 1 ≤ w1.heap.size := by have := hb1.size; simp at this; exact this
    have hW : WriterAt (w1.alloc (.cells #[.slice (some ⟨w.heap.size + 1, 0, none⟩) 0 (16 + k.size + v.size)] 309)) (w.heap.size + 1) w1.heap.size [] :=
      ⟨_, heap_alloc_new w1 _, hs1, by have := hown1.alloc (.cells #[.slice (some ⟨w.heap.size + 1, 0, none⟩) 0 (16 + k.size + v.size)] 309); simpa [OwnB] using this⟩
    have hbA : Below (w.heap.size + 1) w1 (w1.alloc (.cells #[.slice (some ⟨w.heap.size + 1, 0, none⟩) 0 (16 + k.size + v.size)] 309)) := Below.alloc (Below.refl _ _) hs1 _
    have hb := hb1.trans hbA
    have hx := hx1.below hbA (by omega)
    clear hown1 hgrow1 hb1 hx0 hx1 hbA
    generalize w1.heap.size = bw at *
    refine (number_any bw (w.heap.size + 1) _ (0) 4 _ hW (by omega) (by simp [be_length, size_data])).mono ?_
    clear hW
    rintro e w2 ⟨rfl, hW, hbn⟩
    replace hx := hx.below hbn (by omega)
    replace hb := hb.trans hbn
    clear hbn
    have hc2 : w2.cell? ⟨w.heap.size, 0, none⟩ = some (.int .u64 seq) := hx.cell 0
    go_wp2_with fail
    refine (number_any bw (w.heap.size + 1) _ (seq) 8 _ hW (by omega) (by simp [be_length, size_data])).mono ?_
    clear hW
    rintro e w3 ⟨rfl, hW, hbn⟩
    replace hx := hx.below hbn (by omega)
    replace hb := hb.trans hbn
    clear hbn
    go_wp2_with fail
    refine (number_any bw (w.heap.size + 1) _ (0) 1 _ hW (by omega) (by simp [be_length, size_data])).mono ?_
    clear hW
    rintro e w4 ⟨rfl, hW, hbn⟩
    replace hx := hx.below hbn (by omega)
    replace hb := hb.trans hbn
    clear hbn
    have hc4 : w4.cell? ⟨w.heap.size, 1, none⟩ = some (.string k) := hx.cell 1
    go_wp2_with fail
    refine (number_any bw (w.heap.size + 1) _ (k.size) 1 _ hW (by omega) (by simp [be_length, size_data])).mono ?_
    clear hW
    rintro e w5 ⟨rfl, hW, hbn⟩
    replace hx := hx.below hbn (by omega)
    replace hb := hb.trans hbn
    clear hbn
    have hc5 : w5.cell? ⟨w.heap.size, 2, none⟩ = some (.string v) := hx.cell 2
    go_wp2_with fail
    refine (number_any bw (w.heap.size + 1) _ (v.size) 2 _ hW (by omega) (by simp [be_length, size_data])).mono ?_
    clear hW
    rintro e w6 ⟨rfl, hW, hbn⟩
    replace hx := hx.below hbn (by omega)
    replace hb := hb.trans hbn
    clear hbn
    have hc6 : w6.cell? ⟨w.heap.size, 1, none⟩ = some (.string k) := hx.cell 1
    go_wp2_with fail
    refine (text_any bw (w.heap.size + 1) _ k _ hW (by simp [be_length, size_data]; omega)).mono ?_
    clear hW
    rintro e w7 ⟨rfl, hW, hbn⟩
    replace hx := hx.below hbn (by omega)
    replace hb := hb.trans hbn
    clear hbn
    have hc7 : w7.cell? ⟨w.heap.size, 2, none⟩ = some (.string v) := hx.cell 2
    go_wp2_with fail
    refine (text_any bw (w.heap.size + 1) _ v _ hW (by simp [be_length, size_data]; omega)).mono ?_
    clear hW
    rintro e w8 ⟨rfl, hW, hbn⟩
    replace hx := hx.below hbn (by omega)
    replace hb := hb.trans hbn
    clear hbn
    go_wp2_with fail
    refine (summed_any bw (w.heap.size + 1) _ _ hW (by simp [be_length]) (by simp [be_length, size_data]; omega)).mono ?_
    rintro e w9 ⟨r, rfl, hr, hbn⟩
    replace hb := hb.trans hbn
    clear hbn
    go_wp2_with fail
    go_ret2
    refine ⟨r, rfl, ?_, ?_⟩
    · have e1 : ([] ++ be 0 4 ++ be seq 8 ++ be 0 1 ++ be k.size 1 ++ be v.size 2 ++ k.data.toList ++ v.data.toList).drop 4 = body seq k.data.toList v.data.toList false := by
        rw [show [] ++ be 0 4 ++ be seq 8 ++ be 0 1 ++ be k.size 1 ++ be v.size 2 ++ k.data.toList ++ v.data.toList = be 0 4 ++ body seq k.data.toList v.data.toList false by simp [body, size_data], List.drop_left' (be_length 0 4)]
      rw [e1] at hr
      exact ownsRow_mono hr (by omega)
    · exact (Below.alloc (Below.refl _ _) (Nat.le_refl _) _).trans (hb.mono (by omega))
end Go.Proofs.YtgpbhjjajpbeeaaGreatDoor
