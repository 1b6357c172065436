/-
  The walks of keydir.Encode and keydir.Decode (they hand on).
-/
import Derived.Test.YtgpbhjjajpbeeaaDoorStill
namespace Go.Proofs.YtgpbhjjajpbeeaaDoor
open Go.RowKit Go.Lib Pl

/-- what Encode answers: bytes or an error -/
def EncIs (seq : Nat) (k v : ByteArray) (d : Bool) (w : World) (e : Ending) (w' : World) : Prop :=
  ∃ x y, e = .returned (.tuple #[x, y]) ∧ Ext w w' ∧
    ((badRec k.data.toList v.data.toList d = 0 ∧ y = .nilIface ∧ OwnB w' w.heap.size x (summed (body seq k.data.toList v.data.toList d))) ∨
     (badRec k.data.toList v.data.toList d ≠ 0 ∧ y = errV (badRec k.data.toList v.data.toList d) ∧ x = .slice none 0 0))
/-- what the reference answers -/
def RefEncIs (seq : Nat) (k v : ByteArray) (d : Bool) (w : World) (e : Ending) (w' : World) : Prop :=
  ∃ x, e = .returned (.tuple #[x, .int .i64 (badRec k.data.toList v.data.toList d)]) ∧ Ext w w' ∧
    ((badRec k.data.toList v.data.toList d = 0 ∧ OwnB w' w.heap.size x (summed (body seq k.data.toList v.data.toList d))) ∨
     (badRec k.data.toList v.data.toList d ≠ 0 ∧ x = .slice none 0 0))
theorem badRec_cases (k v : ByteArray) (d : Bool) :
    ((k.size < 1 ∨ 16 < k.size) ∧ badRec k.data.toList v.data.toList d = 1) ∨
    ((1 ≤ k.size ∧ k.size ≤ 16 ∧ (64 < v.size ∨ (v.size ≤ 64 ∧ d = true ∧ 0 < v.size))) ∧ badRec k.data.toList v.data.toList d = 2) ∨
    ((1 ≤ k.size ∧ k.size ≤ 16 ∧ v.size ≤ 64 ∧ (d = false ∨ v.size = 0)) ∧ badRec k.data.toList v.data.toList d = 0) := by
  have hv0 : v.data.toList ≠ [] ↔ 0 < v.size := by
    rw [← size_data v]; exact List.length_pos_iff.symm
  unfold badRec
  simp only [size_data, hv0]
  by_cases h1 : k.size < 1 ∨ 16 < k.size
  · exact Or.inl ⟨h1, if_pos h1⟩
  · rw [if_neg h1]
    by_cases h2 : 64 < v.size ∨ (d = true ∧ 0 < v.size)
    · refine Or.inr (Or.inl ⟨⟨by omega, by omega, ?_⟩, if_pos h2⟩)
      by_cases h3 : 64 < v.size
      · exact Or.inl h3
      · rcases h2 with h2 | h2
        · exact Or.inl h2
        · exact Or.inr ⟨by omega, h2⟩
    · refine Or.inr (Or.inr ⟨⟨by omega, by omega, by omega, ?_⟩, if_neg h2⟩)
      cases d with
      | false => exact Or.inl rfl
      | true => exact Or.inr (by
          have : ¬ 0 < v.size := fun h => h2 (Or.inr ⟨rfl, h⟩)
          omega)
theorem encode_any (seq : Nat) (k v : ByteArray) (d : Bool) (w : World) :
    Calls Tryd.prog 25 #[recV seq k v d] w (EncIs seq k v d w) := by
  rcases badRec_cases k v d with ⟨h, hb⟩ | ⟨⟨h1, h2, h⟩, hb⟩ | ⟨⟨h1, h2, h3, h⟩, hb⟩
  · refine (encode_key seq k v d w h).mono ?_
    rintro e w' ⟨rfl, hE⟩
    exact ⟨_, _, rfl, hE, Or.inr ⟨by rw [hb]; decide, by rw [hb]; rfl, rfl⟩⟩
  · refine (encode_val seq k v d w h1 h2 h).mono ?_
    rintro e w' ⟨rfl, hE⟩
    exact ⟨_, _, rfl, hE, Or.inr ⟨by rw [hb]; decide, by rw [hb]; rfl, rfl⟩⟩
  · refine (encode_ok seq k v d w h1 h2 h3 h).mono ?_
    rintro e w' ⟨x, rfl, hO, hE⟩
    exact ⟨_, _, rfl, hE, Or.inl ⟨hb, rfl, hO⟩⟩
theorem refencode_any (seq : Nat) (k v : ByteArray) (d : Bool) (sz : Int) (w : World) :
    Calls Tryd.prog 14 #[refV seq k v d sz] w (RefEncIs seq k v d w) := by
  rcases badRec_cases k v d with ⟨h, hb⟩ | ⟨⟨h1, h2, h⟩, hb⟩ | ⟨⟨h1, h2, h3, h⟩, hb⟩
  · refine (refencode_key seq k v d sz w h).mono ?_
    rintro e w' ⟨rfl, hE⟩
    exact ⟨_, by rw [hb]; rfl, hE, Or.inr ⟨by rw [hb]; decide, rfl⟩⟩
  · refine (refencode_val seq k v d sz w h1 h2 h).mono ?_
    rintro e w' ⟨rfl, hE⟩
    exact ⟨_, by rw [hb]; rfl, hE, Or.inr ⟨by rw [hb]; decide, rfl⟩⟩
  · refine (refencode_ok seq k v d sz w h1 h2 h3 h).mono ?_
    rintro e w' ⟨x, rfl, hO, hE⟩
    exact ⟨_, by rw [hb]; rfl, hE, Or.inl ⟨hb, hO⟩⟩
theorem OwnB.lower {w : World} {B B' : Nat} {v : Value} {l : List UInt8} (h : OwnB w B v l) (hb : B' ≤ B) : OwnB w B' v l := ownsRow_mono h hb

set_option maxHeartbeats 800000 in
theorem kencode_any (seq : Nat) (k v : ByteArray) (d : Bool) (w : World) :
    Calls Tryd.prog 12 #[recV seq k v d] w (EncIs seq k v d w) := by
  have hcall := encode_any seq k v d (w.alloc (.cells #[.int .u64 seq, .string k, .string v, .bool d] 42))
  unfold recV at *
  go_enter Tryd.func12, Tryd.ntmps12
  go_wp2_with fail
  refine hcall.mono ?_
  rintro e w1 ⟨x, y, rfl, hE, hr⟩
  have HR := Lib.hid hr; clear hr hcall
  go_wp2
  go_ret2
  refine ⟨x, y, rfl, Ext.trans ((Ext.refl w).new _) hE, ?_⟩
  rcases HR.out with ⟨h1, h2, h3⟩ | ⟨h1, h2, h3⟩
  · exact Or.inl ⟨h1, h2, h3.lower (by simp)⟩
  · exact Or.inr ⟨h1, h2, h3⟩

set_option maxHeartbeats 800000 in
theorem kdecode_any (v : Value) (l : List UInt8) (w : World) (h : Bytes w v l) :
    Calls Tryd.prog 26 #[v] w (DecIs (dec l) w) := by
  have hcall := decode_any v l (w.alloc (.cells #[.int .u64 0, .string ⟨#[]⟩, .string ⟨#[]⟩, .bool false] 42)) (h.ext ((Ext.refl w).new _))
  have x0 : BoxAt (w.alloc (.cells #[.int .u64 0, .string ⟨#[]⟩, .string ⟨#[]⟩, .bool false] 42)) w.heap.size 42 #[.int .u64 0, .string ⟨#[]⟩, .string ⟨#[]⟩, .bool false] := BoxAt.new _ _ rfl
  generalize hd : dec l = r at *
  clear hd h
  go_enter Tryd.func26, Tryd.ntmps26
  go_wp2_with fail
  refine hcall.mono ?_
  rintro e w1 ⟨rfl, hE⟩
  have X := x0.below hE (by simp)
  have hE' : Ext w w1 := Ext.trans ((Ext.refl w).new _) hE
  clear hcall x0 hE
  have xc0 := X.cell 0
  have xc1 := X.cell 1
  have xc2 := X.cell 2
  have xc3 := X.cell 3
  have xf0 := X.free 0
  have xf1 := X.free 1
  have xf2 := X.free 2
  have xf3 := X.free 3
  cases r with
  | none =>
    unfold decV zeroRec errV
    go_wp2
    refine bodyPost_ret (v := decV none) (by simp [results, Tryd.results26, go_sem, xc0, xc1, xc2, xc3, decV, zeroRec, errV]) rfl ⟨rfl, ?_⟩
    repeat' refine Ext.setN ?_ (by simp)
    exact hE'
  | some r =>
    unfold decV
    go_wp2
    refine bodyPost_ret (v := decV (some r)) (by simp [results, Tryd.results26, go_sem, xc0, xc1, xc2, xc3, decV, zeroRec, errV]) rfl ⟨rfl, ?_⟩
    repeat' refine Ext.setN ?_ (by simp)
    exact hE'
end Go.Proofs.YtgpbhjjajpbeeaaDoor
