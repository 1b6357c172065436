/-
  The walk of keydirlaw.decodes: true, whatever the bytes.
-/
import Derived.Test.YtgpbhjjajpbeeaaDoorWrap
import Derived.Test.YtgpbhjjajpbeeaaDoorTell
namespace Go.Proofs.YtgpbhjjajpbeeaaDoor
open Go.RowKit Go.Lib Pl

def TrueIs (w : World) (e : Ending) (w' : World) : Prop := e = .returned (.bool true) ∧ Ext w w'
/-- the number that Tell answers for what Decode answers -/
theorem bsame (s : List UInt8) : (⟨s.toArray⟩ : ByteArray) = ⟨s.toArray⟩ := rfl
theorem Bytes.off {w w' : World} {g : Nat} {v : Value} {l : List UInt8} {w0 : World} (h : Bytes w0 v l) (hE : Ext w0 w) (ho : Off g w w') (hg : w0.heap.size ≤ g) : Bytes w' v l :=
  h.ext (Below.trans hE (ho.below hg))

set_option maxRecDepth 100000 in
set_option maxHeartbeats 1600000 in
theorem decodes_any (v : Value) (l : List UInt8) (w : World) (h : Bytes w v l) (hl : l.length ≤ 1000000) (hL : Laid w) :
    Calls Tryd.prog 15 #[v] w (TrueIs w) := by
  obtain ⟨a, cap, rfl, h1, h2, h3⟩ := id h
  clear h1 h2 h3
  generalize hd : dec l = r
  have H := Lib.hid h; clear h
  have HL := Lib.hid hL; clear hL
  go_enter Tryd.func15, Tryd.ntmps15
  go_wp2_with fail
  refine (roomy_any _ l w H.out hl).mono ?_
  rintro e w1 ⟨rfl, hR, hE⟩
  have hb := hR.bytes (by simp; omega) l.length (by simp)
  rw [List.take_left, List.length_append] at hb
  have hg := lt_of_block hR
  go_wp2_with fail
  refine (kdecode_any _ l w1 hb).mono ?_
  rintro e w2 ⟨rfl, hE2⟩
  replace hR := hR.below hE2 hg
  replace hE := Ext.trans hE hE2
  replace hg := Nat.lt_of_lt_of_le hg hE2.size
  clear hE2 hb
  rw [hd]
  cases r with
  | none =>
    unfold decV zeroRec errV
    have X : BoxAt (w2.alloc (.cells #[.int .u64 0, .string ⟨#[]⟩, .string ⟨#[]⟩, .bool false] 42)) w2.heap.size 42 #[.int .u64 0, .string ⟨#[]⟩, .string ⟨#[]⟩, .bool false] := BoxAt.new _ _ rfl
    replace hE : Ext w (w2.alloc (.cells #[.int .u64 0, .string ⟨#[]⟩, .string ⟨#[]⟩, .bool false] 42)) := hE.new _
    replace hR : Row (w2.alloc (.cells #[.int .u64 0, .string ⟨#[]⟩, .string ⟨#[]⟩, .bool false] 42)) w.heap.size (l ++ [71, 72]) := hR.below ((Ext.refl w2).new _) hg
    have HR := Lib.hid hR; have HE := Lib.hid hE; have HX := Lib.hid X
    clear hR hE X
    go_wp2_with fail
    refine (tell_num 3 _ (HL.out.ext HE.out)).mono ?_
    rintro e w3 ⟨rfl, hE3⟩
    have hR := HR.out.below hE3 (by simp; omega)
    have hE := Ext.trans HE.out hE3
    have X := HX.out.below hE3 (by simp)
    clear HR HE HX hE3
    have HE := Lib.hid hE; have HX := Lib.hid X
    clear hE X
    go_wp2_with fail
    refine (still_any w.heap.size _ l w3 hR (H.out.ext HE.out) hl).mono ?_
    rintro e w4 ⟨rfl, hO⟩
    have X := hO.box HX.out (by omega)
    have hE : Ext w w4 := Below.trans HE.out (hO.below (Nat.le_refl _))
    clear HE HX hO hR
    have HE := Lib.hid hE; have HX := Lib.hid X
    clear hE X
    go_wp2_with fail
    refine (refdecode_any _ l w4 (H.out.ext HE.out)).mono ?_
    rintro e w5 ⟨rfl, hE5⟩
    rw [hd]
    unfold refDecV zeroRef
    have hX5 : w2.heap.size < w4.heap.size := lt_of_block HX.out
    have X : BoxAt (w5.alloc (.cells #[.int .u64 0, .string ⟨#[]⟩, .string ⟨#[]⟩, .bool false, .int .i64 0] 45)) w2.heap.size 42 #[.int .u64 0, .string ⟨#[]⟩, .string ⟨#[]⟩, .bool false] := (HX.out.below hE5 hX5).alloc _
    have Y : BoxAt (w5.alloc (.cells #[.int .u64 0, .string ⟨#[]⟩, .string ⟨#[]⟩, .bool false, .int .i64 0] 45)) w5.heap.size 45 #[.int .u64 0, .string ⟨#[]⟩, .string ⟨#[]⟩, .bool false, .int .i64 0] := BoxAt.new _ _ rfl
    have hE : Ext w (w5.alloc (.cells #[.int .u64 0, .string ⟨#[]⟩, .string ⟨#[]⟩, .bool false, .int .i64 0] 45)) := (Ext.trans HE.out hE5).new _
    have HE' := Lib.hid hE
    clear HE HX hE5 hE H HL
    have xc0 := X.cell 0
    have xc1 := X.cell 1
    have xc2 := X.cell 2
    have xc3 := X.cell 3
    have yc0 := Y.cell 0
    have yc1 := Y.cell 1
    have yc2 := Y.cell 2
    have yc3 := Y.cell 3
    have yc4 := Y.cell 4
    clear X Y
    go_wp2
    go_ret
    exact ⟨rfl, HE'.out⟩
  | some r =>
    unfold decV zeroRec errV
    have X : BoxAt (w2.alloc (.cells #[.int .u64 r.seq, .string ⟨r.key.toArray⟩, .string ⟨r.val.toArray⟩, .bool r.del] 42)) w2.heap.size 42 #[.int .u64 r.seq, .string ⟨r.key.toArray⟩, .string ⟨r.val.toArray⟩, .bool r.del] := BoxAt.new _ _ rfl
    replace hE : Ext w (w2.alloc (.cells #[.int .u64 r.seq, .string ⟨r.key.toArray⟩, .string ⟨r.val.toArray⟩, .bool r.del] 42)) := hE.new _
    replace hR : Row (w2.alloc (.cells #[.int .u64 r.seq, .string ⟨r.key.toArray⟩, .string ⟨r.val.toArray⟩, .bool r.del] 42)) w.heap.size (l ++ [71, 72]) := hR.below ((Ext.refl w2).new _) hg
    have HR := Lib.hid hR; have HE := Lib.hid hE; have HX := Lib.hid X
    clear hR hE X
    go_wp2_with fail
    refine (tell_nil _).mono ?_
    rintro e w3 ⟨rfl, hE3⟩
    have hR := HR.out.below hE3 (by simp; omega)
    have hE := Ext.trans HE.out hE3
    have X := HX.out.below hE3 (by simp)
    clear HR HE HX hE3
    have HE := Lib.hid hE; have HX := Lib.hid X
    clear hE X
    go_wp2_with fail
    refine (still_any w.heap.size _ l w3 hR (H.out.ext HE.out) hl).mono ?_
    rintro e w4 ⟨rfl, hO⟩
    have X := hO.box HX.out (by omega)
    have hE : Ext w w4 := Below.trans HE.out (hO.below (Nat.le_refl _))
    clear HE HX hO hR
    have HE := Lib.hid hE; have HX := Lib.hid X
    clear hE X
    go_wp2_with fail
    refine (refdecode_any _ l w4 (H.out.ext HE.out)).mono ?_
    rintro e w5 ⟨rfl, hE5⟩
    rw [hd]
    unfold refDecV zeroRef
    have hX5 : w2.heap.size < w4.heap.size := lt_of_block HX.out
    have X : BoxAt (w5.alloc (.cells #[.int .u64 r.seq, .string ⟨r.key.toArray⟩, .string ⟨r.val.toArray⟩, .bool r.del, .int .i64 r.size] 45)) w2.heap.size 42 #[.int .u64 r.seq, .string ⟨r.key.toArray⟩, .string ⟨r.val.toArray⟩, .bool r.del] := (HX.out.below hE5 hX5).alloc _
    have Y : BoxAt (w5.alloc (.cells #[.int .u64 r.seq, .string ⟨r.key.toArray⟩, .string ⟨r.val.toArray⟩, .bool r.del, .int .i64 r.size] 45)) w5.heap.size 45 #[.int .u64 r.seq, .string ⟨r.key.toArray⟩, .string ⟨r.val.toArray⟩, .bool r.del, .int .i64 r.size] := BoxAt.new _ _ rfl
    have hE : Ext w (w5.alloc (.cells #[.int .u64 r.seq, .string ⟨r.key.toArray⟩, .string ⟨r.val.toArray⟩, .bool r.del, .int .i64 r.size] 45)) := (Ext.trans HE.out hE5).new _
    have HE' := Lib.hid hE
    clear HE HX hE5 hE H HL
    have xc0 := X.cell 0
    have xc1 := X.cell 1
    have xc2 := X.cell 2
    have xc3 := X.cell 3
    have yc0 := Y.cell 0
    have yc1 := Y.cell 1
    have yc2 := Y.cell 2
    have yc3 := Y.cell 3
    have yc4 := Y.cell 4
    clear X Y
    go_wp2
    go_ret
    exact ⟨rfl, HE'.out⟩
end Go.Proofs.YtgpbhjjajpbeeaaDoor
