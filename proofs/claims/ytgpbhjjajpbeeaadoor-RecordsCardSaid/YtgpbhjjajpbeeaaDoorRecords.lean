/-
  The walk of keydirlaw.Records: true, where the lengths together are at most 40000 or do not wrap.
-/
import Derived.Test.YtgpbhjjajpbeeaaDoorDecodes
import Derived.Lib.SliceRun
namespace Go.Proofs.YtgpbhjjajpbeeaaDoor
open Go.RowKit Go.Lib Pl

theorem badRec_lt (k v : List UInt8) (d : Bool) : badRec k v d < 3 := by unfold badRec; split; omega; split <;> omega
theorem Bytes.nil (w : World) : Bytes w (.slice none 0 0) [] := ⟨none, 0, rfl, Nat.le_refl _, ⟨by omega, fun _ => rfl⟩, fun h => absurd rfl h⟩
theorem summed_body_length (seq : Nat) (k v : List UInt8) (d : Bool) (hk : k.length ≤ 16) (hv : v.length ≤ 64) : (summed (body seq k v d)).length ≤ 200 := by
  unfold summed body; simp [be_length]; omega

set_option maxRecDepth 100000 in
set_option maxHeartbeats 1600000 in
theorem records_any (seq : Nat) (k v : ByteArray) (d : Bool) (b : Value) (l : List UInt8) (w : World) (h : Bytes w b l) (hL : Laid w) (hsz : k.size + v.size + l.length ≤ 9000000000000000000) :
    Calls Tryd.prog 4 #[recV seq k v d, b] w (TrueIs w) := by
  obtain ⟨a, cap, rfl, h1, h2, h3⟩ := id h
  clear h1 h2 h3
  obtain ⟨i0, hi, hz0, hz1, hz2⟩ := info_parts info_u8
  have H := Lib.hid h; clear h
  have HL := Lib.hid hL; clear hL
  have hbl := badRec_lt k.data.toList v.data.toList d
  have hw1 : IntKind.i64.wrap ((k.size : Int) + (v.size : Int)) = (k.size : Int) + (v.size : Int) := IntWalk.i64_in _ (by omega)
  have hw2 : IntKind.i64.wrap ((k.size : Int) + (v.size : Int) + (l.length : Int)) = (k.size : Int) + (v.size : Int) + (l.length : Int) := IntWalk.i64_in _ (by omega)
  have X : BoxAt (w.alloc (.cells #[.int .u64 seq, .string k, .string v, .bool d] 42)) w.heap.size 42 #[.int .u64 seq, .string k, .string v, .bool d] := BoxAt.new _ _ rfl
  have hE : Ext w (w.alloc (.cells #[.int .u64 seq, .string k, .string v, .bool d] 42)) := (Ext.refl w).new _
  have HX := Lib.hid X; have HE := Lib.hid hE; clear X hE
  have hcall := kencode_any seq k v d (w.alloc (.cells #[.int .u64 seq, .string k, .string v, .bool d] 42))
  have hcase := badRec_cases k v d
  unfold recV at *
  by_cases hbig : 40000 < k.size + v.size + l.length
  · clear hcall hcase
    go_enter Tryd.func4, Tryd.ntmps4
    go_wp2
    go_ret
    exact ⟨rfl, HE.out⟩
  generalize hn : badRec k.data.toList v.data.toList d = n at *
  generalize hm : summed (body seq k.data.toList v.data.toList d) = m at *
  go_enter Tryd.func4, Tryd.ntmps4
  go_wp2_with fail
  refine hcall.mono ?_
  rintro e w1 ⟨x, y, rfl, hE1, hr⟩
  unfold EncIs at hcall; clear hcall
  rw [hn, hm] at hr
  have hX := HX.out.below hE1 (by simp)
  have hE := Ext.trans HE.out hE1
  clear HX HE hE1
  have HX := Lib.hid hX; have HE := Lib.hid hE; clear hX hE
  by_cases hn0 : n = 0
  case neg =>
    obtain ⟨rfl, rfl⟩ : y = errV n ∧ x = .slice none 0 0 := by
      rcases hr with ⟨h, _⟩ | ⟨_, h1, h2⟩
      · exact absurd h hn0
      · exact ⟨h1, h2⟩
    clear hr hcase
    unfold errV
    have hmore : ∀ W, Ext w W → Bytes W (.slice a l.length cap) l := fun W hW => H.out.ext hW
    have HM := Lib.hid hmore; clear hmore
    go_wp2_with fail
    refine (tell_num n _ (HL.out.ext HE.out)).mono ?_
    rintro e w2 ⟨rfl, hE2⟩
    have hX := HX.out.below hE2 (lt_of_block HX.out)
    have hE := Ext.trans HE.out hE2
    clear HX HE hE2
    have HE := Lib.hid hE; have HX := Lib.hid hX; clear hE hX
    have xc0 := HX.out.cell 0
    have xc1 := HX.out.cell 1
    have xc2 := HX.out.cell 2
    have xc3 := HX.out.cell 3
    have hrec := record_any seq k v d w2
    unfold recV at hrec
    go_wp2_with fail
    refine hrec.mono ?_
    rintro e w3 ⟨rfl, hE3⟩
    clear hrec xc0 xc1 xc2 xc3 HX
    have hE : Ext w (w3.alloc (.cells #[.int .u64 seq, .string k, .string v, .bool d, .int .i64 0] 45)) := (Ext.trans HE.out hE3).new _
    have Y : BoxAt (w3.alloc (.cells #[.int .u64 seq, .string k, .string v, .bool d, .int .i64 0] 45)) w3.heap.size 45 #[.int .u64 seq, .string k, .string v, .bool d, .int .i64 0] := BoxAt.new _ _ rfl
    clear HE hE3
    have HE := Lib.hid hE; have HY := Lib.hid Y; clear hE Y
    have hcall := refencode_any seq k v d 0 (w3.alloc (.cells #[.int .u64 seq, .string k, .string v, .bool d, .int .i64 0] 45))
    unfold refV at *
    have yc0 := HY.out.cell 0
    have yc1 := HY.out.cell 1
    have yc2 := HY.out.cell 2
    have yc3 := HY.out.cell 3
    have yc4 := HY.out.cell 4
    go_wp2_with fail
    refine hcall.mono ?_
    rintro e w4 ⟨x2, rfl, hE4, hr2⟩
    rw [hn, hm] at hr2
    clear hcall yc0 yc1 yc2 yc3 yc4 HY
    have hE := Ext.trans HE.out hE4
    clear HE
    have HE := Lib.hid hE; clear hE
    obtain rfl : x2 = .slice none 0 0 := by
      rcases hr2 with ⟨h, _⟩ | ⟨_, h⟩
      · exact absurd h hn0
      · exact h
    clear hr2 hE4
    go_wp2_with fail
    refine (same_any _ _ [] [] w4 (Bytes.nil _) (Bytes.nil _)).mono ?_
    rintro e w5 ⟨rfl, q, rfl⟩
    have hE := Ext.trans HE.out (Ext.drewN w4 q)
    clear HE
    have HE := Lib.hid hE; clear hE
    generalize w4.drewN q = w5 at *
    have hnn : ((n : Int) != (n : Int)) = false := by rw [bne, beq_iff_eq.2 rfl]; rfl
    have hn0' : ((n : Int) != 0) = true := by rw [bne, beq_eq_false_iff_ne.2 (by omega)]; rfl
    go_wp2_with fail
    refine (num_any n w5).mono ?_
    rintro e w6 ⟨rfl, rfl⟩
    go_wp2_with fail
    refine (decodes_any _ l w5 (HM.out w5 HE.out) (by omega) (HL.out.ext HE.out)).mono ?_
    rintro e w7 ⟨rfl, hE7⟩
    have hE := Ext.trans HE.out hE7
    clear HE hE7
    have HE := Lib.hid hE; clear hE
    have hnil : (binOp BinOp.eql 24 (.slice none 0 0) (.slice none 0 0)).run Tryd.prog w7 = .ok (.bool true) w7 := run_eql_slice_nil w7 24 5 none 0 0 0 0 Tryd.underlying24
    go_wp2
    go_ret
    exact ⟨rfl, HE.out⟩
  obtain ⟨rfl, hO⟩ : y = .nilIface ∧ OwnB w1 (w.alloc (.cells #[.int .u64 seq, .string k, .string v, .bool d] 42)).heap.size x m := by
    rcases hr with ⟨_, h1, h2⟩ | ⟨h, _⟩
    · exact ⟨h1, h2⟩
    · exact absurd hn0 h
  subst hn0
  have hmlen : m.length ≤ 200 := by
    rcases hcase with ⟨_, h⟩ | ⟨_, h⟩ | ⟨⟨_, h2, h3, _⟩, _⟩
    · cases h
    · cases h
    · rw [← hm]; exact summed_body_length _ _ _ _ (by rw [size_data]; exact h2) (by rw [size_data]; exact h3)
  have hOx := hO.lower (B' := w.heap.size) (by simp)
  clear hr hcase hO
  have HO := Lib.hid hOx; clear hOx
  have hmore : ∀ W, Ext w W → Bytes W (.slice a l.length cap) l := fun W hW => H.out.ext hW
  have HM := Lib.hid hmore; clear hmore
  go_wp2_with fail
  refine (tell_nil _).mono ?_
  rintro e w2 ⟨rfl, hE2⟩
  have hX := HX.out.below hE2 (lt_of_block HX.out)
  have hE := Ext.trans HE.out hE2
  have hO2' : OwnB w2 w.heap.size x m := ownsRow_below HO.out hE2
  clear HO
  have HO := Lib.hid hO2'; clear hO2'
  clear HX HE hE2
  have HE := Lib.hid hE; have HX := Lib.hid hX; clear hE hX
  have xc0 := HX.out.cell 0
  have xc1 := HX.out.cell 1
  have xc2 := HX.out.cell 2
  have xc3 := HX.out.cell 3
  have hrec := record_any seq k v d w2
  unfold recV at hrec
  go_wp2_with fail
  refine hrec.mono ?_
  rintro e w3 ⟨rfl, hE3⟩
  clear hrec xc0 xc1 xc2 xc3 HX
  have hO3' : OwnB (w3.alloc (.cells #[.int .u64 seq, .string k, .string v, .bool d, .int .i64 0] 45)) w.heap.size x m := ownsRow_below HO.out (hE3.new _)
  clear HO
  have HO := Lib.hid hO3'; clear hO3'
  have hE : Ext w (w3.alloc (.cells #[.int .u64 seq, .string k, .string v, .bool d, .int .i64 0] 45)) := (Ext.trans HE.out hE3).new _
  have Y : BoxAt (w3.alloc (.cells #[.int .u64 seq, .string k, .string v, .bool d, .int .i64 0] 45)) w3.heap.size 45 #[.int .u64 seq, .string k, .string v, .bool d, .int .i64 0] := BoxAt.new _ _ rfl
  clear HE hE3
  have HE := Lib.hid hE; have HY := Lib.hid Y; clear hE Y
  have hcall := refencode_any seq k v d 0 (w3.alloc (.cells #[.int .u64 seq, .string k, .string v, .bool d, .int .i64 0] 45))
  unfold refV at *
  have yc0 := HY.out.cell 0
  have yc1 := HY.out.cell 1
  have yc2 := HY.out.cell 2
  have yc3 := HY.out.cell 3
  have yc4 := HY.out.cell 4
  go_wp2_with fail
  refine hcall.mono ?_
  rintro e w4 ⟨x2, rfl, hE4, hr2⟩
  rw [hn, hm] at hr2
  clear hcall yc0 yc1 yc2 yc3 yc4 HY
  have hE := Ext.trans HE.out hE4
  have hO4' : OwnB w4 w.heap.size x m := ownsRow_below HO.out hE4
  clear HO
  have HO := Lib.hid hO4'; clear hO4'
  clear HE
  have HE := Lib.hid hE; clear hE
  obtain hO2 : OwnB w4 (w3.alloc (.cells #[.int .u64 seq, .string k, .string v, .bool d, .int .i64 0] 45)).heap.size x2 m := by
    rcases hr2 with ⟨_, h⟩ | ⟨h, _⟩
    · exact h
    · exact absurd rfl h
  clear hr2 hE4
  have hOb := HO.out.bytes
  go_wp2_with fail
  refine (same_any _ _ m m w4 hOb hO2.bytes).mono ?_
  rintro e w5 ⟨rfl, q, rfl⟩
  have hE := Ext.trans HE.out (Ext.drewN w4 q)
  have hO5 : OwnB (w4.drewN q) w.heap.size x m := ownsRow_below HO.out (Ext.drewN w4 q)
  clear HE HO hO2 hOb
  have HE := Lib.hid hE; have HO := Lib.hid hO5; clear hE hO5
  generalize w4.drewN q = w5 at *
  go_wp2_with fail
  refine (num_any 0 w5).mono ?_
  rintro e w6 ⟨rfl, rfl⟩
  go_wp2_with fail
  refine (decodes_any _ l w5 (HM.out w5 HE.out) (by omega) (HL.out.ext HE.out)).mono ?_
  rintro e w7 ⟨rfl, hE7⟩
  have hE := Ext.trans HE.out hE7
  have hO7 : OwnB w7 w.heap.size x m := ownsRow_below HO.out hE7
  clear HE HO hE7
  have HE := Lib.hid hE; have HO := Lib.hid hO7; clear hE hO7
  have hsiz := HE.out.size
  go_wp2_with (at_builtin; go_must (refine wpList_append_src rfl _ _ 24 rfl w.heap.size 5 i0 (.int .u8 0) 1 1 Tryd.underlying24 hi hz0 hz1 hz2 rfl (by omega) x m.length _ rfl HO.out (.slice a l.length cap) l.length (l.map byteV) rfl (HM.out w7 HE.out) (by simp) (byteV_one _) (by unfold maxLen; omega) (by omega) hsiz ?_); intro b8 c8 w8 hown8 hgrow8 hat8; clear hat8)
  have hO8 : OwnB w8 w.heap.size (.slice b8 (m.length + l.length) c8) (m ++ l) := by
    unfold OwnB; rw [List.map_append, List.length_append]; exact hown8
  have hE8 : Ext w w8 := HE.out.grown hgrow8 hsiz (fun r hr => by have := (HO.out.lt r hr); omega)
  clear HE HO hown8 hgrow8 hsiz
  have HE := Lib.hid hE8; have HO := Lib.hid hO8; clear hE8 hO8
  have hb8 := HO.out.bytes
  have hl8 : (m ++ l).length ≤ 1000000 := by rw [List.length_append]; omega
  have hB8 := decodes_any _ (m ++ l) w8 hb8 hl8 (HL.out.ext HE.out)
  clear hb8 hl8
  refine hB8.mono ?_
  rintro e w9 ⟨rfl, hE9⟩
  have hE := Ext.trans HE.out hE9
  clear HE hE9 HO hB8
  have HE := Lib.hid hE; clear hE
  go_wp2
  go_ret
  exact ⟨rfl, HE.out⟩
end Go.Proofs.YtgpbhjjajpbeeaaDoor
