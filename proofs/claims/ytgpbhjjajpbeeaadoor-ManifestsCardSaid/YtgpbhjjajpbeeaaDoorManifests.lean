/-
  The walk of keydirlaw.Manifests: true, where the lengths together are at most 40000 or do not wrap.
-/
import Derived.Test.YtgpbhjjajpbeeaaDoorManLaw
import Derived.Test.YtgpbhjjajpbeeaaDoorRefMan
namespace Go.Proofs.YtgpbhjjajpbeeaaDoor
open Go.RowKit Go.Lib Pl

theorem manBytes_length {gen : Nat} {l : List Int} (h : l.length ≤ 60) : (summed (manBody gen l)).length ≤ 300 := by
  unfold summed manBody; simp [be_length, idBytes_length]; omega
theorem idsOK_len {l : List Int} (h : idsOK l = true) : l.length ≤ 60 := by
  unfold idsOK at h
  exact of_decide_eq_true (Bool.and_eq_true_iff.1 h).1
theorem Bytes.nil' (w : World) : Bytes w (.slice none 0 0) [] := ⟨none, 0, rfl, Nat.le_refl _, ⟨by omega, fun _ => rfl⟩, fun h => absurd rfl h⟩

set_option maxRecDepth 100000 in
set_option maxHeartbeats 1600000 in
theorem manifests_any (gen : Nat) (v : Value) (ids : List Int) (b : Value) (l : List UInt8) (w : World) (h : Ints w v ids) (hwf : ∀ n ∈ ids, (Lit.int .i64 n).wf = true) (hb : Bytes w b l) (hL : Laid w)
    (hsz : ids.length + l.length ≤ 9000000000000000000) :
    Calls Tryd.prog 3 #[.int .u64 gen, v, b] w (TrueIs w) := by
  obtain ⟨a, cap, rfl, _, _, _⟩ := id h
  obtain ⟨a2, cap2, rfl, _, _, _⟩ := id hb
  obtain ⟨i0, hi, hz0, hz1, hz2⟩ := info_parts info_int
  obtain ⟨i8, hi8, hy0, hy1, hy2⟩ := info_parts info_u8
  have HI := Lib.hid h; have HB := Lib.hid hb; have HL := Lib.hid hL; have HW := Lib.hid hwf
  clear h hb hL hwf
  have hw1 : IntKind.i64.wrap ((ids.length : Int) + (l.length : Int)) = (ids.length : Int) + (l.length : Int) := IntWalk.i64_in _ (by omega)
  by_cases hbig : 40000 < ids.length + l.length
  · go_enter Tryd.func3, Tryd.ntmps3
    go_wp2
    go_ret
    exact ⟨rfl, Ext.refl w⟩
  have hO0 : OwnI w w.heap.size (.slice none 0 0) [] := ⟨rfl, Or.inl ⟨rfl, rfl⟩⟩
  go_enter Tryd.func3, Tryd.ntmps3
  go_wp2_with (at_builtin; go_must (refine wpList_append_src rfl _ _ 23 rfl w.heap.size 3 i0 (.int .i64 0) 1 8 Tryd.underlying23 hi hz0 hz1 hz2 rfl (by omega) (.slice none 0 0) 0 _ rfl hO0 (.slice a ids.length cap) ids.length (ids.map (Value.int .i64)) rfl HI.out (by simp) (by intro u hu; obtain ⟨x, _, rfl⟩ := List.mem_map.1 hu; rfl) (by unfold maxLen; omega) (by omega) (Nat.le_refl _) ?_); intro b1 c1 w1 hown1 hgrow1 hat1; clear hat1)
  rw [Nat.zero_add] at *
  have hO1 : OwnI w1 w.heap.size (.slice b1 ids.length c1) ids := hown1
  have hE1 : Ext w w1 := Below.grown (Ext.refl w) hgrow1 (Nat.le_refl _) (fun r hr => by cases hr)
  have c2 := kwriteMan_any gen _ ids w1 hO1.ints HW.out
  have HC2 := Lib.hid c2; have HO := Lib.hid hO1; have HE := Lib.hid hE1
  clear hown1 hgrow1 hO1 hE1 c2 hO0
  refine HC2.out.mono ?_
  rintro e w2 ⟨x, y, rfl, hE2, hr⟩
  have hE : Ext w w2 := Ext.trans HE.out hE2
  have hO2 : OwnI w2 w.heap.size (.slice b1 ids.length c1) ids := ownsRow_below HO.out hE2
  have hlo : w.heap.size ≤ w1.heap.size := HE.out.size
  clear HO HE HC2 hE2
  have HE := Lib.hid hE; have HO := Lib.hid hO2
  clear hE hO2
  rcases hr with ⟨hok, rfl, hX⟩ | ⟨hok, rfl, rfl⟩
  case inr =>
    unfold errV
    go_wp2_with fail
    refine (tell_num 4 _ (HL.out.ext HE.out)).mono ?_
    rintro e w3 ⟨rfl, hE3⟩
    have hE := Ext.trans HE.out hE3
    have hO3 : OwnI w3 w.heap.size (.slice b1 ids.length c1) ids := ownsRow_below HO.out hE3
    clear HE hE3 HO
    have c4 := sameNumbers_any _ _ ids ids w3 hO3.ints (HI.out.ext hE)
    have HC4 := Lib.hid c4; have HE := Lib.hid hE
    clear c4 hE hO3
    go_wp2_with fail
    refine HC4.out.mono ?_
    rintro e w4 ⟨rfl, q, rfl⟩
    have hE := Ext.trans HE.out (Ext.drewN w3 q)
    clear HE HC4
    generalize w3.drewN q = w4 at *
    have c5 := refWriteMan_any gen _ ids w4 (HI.out.ext hE)
    have HC5 := Lib.hid c5; have HE := Lib.hid hE
    clear c5 hE
    go_wp2_with fail
    refine HC5.out.mono ?_
    rintro e w5 ⟨x5, rfl, hE5, hr5⟩
    obtain rfl : x5 = .slice none 0 0 := by
      rcases hr5 with ⟨h, _⟩ | ⟨_, h⟩
      · rw [hok] at h; cases h
      · exact h
    rw [hok]
    have hE := Ext.trans HE.out hE5
    clear HE HC5 hE5 hr5
    have HE := Lib.hid hE; clear hE
    simp only [Bool.false_eq_true, if_false]
    go_wp2_with fail
    refine (same_any _ _ [] [] w5 (Bytes.nil' _) (Bytes.nil' _)).mono ?_
    rintro e w6 ⟨rfl, q6, rfl⟩
    have hE := Ext.trans HE.out (Ext.drewN w5 q6)
    clear HE
    generalize w5.drewN q6 = w6 at *
    have HE := Lib.hid hE; clear hE
    go_wp2_with fail
    refine (num_any 4 w6).mono ?_
    rintro e w7 ⟨rfl, rfl⟩
    have c8 := manifest_any _ l w6 (HB.out.ext HE.out) (by omega) (HL.out.ext HE.out)
    have HC8 := Lib.hid c8; clear c8
    go_wp2_with fail
    refine HC8.out.mono ?_
    rintro e w8 ⟨rfl, hE8⟩
    have hE := Ext.trans HE.out hE8
    clear HE hE8 HC8
    have HE := Lib.hid hE; clear hE
    have hnil : (binOp BinOp.eql 24 (.slice none 0 0) (.slice none 0 0)).run Tryd.prog w8 = .ok (.bool true) w8 := run_eql_slice_nil w8 24 5 none 0 0 0 0 Tryd.underlying24
    go_wp2
    go_ret
    exact ⟨rfl, HE.out⟩
  case inl =>
    have h60 := manBytes_length (gen := gen) (idsOK_len hok)
    generalize hm : summed (manBody gen ids) = m at *
    have hX2 : OwnB w2 w.heap.size x m := ownsRow_mono hX hlo
    obtain ⟨xa, xc, rfl⟩ := ownsRow_form hX
    have HX := Lib.hid hX2; have HM := Lib.hid hm
    clear hX hX2 hm
    go_wp2_with fail
    refine (tell_nil _).mono ?_
    rintro e w3 ⟨rfl, hE3⟩
    have hE := Ext.trans HE.out hE3
    have hO3 : OwnI w3 w.heap.size (.slice b1 ids.length c1) ids := ownsRow_below HO.out hE3
    have hX3 : OwnB w3 w.heap.size (.slice xa m.length xc) m := ownsRow_below HX.out hE3
    clear HE hE3 HO HX
    have c4 := sameNumbers_any _ _ ids ids w3 hO3.ints (HI.out.ext hE)
    have HC4 := Lib.hid c4; have HE := Lib.hid hE; have HX := Lib.hid hX3
    clear c4 hE hO3 hX3
    go_wp2_with fail
    refine HC4.out.mono ?_
    rintro e w4 ⟨rfl, q, rfl⟩
    have hE := Ext.trans HE.out (Ext.drewN w3 q)
    have hX4 : OwnB (w3.drewN q) w.heap.size (.slice xa m.length xc) m := ownsRow_below HX.out (Ext.drewN w3 q)
    clear HE HC4 HX
    generalize w3.drewN q = w4 at *
    have c5 := refWriteMan_any gen _ ids w4 (HI.out.ext hE)
    have HC5 := Lib.hid c5; have HE := Lib.hid hE; have HX := Lib.hid hX4
    clear c5 hE hX4
    go_wp2_with fail
    refine HC5.out.mono ?_
    rintro e w5 ⟨x5, rfl, hE5, hr5⟩
    rw [HM.out] at hr5
    have hX5 : OwnB w5 w4.heap.size x5 m := by
      rcases hr5 with ⟨_, h⟩ | ⟨h, _⟩
      · exact h
      · rw [hok] at h; cases h
    rw [hok]
    have hE := Ext.trans HE.out hE5
    have hX6 : OwnB w5 w.heap.size (.slice xa m.length xc) m := ownsRow_below HX.out hE5
    clear HE HC5 hE5 hr5 HX
    have c6 := same_any _ _ m m w5 hX6.bytes hX5.bytes
    have HC6 := Lib.hid c6; have HE := Lib.hid hE; have HX := Lib.hid hX6
    clear hE c6 hX5 hX6
    simp only [if_true]
    go_wp2_with fail
    refine HC6.out.mono ?_
    rintro e w6 ⟨rfl, q6, rfl⟩
    have hE := Ext.trans HE.out (Ext.drewN w5 q6)
    have hX6 : OwnB (w5.drewN q6) w.heap.size (.slice xa m.length xc) m := ownsRow_below HX.out (Ext.drewN w5 q6)
    clear HE HX HC6
    generalize w5.drewN q6 = w6 at *
    have HE := Lib.hid hE; have HX := Lib.hid hX6; clear hE hX6
    go_wp2_with fail
    refine (num_any 0 w6).mono ?_
    rintro e w7 ⟨rfl, rfl⟩
    have c8 := manifest_any _ l w6 (HB.out.ext HE.out) (by omega) (HL.out.ext HE.out)
    have HC8 := Lib.hid c8; clear c8
    go_wp2_with fail
    refine HC8.out.mono ?_
    rintro e w8 ⟨rfl, hE8⟩
    have hE := Ext.trans HE.out hE8
    have hX8 : OwnB w8 w.heap.size (.slice xa m.length xc) m := ownsRow_below HX.out hE8
    clear HE hE8 HC8 HX
    have c9 := manifest_any _ m w8 hX8.bytes (by omega) (HL.out.ext hE)
    have HC9 := Lib.hid c9; have HE := Lib.hid hE; have HX := Lib.hid hX8; clear hE hX8 c9
    go_wp2_with fail
    refine HC9.out.mono ?_
    rintro e w9 ⟨rfl, hE9⟩
    have hE := Ext.trans HE.out hE9
    have hX9 : OwnB w9 w.heap.size (.slice xa m.length xc) m := ownsRow_below HX.out hE9
    clear HE hE9 HC9 HX
    have HE := Lib.hid hE; have HX := Lib.hid hX9; clear hE hX9
    have hsiz := HE.out.size
    go_wp2_with (at_builtin; go_must (refine wpList_append_src rfl _ _ 24 rfl w.heap.size 5 i8 (.int .u8 0) 1 1 Tryd.underlying24 hi8 hy0 hy1 hy2 rfl (by omega) (.slice xa m.length xc) m.length _ rfl HX.out (.slice a2 l.length cap2) l.length (l.map byteV) rfl (HB.out.ext HE.out) (by simp) (byteV_one _) (by unfold maxLen; omega) (by omega) hsiz ?_); intro b10 c10 w10 hown10 hgrow10 hat10; clear hat10)
    have hO10 : OwnB w10 w.heap.size (.slice b10 (m.length + l.length) c10) (m ++ l) := by
      unfold OwnB; rw [List.map_append, List.length_append]; exact hown10
    have hE10 : Ext w w10 := HE.out.grown hgrow10 hsiz (fun r hr => by have := (HX.out.lt r hr); omega)
    clear HE HX hown10 hgrow10 hsiz
    have hl10 : (m ++ l).length ≤ 1000000 := by rw [List.length_append]; omega
    have c11 := manifest_any _ (m ++ l) w10 hO10.bytes hl10 (HL.out.ext hE10)
    rw [List.length_append] at *
    have HC11 := Lib.hid c11; have HE := Lib.hid hE10
    clear c11 hE10 hO10 hl10
    go_wp2_with fail
    refine HC11.out.mono ?_
    rintro e w11 ⟨rfl, hE11⟩
    have hE := Ext.trans HE.out hE11
    clear HE hE11 HC11
    have HE := Lib.hid hE; clear hE
    go_wp2
    go_ret
    exact ⟨rfl, HE.out⟩
end Go.Proofs.YtgpbhjjajpbeeaaDoor
