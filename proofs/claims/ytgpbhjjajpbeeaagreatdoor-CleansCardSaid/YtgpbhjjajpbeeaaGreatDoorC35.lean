/-
  The walk of keydirref.ReadManifest: what readMan says of the bytes. No condition.
-/
import Derived.Test.YtgpbhjjajpbeeaaGreatDoorC11
import Derived.Test.YtgpbhjjajpbeeaaGreatDoorC24
import Derived.Test.YtgpbhjjajpbeeaaGreatDoorC27
set_option linter.unusedSimpArgs false
set_option linter.unusedVariables false
set_option linter.unnecessarySimpa false
namespace Go.Proofs.YtgpbhjjajpbeeaaGreatDoor
open Go.RowKit Go.Lib Pl

/-- what the reference's ReadManifest answers -/
def RefRManIs (r : Option (Nat × List Int)) (w : World) (e : Ending) (w' : World) : Prop :=
  ∃ g v b, e = .returned (.tuple #[.int .u64 g, v, .bool b]) ∧ Ext w w' ∧
    ((r = none ∧ g = 0 ∧ v = .slice none 0 0 ∧ b = false) ∨ (∃ gen ids, r = some (gen, ids) ∧ g = (gen : Int) ∧ b = true ∧ OwnI w' w.heap.size v ids))

set_option maxRecDepth 100000 in
set_option maxHeartbeats 2000000 in
theorem refReadMan_any (v : Value) (l : List UInt8) (w : World) (h : Bytes w v l) :
    Calls Tryz.prog 32 #[v] w (RefRManIs (readMan l) w) := by
  obtain ⟨i0, hi, hz0, hz1, hz2⟩ := info_parts info_int
  obtain ⟨a, cap, rfl, h1, h2, h3⟩ := id h
  clear h3
  by_cases c0 : l.length < 14
  · have hd : readMan l = none := readMan_none (manGood_len (by omega))
    clear h
    go_enter Tryz.func32, Tryz.ntmps32
    go_wp2
    go_ret3
    exact ⟨0, _, _, rfl, Ext.refl w, Or.inl ⟨hd, rfl, rfl, rfl⟩⟩
  obtain ⟨ad, rfl⟩ : ∃ ad, a = some ad := by
    cases a with
    | none => have := h2.2 rfl; omega
    | some ad => exact ⟨ad, rfl⟩
  have HB := Lib.hid h; clear h
  have h14 : 14 ≤ l.length := by omega
  have hcn := cnt_lt l
  have hwn : IntKind.i64.wrap (cnt l : Int) = (cnt l : Int) := IntWalk.i64_in _ (by omega)
  have hsl : ∀ W : World, Ext w W → ∀ i j, 0 < i → i ≤ j → j ≤ l.length → i < cap → Bytes W (.slice (some ⟨ad.block, ad.off + i, none⟩) (j - i) (cap - i)) ((l.take j).drop i) := by
    intro W hW i j h0 hij hj hc
    have := (HB.out.ext hW).sliced i j hij hj
    rw [if_neg (by omega)] at this
    have e : (some ad).map (·.add i) = some ⟨ad.block, ad.off + i, none⟩ := by
      show some (ad.add i) = _
      unfold Addr.add; rw [if_neg (by omega)]
    rw [e] at this; exact this
  have HS := Lib.hid hsl; clear hsl
  have e12 : num ((l.take 14).drop 12) = cnt l := by unfold cnt; rw [List.drop_take]
  have hcap : 14 ≤ cap := by omega
  have c1 := refnumber_any _ ((l.take 14).drop 12) w (HS.out _ (Ext.refl w) 12 14 (by omega) (by omega) (by omega) (by omega)) (by simp; omega)
  rw [e12] at c1
  have HC1 := Lib.hid c1; clear c1 e12
  go_enter Tryz.func32, Tryz.ntmps32
  go_wp2_with fail
  refine HC1.out.mono ?_
  rintro e W ⟨rfl, hw⟩
  subst hw
  have c2 := refsum_any _ (l.drop 4) w (by
    have := HS.out _ (Ext.refl w) 4 l.length (by omega) (by omega) (Nat.le_refl _) (by omega)
    rw [List.take_length] at this; exact this)
  have HC2 := Lib.hid c2; clear c2
  have hw4 : IntKind.i64.wrap (4 * (cnt l : Int)) = 4 * (cnt l : Int) := IntWalk.i64_in _ (by omega)
  have hw14 : IntKind.i64.wrap (14 + 4 * (cnt l : Int)) = 14 + 4 * (cnt l : Int) := IntWalk.i64_in _ (by omega)
  go_wp2_with fail
  refine HC2.out.mono ?_
  rintro e W ⟨rfl, hw⟩
  subst hw
  by_cases c3 : l.length = 14 + 4 * cnt l
  case neg =>
    have hd : readMan l = none := readMan_none (manGood_len (by omega))
    have hne : ((l.length : Int) != 14 + 4 * (cnt l : Int)) = true := by rw [bne, beq_eq_false_iff_ne.2 (by omega)]; rfl
    go_wp2
    go_ret3
    exact ⟨0, _, _, rfl, Ext.refl w, Or.inl ⟨hd, rfl, rfl, rfl⟩⟩
  have heq : ((l.length : Int) != 14 + 4 * (cnt l : Int)) = false := by rw [bne, beq_iff_eq.2 (by omega)]; rfl
  have HL := Lib.hid c3; clear c3
  have c4 := refnumber_any _ (l.take 4) w (by
    have := (HB.out).sliced 0 4 (by omega) (by omega)
    rw [if_neg (by omega)] at this; exact this) (by simp; omega)
  have HC4 := Lib.hid c4; clear c4
  have hm1 : num (l.take 4) < 4294967296 := num_take_lt l 4
  go_wp2_with fail
  refine HC4.out.mono ?_
  rintro e W ⟨rfl, hw⟩
  subst hw
  have hwc : IntKind.u64.wrap (crc (l.drop 4) : Int) = (crc (l.drop 4) : Int) := by
    have := crc_lt (l.drop 4)
    rw [IntKind.wrap_u64]; omega
  by_cases hcr : crc (l.drop 4) = num (l.take 4)
  case neg =>
    have hcr' : ((num (l.take 4) : Int) != (crc (l.drop 4) : Int)) = true := by rw [bne, beq_eq_false_iff_ne.2 (by omega)]; rfl
    have hd : readMan l = none := readMan_none (manGood_crc hcr)
    go_wp2
    go_ret3
    exact ⟨0, _, _, rfl, Ext.refl w, Or.inl ⟨hd, rfl, rfl, rfl⟩⟩
  have hcr' : ((num (l.take 4) : Int) != (crc (l.drop 4) : Int)) = false := by rw [bne, beq_iff_eq.2 (by omega)]; rfl
  have HCR := Lib.hid hcr; clear hcr
  go_wp2
  go_loopw [7, 8] (fun u i wr => ∃ k : Nat, k ≤ cnt l ∧ i = .int .i64 k ∧ OwnI wr w.heap.size u (idsTo l k) ∧ Ext w wr) (fun _ i _ => cnt l - (intOf i).toNat)
  case atStart => exact ⟨0, Nat.zero_le _, rfl, ⟨rfl, Or.inl ⟨rfl, rfl⟩⟩, Ext.refl w⟩
  case round =>
    obtain ⟨k, hk, rfl, hO, hE⟩ := hrel
    by_cases hlt : k < cnt l
    · have hl := HL.out
      have e4 : num ((l.take (18 + 4 * k)).drop (14 + 4 * k)) = idAt l k := by unfold idAt; rw [List.drop_take]; congr 2; omega
      have c5 := refnumber_any (.slice (some (ad.add (14 + 4 * k))) (18 + 4 * k - (14 + 4 * k)) (cap - (14 + 4 * k))) ((l.take (18 + 4 * k)).drop (14 + 4 * k)) wr (by
        have := (HB.out.ext hE).sliced (14 + 4 * k) (18 + 4 * k) (by omega) (by omega)
        rw [if_neg (by omega)] at this; exact this) (by simp; omega)
      rw [e4] at c5
      have HC5 := Lib.hid c5; have HO := Lib.hid hO; have HE := Lib.hid hE
      have hix := idAt_lt l k
      have hwx : IntKind.i64.wrap (idAt l k : Int) = (idAt l k : Int) := IntWalk.i64_in _ (by omega)
      have hsn : (idsTo l (k + 1)).map (Value.int .i64) = (idsTo l k).map (Value.int .i64) ++ [Value.int .i64 (idAt l k)] := by rw [idsTo_snoc, List.map_append]; rfl
      have HSN := Lib.hid hsn
      have hk4 : IntKind.i64.wrap (4 * (k : Int)) = 4 * (k : Int) := IntWalk.i64_in _ (by omega)
      have hk14 : IntKind.i64.wrap (14 + 4 * (k : Int)) = 14 + 4 * (k : Int) := IntWalk.i64_in _ (by omega)
      have hk18 : IntKind.i64.wrap (18 + 4 * (k : Int)) = 18 + 4 * (k : Int) := IntWalk.i64_in _ (by omega)
      have hlc : 18 + 4 * k ≤ cap := by omega
      have hcl : cnt l < 65536 := hcn
      clear c5 hO hE e4 hsn hl heq hcr'
      have hsz := HE.out.size
      obtain ⟨ua, uc, rfl⟩ := ownsRow_form HO.out
      go_wp2_with fail
      refine HC5.out.mono ?_
      rintro e W5 ⟨rfl, hw5⟩
      subst hw5
      go_wp2_with (at_builtin; go_must (refine wpList_append_src rfl _ _ 69 rfl w.heap.size 3 i0 (.int .i64 0) 1 8 Tryz.underlying69 hi hz0 hz1 hz2 rfl (by omega) (.slice ua (idsTo l k).length uc) (idsTo l k).length _ rfl (HO.out.alloc (.cells #[.int .i64 (idAt l k)] 3)) (.slice (some ⟨wr.heap.size, 0, none⟩) 1 1) 1 [.int .i64 (idAt l k)] rfl ⟨_, _, rfl, by omega, ⟨by omega, fun h => by cases h⟩, fun _ => ⟨_, rfl, World.news_of_block (cs := #[.int .i64 (idAt l k)]) (t := 3) (fr := (0, 0)) (heap_alloc_new wr _)⟩⟩ rfl (by simp [Value.oneCell']) (by rw [idsTo_length]; unfold maxLen; omega) (by rw [idsTo_length]; omega) (by simp; omega) ?_); intro b6 c6 w6 hown6 hgrow6 hat6; clear hat6)
      have hO6 : OwnI w6 w.heap.size (.slice b6 ((idsTo l k).length + 1) c6) (idsTo l (k + 1)) := by
        unfold OwnI
        rw [HSN.out, show (idsTo l (k + 1)).length = (idsTo l k).length + 1 by rw [idsTo_length, idsTo_length]]
        exact hown6
      have hE6 : Ext w w6 := Below.grown (HE.out.new _) hgrow6 (by simp; omega) (fun r hr => (HO.out.lt r hr).1)
      go_roundw
      case rel => exact ⟨k + 1, by omega, by go_num, hO6, hE6⟩
      case measure => simp [intOf]; omega
    · obtain rfl : k = cnt l := by omega
      have hwf : ∀ n ∈ idsTo l (cnt l), (Lit.int .i64 n).wf = true := fun n hn => wf_small (idsTo_small l _ n hn)
      have c7 := checkIDs_any u7 (idsTo l (cnt l)) wr hO.ints
      have HC7 := Lib.hid c7; have HO := Lib.hid hO; have HE := Lib.hid hE
      clear c7 hO hE hwf
      go_wp2_with fail
      refine HC7.out.mono ?_
      rintro e W7 ⟨rfl, q, hq⟩
      have hE7 : Ext wr W7 := by rw [hq]; exact Ext.drewN _ _
      clear hq
      have hO7 : OwnI W7 w.heap.size u7 (idsTo l (cnt l)) := ownsRow_below HO.out hE7
      have hX7 : Ext w W7 := Ext.trans HE.out hE7
      have HO7 := Lib.hid hO7; have HX7 := Lib.hid hX7
      cases hok : idsOK (idsTo l (cnt l)) with
      | false =>
        have hd : readMan l = none := readMan_none (manGood_ids hok)
        clear hE7 hO7 hX7
        go_wp2
        go_ret3
        exact ⟨0, _, _, rfl, HX7.out, Or.inl ⟨hd, rfl, rfl, rfl⟩⟩
      | true =>
        have hd : readMan l = some (num ((l.drop 4).take 8), idsTo l (cnt l)) := readMan_some h14 HL.out HCR.out hok
        have c8 := refnumber_any _ ((l.take 12).drop 4) W7 (HS.out _ hX7 4 12 (by omega) (by omega) (by omega) (by omega)) (by simp; omega)
        rw [show num ((l.take 12).drop 4) = num ((l.drop 4).take 8) by rw [List.drop_take]] at c8
        have HC8 := Lib.hid c8; have HD := Lib.hid hd
        clear hE7 hO7 hX7 c8 hd
        go_wp2_with fail
        refine HC8.out.mono ?_
        rintro e W8 ⟨rfl, hw8⟩
        subst hw8
        go_wp2
        go_ret3
        exact ⟨_, _, _, rfl, HX7.out, Or.inr ⟨_, _, HD.out, rfl, rfl, HO7.out⟩⟩
end Go.Proofs.YtgpbhjjajpbeeaaGreatDoor
