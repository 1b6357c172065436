/-
  The walk of keydirref.WriteManifest.
-/
import Derived.Test.YtgpbhjjajpbeeaaDoorMan
import Derived.Test.YtgpbhjjajpbeeaaDoorRef
import Derived.Test.YtgpbhjjajpbeeaaDoorRefIds
import Derived.Test.YtgpbhjjajpbeeaaDoorRefEncode
namespace Go.Proofs.YtgpbhjjajpbeeaaDoor
open Go.RowKit Go.Lib Pl

/-- what the reference's WriteManifest answers -/
def RefManIs (gen : Nat) (l : List Int) (w : World) (e : Ending) (w' : World) : Prop :=
  ∃ x, e = .returned (.tuple #[x, .int .i64 (if idsOK l = true then 0 else 4)]) ∧ Ext w w' ∧
    ((idsOK l = true ∧ OwnB w' w.heap.size x (summed (manBody gen l))) ∨ (idsOK l = false ∧ x = .slice none 0 0))

set_option maxRecDepth 100000 in
set_option maxHeartbeats 1600000 in
theorem refWriteMan_any (gen : Nat) (v : Value) (l : List Int) (w : World) (h : Ints w v l) :
    Calls Tryd.prog 8 #[.int .u64 gen, v] w (RefManIs gen l w) := by
  obtain ⟨a, cap, rfl, hc, hc', -⟩ := h.open
  obtain ⟨i0, hi, hz0, hz1, hz2⟩ := info_parts info_u8
  have HI := Lib.hid h; clear h
  go_enter Tryd.func8, Tryd.ntmps8
  go_wp2_with fail
  refine (checkIDs_any _ l w HI.out).mono ?_
  rintro e w1 ⟨rfl, q, hq⟩
  have hE1 : Ext w w1 := by rw [hq]; exact Ext.drewN w q
  clear hq
  cases hok : idsOK l with
  | false =>
    go_wp2
    go_ret2
    exact ⟨_, by rw [hok]; rfl, hE1, Or.inr ⟨hok, rfl⟩⟩
  | true =>
    have hl60 : l.length ≤ 60 := by
      have := hok
      unfold idsOK at this
      exact of_decide_eq_true (Bool.and_eq_true_iff.1 this).1
    have hO1 : OwnB w1 w.heap.size (.slice none 0 0) [] := ⟨rfl, Or.inl ⟨rfl, rfl⟩⟩
    go_wp2_with fail
    refine (fixed_any _ w.heap.size [] gen 8 w1 hO1 (by omega) (by simp) hE1.size).mono ?_
    rintro e w2 ⟨v2, rfl, hO2, hb2⟩
    have hE2 := Below.trans hE1 hb2
    clear hE1 hb2 hO1
    have hwl : IntKind.u64.wrap (l.length : Int) = (l.length : Int) := by rw [IntKind.wrap_u64]; omega
    go_wp2_with fail
    refine (fixed_any _ w.heap.size _ l.length 2 w2 hO2 (by omega) (by simp [be_length]) hE2.size).mono ?_
    rintro e w3 ⟨v3, rfl, hO3, hb3⟩
    have hE3 := Below.trans hE2 hb3
    clear hE2 hb3 hO2
    have hin : ∀ n ∈ l, inRange n = true := by
      have := hok
      unfold idsOK at this
      exact List.all_eq_true.1 (Bool.and_eq_true_iff.1 (Bool.and_eq_true_iff.1 this).2).1
    go_wp2
    go_loopw [7, 8] (fun u i wr => ∃ k : Nat, k ≤ l.length ∧ i = .int .i64 k ∧ OwnB wr w.heap.size u ([] ++ be gen 8 ++ be l.length 2 ++ idBytes (l.take k)) ∧ Ext w wr) (fun _ i _ => l.length - (intOf i).toNat)
    case atStart => exact ⟨0, Nat.zero_le _, rfl, by simpa [idBytes] using hO3, hE3⟩
    case round =>
      clear hO3 hE3
      obtain ⟨k, hk, rfl, hO, hE⟩ := hrel
      have hlb := idBytes_length (l.take k)
      rw [List.length_take] at hlb
      by_cases hlt : k < l.length
      · obtain ⟨b, rfl, hb⟩ : ∃ b, a = some b ∧ wr.cell? (b.add k) = some (.int .i64 (l[k])) := by
          obtain ⟨a', c', e, _, _, hf⟩ := (HI.out.ext hE).open
          injection e with e1; subst e1; exact hf k hlt
        have hir := hin _ (List.getElem_mem hlt)
        unfold inRange at hir
        have hi1 := of_decide_eq_true (Bool.and_eq_true_iff.1 hir).1
        have hi2 := of_decide_eq_true (Bool.and_eq_true_iff.1 hir).2
        have hsn : idBytes (l.take (k + 1)) = idBytes (l.take k) ++ be (l[k]).toNat 4 := by rw [take_snoc l k hlt, idBytes_snoc]
        have HS := Lib.hid hsn; clear hsn hir
        generalize l[k] = x at *
        obtain ⟨x, rfl⟩ := Int.eq_ofNat_of_zero_le (show 0 ≤ x by omega)
        have hwx : IntKind.u64.wrap (x : Int) = (x : Int) := by rw [IntKind.wrap_u64]; omega
        have hcall := fixed_any _ w.heap.size _ x 4 _ hO (by omega) (by simp [be_length]; omega) hE.size
        have HE := Lib.hid hE; clear hE hO
        go_wp2_with fail
        refine hcall.mono ?_
        rintro e w5 ⟨v5, rfl, hO5, hb5⟩
        have hE5 : Ext w w5 := Below.trans HE.out hb5
        clear hcall hb5 HE
        go_wp2
        go_roundw
        case rel => exact ⟨k + 1, by omega, by go_num, by rw [HS.out]; simpa using hO5, hE5⟩
        case measure => simp [intOf]; omega
      · obtain rfl : k = l.length := by omega
        rw [List.take_length] at hO
        have hd : [] ++ be gen 8 ++ be l.length 2 ++ idBytes l = manBody gen l := by unfold manBody; simp
        rw [hd] at hO
        have hml : (manBody gen l).length ≤ 300 := by unfold manBody; simp [be_length, idBytes_length]; omega
        have hdecl : ∃ m, m = manBody gen l := ⟨_, rfl⟩
        have HE := Lib.hid hE; have HO := Lib.hid hO; clear hE hO hd hdecl
        go_wp2_with fail
        refine (refsum_any _ (manBody gen l) _ HO.out.bytes).mono ?_
        rintro e w5 ⟨rfl, rfl⟩
        have hown : OwnB wr w.heap.size u7 (manBody gen l) := HO.out
        have hE : Ext w wr := HE.out
        clear HO HE
        generalize hI : manBody gen l = I at *
        have hwc : IntKind.u64.wrap ((crc I : Nat) : Int) = ((crc I : Nat) : Int) := by rw [IntKind.wrap_u64]; have := crc_lt I; omega
        have HO := Lib.hid hown; have HE := Lib.hid hE; clear hown hE
        go_wp2_with fail
        refine (fixed_any _ wr.heap.size [] (crc I) 4 _ (World.ownsRow_nil _ _ _ _) (by omega) (by simp) (Nat.le_refl _)).mono ?_
        rintro e w9 ⟨v9, rfl, hown9, hb9⟩
        rw [List.nil_append] at hown9
        generalize hC : be (crc I) 4 = C at *
        have hCl : C.length = 4 := by rw [← hC, be_length]
        have HC := Lib.hid hC; clear hC
        have HCl := Lib.hid hCl; clear hCl
        clear hwc
        go_wp2_with (at_builtin; go_must (refine wpList_append_src rfl _ _ 24 rfl wr.heap.size 5 i0 (.int .u8 0) 1 1 Tryd.underlying24 hi hz0 hz1 hz2 rfl (by omega) v9 C.length _ rfl hown9 u7 I.length (I.map byteV) rfl (HO.out.bytes.ext hb9) (by simp) (byteV_one _) (by rw [HCl.out]; unfold maxLen; omega) (by rw [HCl.out]; omega) hb9.size ?_); intro b10 c10 w10 hown10 hgrow10 hat10; clear hat10)
        go_ret2
        refine ⟨_, by rw [if_pos hok]; rfl, ?_, Or.inl ⟨hok, ?_⟩⟩
        · exact (Below.trans HE.out (hb9.mono HE.out.size)).grown hgrow10 (Nat.le_trans HE.out.size hb9.size) (fun r hr => by have := (hown9.lt r hr).1; have := HE.out.size; omega)
        · have e1 : (summed I).map byteV = C.map byteV ++ I.map byteV := by rw [← List.map_append, summed, HC.out]
          have e2 : (summed I).length = C.length + I.length := by rw [summed, HC.out, List.length_append]
          unfold OwnB
          rw [hI, e1, e2]
          exact ownsRow_mono hown10 HE.out.size
end Go.Proofs.YtgpbhjjajpbeeaaDoor
