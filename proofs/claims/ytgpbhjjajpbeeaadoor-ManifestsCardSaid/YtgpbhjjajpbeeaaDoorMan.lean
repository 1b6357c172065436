/-
  The walk of record.WriteManifest: the bytes of a manifest, or the error 4.
-/
import Derived.Test.YtgpbhjjajpbeeaaDoorEncode
import Derived.Test.YtgpbhjjajpbeeaaDoorIds
namespace Go.Proofs.YtgpbhjjajpbeeaaDoor
open Go.RowKit Go.Lib Pl

/-- the numbers of a manifest -/
def idBytes (l : List Int) : List UInt8 := l.flatMap fun n => be n.toNat 4
def manBody (gen : Nat) (l : List Int) : List UInt8 := be gen 8 ++ be l.length 2 ++ idBytes l
theorem idBytes_snoc (l : List Int) (n : Int) : idBytes (l ++ [n]) = idBytes l ++ be n.toNat 4 := by simp [idBytes]
theorem idBytes_length (l : List Int) : (idBytes l).length = 4 * l.length := by
  induction l with
  | nil => rfl
  | cons x l ih => simp only [idBytes, List.flatMap_cons, List.length_append, be_length, List.length_cons] at *; omega
/-- what WriteManifest answers -/
def ManIs (gen : Nat) (l : List Int) (w : World) (e : Ending) (w' : World) : Prop :=
  ∃ x y, e = .returned (.tuple #[x, y]) ∧ Ext w w' ∧
    ((idsOK l = true ∧ y = .nilIface ∧ OwnB w' w.heap.size x (summed (manBody gen l))) ∨ (idsOK l = false ∧ y = errV 4 ∧ x = .slice none 0 0))

set_option maxRecDepth 100000 in
set_option maxHeartbeats 1600000 in
theorem writeMan_any (gen : Nat) (v : Value) (l : List Int) (w : World) (h : Ints w v l) (hw : ∀ n ∈ l, (Lit.int .i64 n).wf = true) :
    Calls Tryd.prog 16 #[.agg #[.int .u64 gen, v]] w (ManIs gen l w) := by
  obtain ⟨a, cap, rfl, hc, hc', -⟩ := h.open
  have HI := Lib.hid h; clear h
  have hx0 : BoxAt (w.alloc (.cells #[.int .u64 gen, .slice a l.length cap] 30)) w.heap.size 30 #[.int .u64 gen, .slice a l.length cap] := BoxAt.new _ _ rfl
  have hE0 : Ext w (w.alloc (.cells #[.int .u64 gen, .slice a l.length cap] 30)) := (Ext.refl w).new _
  go_enter Tryd.func16, Tryd.ntmps16
  go_wp2_with fail
  refine (checked_any (H := Unit) _ l _ (HI.out.ext hE0) hw).mono ?_
  rintro e w1 ⟨rfl, hE1⟩
  have X := hx0.below hE1 (by simp)
  have hE := Ext.trans hE0 hE1
  clear hx0 hE0 hE1
  have HX := Lib.hid X; have HE := Lib.hid hE; clear X hE
  cases hok : idsOK l with
  | false =>
    go_wp2
    go_ret2
    exact ⟨_, _, rfl, HE.out, Or.inr ⟨hok, rfl, rfl⟩⟩
  | true =>
    have hlt := lt_of_block HX.out
    have hWr : WriterAt (w1.alloc (.cells #[.slice none 0 0] 69)) (w.heap.size + 1) w1.heap.size [] :=
      ⟨_, heap_alloc_new w1 _, hlt, ⟨rfl, Or.inl ⟨rfl, rfl⟩⟩⟩
    have hE1 : Ext w (w1.alloc (.cells #[.slice none 0 0] 69)) := HE.out.new _
    have hX1 : BoxAt (w1.alloc (.cells #[.slice none 0 0] 69)) w.heap.size 30 #[.int .u64 gen, .slice a l.length cap] := HX.out.alloc _
    have hl60 : l.length ≤ 60 := by
      unfold idsOK at hok
      exact of_decide_eq_true (Bool.and_eq_true_iff.1 hok).1
    clear HX HE
    have HE := Lib.hid hE1; have HX := Lib.hid hX1; clear hE1 hX1
    go_wp2_with fail
    refine (number_any _ _ [] 0 4 _ hWr (by omega) (by simp)).mono ?_
    rintro e w2 ⟨rfl, hW2, hb2⟩
    have hX2 := HX.out.below hb2 (by omega)
    have hE2 : Ext w w2 := Below.trans HE.out (hb2.mono (by omega))
    clear HX HE hWr hb2
    have HE := Lib.hid hE2; have HX := Lib.hid hX2; clear hE2 hX2
    have xc0 := HX.out.cell 0
    have xc1 := HX.out.cell 1
    go_wp2_with fail
    refine (number_any _ _ _ gen 8 _ hW2 (by omega) (by simp [be_length])).mono ?_
    rintro e w3 ⟨rfl, hW3, hb3⟩
    have hX3 := HX.out.below hb3 (by omega)
    have hE3 : Ext w w3 := Below.trans HE.out (hb3.mono (by omega))
    clear HX HE hW2 hb3 xc0 xc1
    have HE := Lib.hid hE3; have HX := Lib.hid hX3; clear hE3 hX3
    have xc0 := HX.out.cell 0
    have xc1 := HX.out.cell 1
    have hwl : IntKind.u64.wrap (l.length : Int) = (l.length : Int) := by rw [IntKind.wrap_u64]; omega
    go_wp2_with fail
    refine (number_any _ _ _ l.length 2 _ hW3 (by omega) (by simp [be_length])).mono ?_
    rintro e w4 ⟨rfl, hW4, hb4⟩
    have hX4 := HX.out.below hb4 (by omega)
    have hE4 : Ext w w4 := Below.trans HE.out (hb4.mono (by omega))
    clear HX HE hW3 hb4 xc0 xc1
    have HE := Lib.hid hE4; have HX := Lib.hid hX4; clear hE4 hX4
    have xc0 := HX.out.cell 0
    have xc1 := HX.out.cell 1
    have hin : ∀ n ∈ l, inRange n = true := by
      unfold idsOK at hok
      exact List.all_eq_true.1 (Bool.and_eq_true_iff.1 (Bool.and_eq_true_iff.1 hok).2).1
    go_wp2
    clear xc0 xc1
    go_loopw [6, 25] (fun _ i wr => ∃ k : Nat, k ≤ l.length ∧ i = .int .i64 k ∧ WriterAt wr (w.heap.size + 1) w1.heap.size ([] ++ be 0 4 ++ be gen 8 ++ be l.length 2 ++ idBytes (l.take k)) ∧ Ext w wr) (fun _ i _ => l.length - (intOf i).toNat)
    case atStart => exact ⟨0, Nat.zero_le _, rfl, by simpa [idBytes] using hW4, HE.out⟩
    case round =>
      clear HE HX hW4
      obtain ⟨k, hk, rfl, hW, hE⟩ := hrel
      have hlb := idBytes_length (l.take k)
      rw [List.length_take] at hlb
      by_cases hlt : k < l.length
      · obtain ⟨b, rfl, hb⟩ : ∃ b, a = some b ∧ wr.cell? (b.add k) = some (.int .i64 (l[k])) := by
          obtain ⟨a', c', e, _, _, hf⟩ := (HI.out.ext hE).open
          injection e with e1; subst e1; exact hf k hlt
        have hir := hin _ (List.getElem_mem hlt)
        unfold inRange at hir
        have hi1 := of_decide_eq_true (Bool.and_eq_true_iff.1 hir).1
        have hi2 := of_decide_eq_true (Bool.and_eq_true_iff.1 hir).2
        have hsn : idBytes (l.take (k + 1)) = idBytes (l.take k) ++ be (l[k]).toNat 4 := by rw [take_snoc l k hlt, idBytes_snoc]
        have HS := Lib.hid hsn; clear hsn hir
        generalize l[k] = x at *
        obtain ⟨x, rfl⟩ := Int.eq_ofNat_of_zero_le (show 0 ≤ x by omega)
        have hwx : IntKind.u64.wrap (x : Int) = (x : Int) := by rw [IntKind.wrap_u64]; omega
        have hcall := number_any _ _ _ x 4 _ hW (by omega) (by simp [be_length]; omega)
        have HE := Lib.hid hE; clear hE hW
        go_wp2_with fail
        refine hcall.mono ?_
        rintro e w5 ⟨rfl, hW5, hb5⟩
        have hE5 : Ext w w5 := Below.trans HE.out (hb5.mono (by omega))
        clear hcall hb5 HE
        go_wp2
        go_roundw
        case rel => exact ⟨k + 1, by omega, by go_num, by rw [HS.out]; simpa using hW5, hE5⟩
        case measure => simp [intOf]; omega
      · obtain rfl : k = l.length := by omega
        rw [List.take_length] at hW
        have hcall := summed_any _ _ _ _ hW (by simp [be_length]) (by simp [be_length, idBytes_length]; omega)
        have HE := Lib.hid hE; clear hE hW
        go_wp2_with fail
        refine hcall.mono ?_
        rintro e w5 ⟨x, rfl, hO, hb5⟩
        have hE5 : Ext w w5 := Below.trans HE.out (hb5.mono (by omega))
        have hd : ([] ++ be 0 4 ++ be gen 8 ++ be l.length 2 ++ idBytes l).drop 4 = manBody gen l := by
          unfold manBody
          rw [List.nil_append, List.append_assoc, List.append_assoc, List.append_assoc, List.drop_left' (be_length 0 4)]
        rw [hd] at hO
        clear hcall hb5 HE
        have HO := Lib.hid hO; clear hO
        go_wp2
        go_ret2
        exact ⟨_, _, rfl, hE5, Or.inl ⟨hok, rfl, ownsRow_mono HO.out (by omega)⟩⟩
end Go.Proofs.YtgpbhjjajpbeeaaDoor
