/-
  The walk of record.WriteManifest: the bytes of a manifest, or the error 4.
-/
import Derived.Test.YtgpbhjjajpbeeaaGreatDoorC04
import Derived.Test.YtgpbhjjajpbeeaaGreatDoorC09
import Derived.Test.YtgpbhjjajpbeeaaGreatDoorC05
import Derived.Test.YtgpbhjjajpbeeaaGreatDoorC06
set_option linter.unusedSimpArgs false
set_option linter.unusedVariables false
set_option linter.unnecessarySimpa false
namespace Go.Proofs.YtgpbhjjajpbeeaaGreatDoor
open Go.RowKit Go.Lib Pl

/-- the numbers of a manifest -/
def idBytes (l : List Int) : List UInt8 := l.flatMap fun n => be n.toNat 4
def manBody (gen : Nat) (l : List Int) : List UInt8 := be gen 8 ++ be l.length 2 ++ idBytes l
theorem idBytes_snoc (l : List Int) (n : Int) : idBytes (l ++ [n]) = idBytes l ++ be n.toNat 4 := by simp [idBytes]
theorem idBytes_length (l : List Int) : (idBytes l).length = 4 * l.length := by
  induction l with
  | nil => rfl
  | cons x l ih => simp only [idBytes, List.flatMap_cons, List.length_append, be_length, List.length_cons] at *; omega
/-- what WriteManifest answers -/
def ManIs (gen : Nat) (l : List Int) (w : World) (e : Ending) (w' : World) : Prop :=
  ∃ x y, e = .returned (.tuple #[x, y]) ∧ Ext w w' ∧
    ((idsOK l = true ∧ y = .nilIface ∧ OwnB w' w.heap.size x (summed (manBody gen l))) ∨ (idsOK l = false ∧ y = errV 4 ∧ x = .slice none 0 0))

set_option maxRecDepth 100000 in
set_option maxHeartbeats 1600000 in
theorem writeMan_any (gen : Nat) (v : Value) (l : List Int) (w : World) (h : Ints w v l) (hw : ∀ n ∈ l, (Lit.int .i64 n).wf = true) :
    Calls Tryz.prog 141 #[.agg #[.int .u64 gen, v]] w (ManIs gen l w) := by
  obtain ⟨a, cap, rfl, hc, hc', -⟩ := h.open
  have HI := Lib.hid h; clear h
  have hx0 : BoxAt (w.alloc (.cells #[.int .u64 gen, .slice a l.length cap] 125)) w.heap.size 125 #[.int .u64 gen, .slice a l.length cap] := BoxAt.new _ _ rfl
  have hE0 : Ext w (w.alloc (.cells #[.int .u64 gen, .slice a l.length cap] 125)) := (Ext.refl w).new _
  go_enter Tryz.func141, Tryz.ntmps141
  go_wp2_with fail
  refine (checked_any (H := Unit) _ l _ (HI.out.ext hE0) hw).mono ?_
  rintro e w1 ⟨rfl, hE1⟩
  have X := hx0.below hE1 (by simp)
  have hE := Ext.trans hE0 hE1
  clear hx0 hE0 hE1
  have HX := Lib.hid X; have HE := Lib.hid hE; clear X hE
  cases hok : idsOK l with
  | false =>
    go_wp2
    go_ret2
    exact ⟨_, _, rfl, HE.out, Or.inr ⟨hok, rfl, rfl⟩⟩
  | true =>
    have hlt := lt_of_block HX.out
    have hWr : WriterAt (w1.alloc (.cells #[.slice none 0 0] 309)) (w.heap.size + 1) w1.heap.size [] :=
      ⟨_, heap_alloc_new w1 _, hlt, ⟨rfl, Or.inl ⟨rfl, rfl⟩⟩⟩
    have hE1 : Ext w (w1.alloc (.cells #[.slice none 0 0] 309)) := HE.out.new _
    have hX1 : BoxAt (w1.alloc (.cells #[.slice none 0 0] 309)) w.heap.size 125 #[.int .u64 gen, .slice a l.length cap] := HX.out.alloc _
    have hl60 : l.length ≤ 60 := by
      unfold idsOK at hok
      exact of_decide_eq_true (Bool.and_eq_true_iff.1 hok).1
    clear HX HE
    have HE := Lib.hid hE1; have HX := Lib.hid hX1; clear hE1 hX1
    go_wp2_with fail
    refine (number_any _ _ [] 0 4 _ hWr (by omega) (by simp)).mono ?_
    rintro e w2 ⟨rfl, hW2, hb2⟩
    have hX2 := HX.out.below hb2 (by omega)
    have hE2 : Ext w w2 := Below.trans HE.out (hb2.mono (by omega))
    clear HX HE hWr hb2
    have HE := Lib.hid hE2; have HX := Lib.hid hX2; clear hE2 hX2
    have xc0 := HX.out.cell 0
    have xc1 := HX.out.cell 1
    go_wp2_with fail
    refine (number_any _ _ _ gen 8 _ hW2 (by omega) (by simp [be_length])).mono ?_
    rintro e w3 ⟨rfl, hW3, hb3⟩
    have hX3 := HX.out.below hb3 (by omega)
    have hE3 : Ext w w3 := Below.trans HE.out (hb3.mono (by omega))
    clear HX HE hW2 hb3 xc0 xc1
    have HE := Lib.hid hE3; have HX := Lib.hid hX3; clear hE3 hX3
    have xc0 := HX.out.cell 0
    have xc1 := HX.out.cell 1
    have hwl : IntKind.u64.wrap (l.length : Int) = (l.length : Int) := by rw [IntKind.wrap_u64]; omega
    go_wp2_with fail
    refine (number_any _ _ _ l.length 2 _ hW3 (by omega) (by simp [be_length])).mono ?_
    rintro e w4 ⟨rfl, hW4, hb4⟩
    have hX4 := HX.out.below hb4 (by omega)
    have hE4 : Ext w w4 := Below.trans HE.out (hb4.mono (by omega))
    clear HX HE hW3 hb4 xc0 xc1
    have HE := Lib.hid hE4; have HX := Lib.hid hX4; clear hE4 hX4
    have xc0 := HX.out.cell 0
    have xc1 := HX.out.cell 1
    have hin : ∀ n ∈ l, inRange n = true := by
      unfold idsOK at hok
      exact List.all_eq_true.1 (Bool.and_eq_true_iff.1 (Bool.and_eq_true_iff.1 hok).2).1
    go_wp2
    clear xc0 xc1
    go_loopw [6, 25] (fun _ i wr => ∃ k : Nat, k ≤ l.length ∧ i = .int .i64 k ∧ WriterAt wr (w.heap.size + 1) w1.heap.size ([] ++ be 0 4 ++ be gen 8 ++ be l.length 2 ++ idBytes (l.take k)) ∧ Ext w wr) (fun _ i _ => l.length - (intOf i).toNat)
    case atStart => exact ⟨0, Nat.zero_le _, rfl, by simpa [idBytes] using hW4, HE.out⟩
    case round =>
      clear HE HX hW4
      obtain ⟨k, hk, rfl, hW, hE⟩ := hrel
      have hlb := idBytes_length (l.take k)
      rw [List.length_take] at hlb
      by_cases hlt : k < l.length
      · obtain ⟨b, rfl, hb⟩ : ∃ b, a = some b ∧ wr.cell? (b.add k) = some (.int .i64 (l[k])) := by
          obtain ⟨a', c', e, _, _, hf⟩ := (HI.out.ext hE).open
          injection e with e1; subst e1; exact hf k hlt
        have hir := hin _ (List.getElem_mem hlt)
        unfold inRange at hir
        have hi1 := of_decide_eq_true (Bool.and_eq_true_iff.1 hir).1
        have hi2 := of_decide_eq_true (Bool.and_eq_true_iff.1 hir).2
        have hsn : idBytes (l.take (k + 1)) = idBytes (l.take k) ++ be (l[k]).toNat 4 := by rw [take_snoc l k hlt, idBytes_snoc]
        have HS := Lib.hid hsn; clear hsn hir
        generalize l[k] = x at *
        obtain ⟨x, rfl⟩ := Int.eq_ofNat_of_zero_le (show 0 ≤ x by omega)
        have hwx : IntKind.u64.wrap (x : Int) = (x : Int) := by rw [IntKind.wrap_u64]; omega
        have hcall := number_any _ _ _ x 4 _ hW (by omega) (by simp [be_length]; omega)
        have HE := Lib.hid hE; clear hE hW
        go_wp2_with fail
        refine hcall.mono ?_
        rintro e w5 ⟨rfl, hW5, hb5⟩
        have hE5 : Ext w w5 := Below.trans HE.out (hb5.mono (by omega))
        clear hcall hb5 HE
        go_wp2
        go_roundw
        case rel => exact ⟨k + 1, by omega, by go_num, by rw [HS.out]; simpa using hW5, hE5⟩
        case measure => simp [intOf]; omega
      · obtain rfl : k = l.length := by omega
        rw [List.take_length] at hW
        have hcall := summed_any _ _ _ _ hW (by simp [be_length]) (by simp [be_length, idBytes_length]; omega)
        have HE := Lib.hid hE; clear hE hW
        go_wp2_with fail
        refine hcall.mono ?_
        rintro e w5 ⟨x, rfl, hO, hb5⟩
        have hE5 : Ext w w5 := Below.trans HE.out (hb5.mono (by omega))
        have hd : ([] ++ be 0 4 ++ be gen 8 ++ be l.length 2 ++ idBytes l).drop 4 = manBody gen l := by
          unfold manBody
          rw [List.nil_append, List.append_assoc, List.append_assoc, List.append_assoc, List.drop_left' (be_length 0 4)]
        rw [hd] at hO
        clear hcall hb5 HE
        have HO := Lib.hid hO; clear hO
        go_wp2
        go_ret2
        exact ⟨_, _, rfl, hE5, Or.inl ⟨hok, rfl, ownsRow_mono HO.out (by omega)⟩⟩
end Go.Proofs.YtgpbhjjajpbeeaaGreatDoor
/-
  Plain mathematics of a manifest's bytes, read. No program in sight.
-/
namespace Go.Proofs.YtgpbhjjajpbeeaaGreatDoor
open Go.RowKit Go.Lib Pl

/-- how many numbers the head tells -/
def cnt (l : List UInt8) : Nat := num ((l.drop 12).take 2)
def idAt (l : List UInt8) (i : Nat) : Nat := num ((l.drop (14 + 4 * i)).take 4)
def idsTo (l : List UInt8) (k : Nat) : List Int := (List.range k).map fun i => (idAt l i : Int)
def manGood (l : List UInt8) : Bool :=
  decide (14 ≤ l.length) && (decide (l.length = 14 + 4 * cnt l) && (decide (crc (l.drop 4) = num (l.take 4)) && idsOK (idsTo l (cnt l))))
def readMan (l : List UInt8) : Option (Nat × List Int) :=
  if manGood l = true then some (num ((l.drop 4).take 8), idsTo l (cnt l)) else none
theorem idsTo_snoc (l : List UInt8) (k : Nat) : idsTo l (k + 1) = idsTo l k ++ [(idAt l k : Int)] := by simp [idsTo, List.range_succ]
theorem idsTo_length (l : List UInt8) (k : Nat) : (idsTo l k).length = k := by simp [idsTo]
theorem idAt_lt (l : List UInt8) (k : Nat) : idAt l k < 4294967296 := num_take_lt _ 4
theorem cnt_lt (l : List UInt8) : cnt l < 65536 := num_take_lt _ 2
theorem idsTo_small (l : List UInt8) (k : Nat) : ∀ n ∈ idsTo l k, 0 ≤ n ∧ n < 4294967296 := by
  intro n hn
  obtain ⟨i, _, rfl⟩ := List.mem_map.1 hn
  have := idAt_lt l i
  omega
theorem wf_small {n : Int} (h : 0 ≤ n ∧ n < 4294967296) : (Lit.int .i64 n).wf = true := by
  simp only [Lit.wf, Bool.and_eq_true, decide_eq_true_eq]
  refine ⟨?_, ?_⟩
  · show (-9223372036854775808 : Int) ≤ n; omega
  · show n ≤ (9223372036854775807 : Int); omega
theorem readMan_none {l : List UInt8} (h : manGood l = false) : readMan l = none := by unfold readMan; rw [h]; rfl
theorem manGood_len {l : List UInt8} (h : l.length < 14 ∨ l.length ≠ 14 + 4 * cnt l) : manGood l = false := by
  unfold manGood
  rcases h with h | h
  · rw [decide_eq_false (show ¬ 14 ≤ l.length by omega)]; rfl
  · rw [decide_eq_false h]; simp
theorem manGood_crc {l : List UInt8} (h : crc (l.drop 4) ≠ num (l.take 4)) : manGood l = false := by
  unfold manGood; rw [decide_eq_false h]; simp
theorem manGood_ids {l : List UInt8} (h : idsOK (idsTo l (cnt l)) = false) : manGood l = false := by
  unfold manGood; rw [h]; simp
theorem readMan_some {l : List UInt8} (h1 : 14 ≤ l.length) (h2 : l.length = 14 + 4 * cnt l) (h3 : crc (l.drop 4) = num (l.take 4)) (h4 : idsOK (idsTo l (cnt l)) = true) :
    readMan l = some (num ((l.drop 4).take 8), idsTo l (cnt l)) := by
  unfold readMan manGood
  rw [decide_eq_true h1, decide_eq_true h2, decide_eq_true h3, h4]; rfl
/-- what the head's three reads give -/
theorem rd3 {l : List UInt8} {m g n : Nat} {s1 s2 s3 : List UInt8 × Bool} (e1 : (m, s1) = rdN (l, false) 4) (e2 : (g, s2) = rdN s1 8) (e3 : (n, s3) = rdN s2 2) :
    n < 65536 ∧ ((l.length < 14 ∧ n = 0 ∧ s3.2 = true) ∨ (14 ≤ l.length ∧ s3 = (l.drop 14, false) ∧ m = num (l.take 4) ∧ g = num ((l.drop 4).take 8) ∧ n = cnt l)) := by
  by_cases h4 : l.length < 4
  · rw [rdN_short h4] at e1; injection e1 with _ e1; subst e1
    rw [rdN_bad] at e2; injection e2 with _ e2; subst e2
    rw [rdN_bad] at e3; injection e3 with e3' e3; subst e3; subst e3'
    exact ⟨by omega, .inl ⟨by omega, rfl, rfl⟩⟩
  rw [rdN_ok (by omega)] at e1; injection e1 with f1 e1; subst e1
  by_cases h12 : l.length < 12
  · rw [rdN_short (by simp; omega)] at e2; injection e2 with _ e2; subst e2
    rw [rdN_bad] at e3; injection e3 with e3' e3; subst e3; subst e3'
    exact ⟨by omega, .inl ⟨by omega, rfl, rfl⟩⟩
  rw [rdN_ok (by simp; omega)] at e2; injection e2 with f2 e2; subst e2
  by_cases h14 : l.length < 14
  · rw [rdN_short (by simp; omega)] at e3; injection e3 with e3' e3; subst e3; subst e3'
    exact ⟨by omega, .inl ⟨by omega, rfl, rfl⟩⟩
  rw [rdN_ok (by simp; omega)] at e3; injection e3 with e3' e3
  simp only [List.drop_drop, Nat.reduceAdd] at *
  refine ⟨?_, .inr ⟨by omega, e3, f1, f2, e3'⟩⟩
  rw [e3']; exact num_take_lt _ 2
/-- where the reading of the numbers stands behind k of them -/
def Upto (l : List UInt8) (k : Nat) (s : List UInt8 × Bool) (L : List Int) : Prop :=
  (s = (l.drop (14 + 4 * k), false) ∧ 14 + 4 * k ≤ l.length ∧ L = idsTo l k) ∨ (s.2 = true ∧ (l.length < 14 ∨ l.length < 14 + 4 * cnt l))
theorem Upto.step {l : List UInt8} {k x : Nat} {s s' : List UInt8 × Bool} {L : List Int} (h : Upto l k s L) (hb : s.2 = false) (hk : k < cnt l) (e : (x, s') = rdN s 4) : x < 4294967296 ∧ Upto l (k + 1) s' (L ++ [(x : Int)]) := by
  rcases h with ⟨rfl, hl, rfl⟩ | ⟨h, _⟩
  · by_cases h4 : l.length < 14 + 4 * k + 4
    · rw [rdN_short (by simp; omega)] at e; injection e with e1 e2; subst e1; subst e2
      exact ⟨by omega, .inr ⟨rfl, .inr (by omega)⟩⟩
    · rw [rdN_ok (by simp; omega)] at e; injection e with e1 e2; subst e1; subst e2
      refine ⟨num_take_lt _ 4, .inl ⟨?_, by omega, ?_⟩⟩
      · rw [List.drop_drop]; congr 2
      · rw [idsTo_snoc]; rfl
  · rw [h] at hb; cases hb
theorem Upto.all {l : List UInt8} {s : List UInt8 × Bool} {L : List Int} (h : Upto l (cnt l) s L) (hb : s.2 = false) : s.1 = l.drop (14 + 4 * cnt l) ∧ 14 + 4 * cnt l ≤ l.length ∧ L = idsTo l (cnt l) := by
  rcases h with ⟨rfl, h1, h2⟩ | ⟨h, _⟩
  · exact ⟨rfl, h1, h2⟩
  · rw [h] at hb; cases hb
theorem Upto.bad {l : List UInt8} {k : Nat} {s : List UInt8 × Bool} {L : List Int} (h : Upto l k s L) (hb : s.2 = true) : manGood l = false := by
  rcases h with ⟨rfl, _⟩ | ⟨_, h⟩
  · cases hb
  · exact manGood_len (by omega)
end Go.Proofs.YtgpbhjjajpbeeaaGreatDoor
/-
  The walks of bytesof.Reader once more: nothing but the Reader's own block turns.
-/
namespace Go.Proofs.YtgpbhjjajpbeeaaGreatDoor
open Go.RowKit Go.Lib Pl

def TakeNoO (b B : Nat) (l : List UInt8) (w : World) (e : Ending) (w' : World) : Prop := e = .returned (.slice none 0 0) ∧ ReaderAt w' b B l true ∧ Off b w w'
def TakeOkO (b B n : Nat) (l : List UInt8) (w : World) (e : Ending) (w' : World) : Prop := ∃ v, e = .returned v ∧ BytesL w' B v (l.take n) ∧ ReaderAt w' b B (l.drop n) false ∧ Off b w w'

set_option maxHeartbeats 400000 in
theorem take_noO (b B n : Nat) (l : List UInt8) (bad : Bool) (w : World) (h : ReaderAt w b B l bad) (hn : bad = true ∨ l.length < n) :
    Calls Tryz.prog 166 #[.pointer (some ⟨b, 0, none⟩), .int .u64 n] w (TakeNoO b B l w) := by
  obtain ⟨v, hb, hBb, hv⟩ := h
  have hfin : TakeNoO b B l w (.returned (.slice none 0 0)) (w.setCell ⟨b, 1, none⟩ (.bool true)) := by
    have hB : Off b w (w.setCell ⟨b, 1, none⟩ (.bool true)) := (Off.refl b w).setCell 1 _
    exact ⟨rfl, ⟨v, two_set1 hb, hBb, hv.below (hB.below hBb)⟩, hB⟩
  have HF := Lib.hid hfin; clear hfin
  obtain ⟨hc0, hc1, hf0, hf1⟩ := two_cells hb
  clear hb
  obtain ⟨⟨a, cap, rfl, h1, h2, h3⟩, h4⟩ := hv
  have hwl : IntKind.u64.wrap (l.length : Int) = (l.length : Int) := by rw [IntKind.wrap_u64]; omega
  clear h2 h3 h4
  by_cases hbad : bad = true
  · subst hbad
    go_enter Tryz.func166, Tryz.ntmps166
    go_wp2
    go_ret
    exact HF.out
  · obtain rfl : bad = false := by simpa using hbad
    have hlt : l.length < n := by simpa using hn
    go_enter Tryz.func166, Tryz.ntmps166
    go_wp2
    go_ret
    exact HF.out

set_option maxHeartbeats 400000 in
theorem take_okO (b B n : Nat) (l : List UInt8) (w : World) (h : ReaderAt w b B l false) (hn : n ≤ l.length) :
    Calls Tryz.prog 166 #[.pointer (some ⟨b, 0, none⟩), .int .u64 n] w (TakeOkO b B n l w) := by
  obtain ⟨v, hb, hBb, hv⟩ := h
  obtain ⟨⟨a, cap, rfl, h1, h2, h3⟩, h4⟩ := id hv
  have HV := Lib.hid hv
  have HB := Lib.hid hb
  obtain ⟨hc0, hc1, hf0, hf1⟩ := two_cells hb
  clear hb hv
  have hwl : IntKind.u64.wrap (l.length : Int) = (l.length : Int) := by rw [IntKind.wrap_u64]; omega
  have hnl : ¬ l.length < n := by omega
  clear h2 h3 h4
  have hfin : ∀ u, BytesL w B u (l.drop n) → TakeOkO b B n l w (.returned (.slice a n n)) (w.setCell ⟨b, 0, none⟩ u) := by
    intro u hu
    have hB : Off b w (w.setCell ⟨b, 0, none⟩ u) := (Off.refl b w).setCell 0 _
    exact ⟨_, rfl, (HV.out.head n hn).below (hB.below hBb), ⟨u, two_set0 HB.out, hBb, hu.below (hB.below hBb)⟩, hB⟩
  have ht := HV.out.sliced n l.length hn (Nat.le_refl _)
  rw [List.take_length] at ht
  have HF := Lib.hid hfin; clear hfin
  have HT := Lib.hid ht; clear ht
  by_cases hcn : cap = n
  · subst hcn
    have HT' := Lib.hid (by simpa using HT.out : BytesL w B (.slice a (l.length - cap) 0) (l.drop cap))
    go_enter Tryz.func166, Tryz.ntmps166
    go_wp2
    go_ret
    have e0 : l.length - cap = 0 := by omega
    have ht := HT'.out
    rw [e0] at ht
    exact HF.out _ ht
  · have HT' := Lib.hid (by simpa [hcn] using HT.out : BytesL w B (.slice (Option.map (fun x => x.add n) a) (l.length - n) (cap - n)) (l.drop n))
    go_enter Tryz.func166, Tryz.ntmps166
    go_wp2
    go_ret
    exact HF.out _ HT'.out

/-- a number read: what is read, what is left, whether there were too few -/
def NumberIsO (b B : Nat) (m : Nat) (l : List UInt8) (bad : Bool) (w : World) (e : Ending) (w' : World) : Prop := e = .returned (.int .u64 m) ∧ ReaderAt w' b B l bad ∧ Off b w w'

set_option maxHeartbeats 400000 in
theorem rnumber_noO (b B n : Nat) (l : List UInt8) (bad : Bool) (w : World) (h : ReaderAt w b B l bad) (hn : bad = true ∨ l.length < n) :
    Calls Tryz.prog 126 #[.pointer (some ⟨b, 0, none⟩), .int .u64 n] w (NumberIsO b B 0 l true w) := by
  have H := Lib.hid h; clear h
  go_enter Tryz.func126, Tryz.ntmps126
  go_wp2_with fail
  refine (take_noO b B n l bad w H.out hn).mono ?_
  rintro e w1 ⟨rfl, h1, h2⟩
  have H1 := Lib.hid h1; clear h1
  go_wp2
  refine wp_loop_rounds 1 ?_
  rw [rounds_succ]
  go_wp2
  go_ret
  exact ⟨rfl, H1.out, h2⟩

set_option maxHeartbeats 400000 in
theorem rnumber_okO (b B n : Nat) (l : List UInt8) (w : World) (h : ReaderAt w b B l false) (hn : n ≤ l.length) (h8 : n ≤ 8) :
    Calls Tryz.prog 126 #[.pointer (some ⟨b, 0, none⟩), .int .u64 n] w (NumberIsO b B (num (l.take n)) (l.drop n) false w) := by
  have H := Lib.hid h; clear h
  go_enter Tryz.func126, Tryz.ntmps126
  go_wp2_with fail
  refine (take_okO b B n l w H.out hn).mono ?_
  rintro e w1 ⟨v, rfl, ⟨hv, _⟩, h1, h2⟩
  have H1 := Lib.hid h1; clear h1
  have hlen : (l.take n).length ≤ 8 := by rw [List.length_take]; omega
  generalize l.take n = m at *
  obtain ⟨a, cap, rfl, hc, hc', hcell⟩ := hv.open
  go_wp2
  go_loop [5, 7, 12] (fun c _ i => ∃ k : Nat, k ≤ m.length ∧ i = .int .i64 k ∧ c = .int .u64 (num (m.take k))) (fun _ _ i => m.length - (intOf i).toNat)
  case atStart => exact ⟨0, Nat.zero_le _, rfl, rfl⟩
  case round =>
    obtain ⟨k, hk, rfl, rfl⟩ := hrel
    by_cases hlt : k < m.length
    · obtain ⟨ad, rfl, hb⟩ := hcell k hlt
      have hs : Hid (num (m.take (k + 1)) = num (m.take k) * 256 + m[k].toNat) := by
        have e : num (m.take (k + 1)) = num (m.take k) * 256 + m[k].toNat := by rw [take_snoc m k hlt, num_snoc]
        exact e
      have hC : num (m.take k) < 256 ^ 7 := Nat.lt_of_lt_of_le (num_lt _) (Nat.pow_le_pow_right (by omega) (by rw [List.length_take]; omega))
      clear hcell
      generalize num (m.take k) = C at *
      have hx := u8_lt m[k]
      generalize m[k] = x at *
      have hC' : C < 72057594037927936 := hC
      clear hC
      go_wp2
      go_round
      case rel =>
        refine ⟨k + 1, by omega, by go_num, ?_⟩
        rw [hs.out, or_byte hC']
      case measure => simp [intOf]; omega
    · go_wp2
      go_ret
      obtain rfl : k = m.length := by omega
      exact ⟨by rw [List.take_length]; rfl, H1.out, h2⟩

theorem rnumber_anyO (b B n : Nat) (s : List UInt8 × Bool) (w : World) (h : ReaderAt w b B s.1 s.2) (h8 : n ≤ 8) :
    Calls Tryz.prog 126 #[.pointer (some ⟨b, 0, none⟩), .int .u64 n] w (NumberIsO b B (rdN s n).1 (rdN s n).2.1 (rdN s n).2.2 w) := by
  unfold rdN
  by_cases hc : s.2 = true ∨ s.1.length < n
  · rw [if_pos hc]; exact rnumber_noO b B n s.1 s.2 w h hc
  · rw [if_neg hc]
    have h2 : s.2 = false := by simpa using fun e => hc (.inl e)
    rw [h2] at h
    exact rnumber_okO b B n s.1 w h (by omega) h8
end Go.Proofs.YtgpbhjjajpbeeaaGreatDoor
