/-
  The walks of bytesof.Sum and keydirref.Sum: both give the sum of Pure.crc of the bytes. No condition.
-/
import Derived.Test.YtgpbhjjajpbeeaaGreatDoorC02
import Derived.Deep.QuietTactic
import Derived.BigQuiet
import Derived.Deep.RegionHeld3
import Derived.Deep.AppendLies
import Derived.Deep.RegionLaw
set_option linter.unusedSimpArgs false
set_option linter.unusedVariables false
set_option linter.unnecessarySimpa false
namespace Go.Proofs.YtgpbhjjajpbeeaaGreatDoor
open Go.RowKit Pl

theorem xor_nat {c d : Nat} {x y : Int} (hx : x = c) (hy : y = d) (hc : c < 4294967296) (hd : d < 4294967296) :
    bits BinOp.xor IntKind.u32 x y = ((c ^^^ d : Nat) : Int) := by
  rw [hx, hy]; exact u32_xor_nat c d hc hd
theorem bit_step {D : Nat} (hD : D < 4294967296) :
    bits BinOp.xor IntKind.u32 ((D : Int) / 2) (bits BinOp.and IntKind.u32 (D : Int) 1 * 3988292384 % 4294967296) = (crcBit D : Int) := by
  have h1 : bits BinOp.and IntKind.u32 (D : Int) 1 = ((D % 2 : Nat) : Int) := by
    have := u32_and_nat D 1 hD (by omega)
    rw [nat_mask1] at this; exact this
  rw [h1]
  unfold crcBit
  by_cases hb : D % 2 = 1
  · rw [if_pos hb, hb]; exact xor_nat (by omega) (by omega) (by omega) (by omega)
  · rw [if_neg hb, show D % 2 = 0 by omega]; exact xor_nat (by omega) (by omega) (by omega) (by omega)
theorem bit_odd {D : Nat} (hD : D < 4294967296) (h : D % 2 = 1) : bits BinOp.xor IntKind.u32 ((D : Int) / 2) 3988292384 = (crcBit D : Int) := by
  unfold crcBit; rw [if_pos h]; exact xor_nat (by omega) (by omega) (by omega) (by omega)
theorem bit_even {D : Nat} (h : ¬ D % 2 = 1) : (D : Int) / 2 = (crcBit D : Int) := by
  unfold crcBit; rw [if_neg h, Nat.xor_zero]; omega

set_option maxHeartbeats 400000 in
theorem sum_any (v : Value) (l : List UInt8) (w : World) (h : Bytes w v l) :
    Calls Tryz.prog 128 #[v] w fun e w' => e = .returned (.int .u32 (crc l)) ∧ w = w' := by
  obtain ⟨a, cap, rfl, hc, hc', hcell⟩ := h.open
  go_enter Tryz.func128, Tryz.ntmps128
  go_wp2
  go_loop [3, 8] (fun c i => ∃ k : Nat, k ≤ l.length ∧ i = .int .i64 k ∧ c = .int .u32 (crcFold 4294967295 (l.take k))) (fun _ i => l.length - (intOf i).toNat)
  case atStart => exact ⟨0, Nat.zero_le _, rfl, rfl⟩
  case round =>
    obtain ⟨k, hk, rfl, rfl⟩ := hrel
    by_cases hlt : k < l.length
    · obtain ⟨b, rfl, hb⟩ := hcell k hlt
      have hs : Hid (crcFold 4294967295 (l.take (k + 1)) = crcByte (crcFold 4294967295 (l.take k)) l[k]) := by
        have e : crcFold 4294967295 (l.take (k + 1)) = crcByte (crcFold 4294967295 (l.take k)) l[k] := by rw [take_snoc l k hlt, crcFold_snoc]
        exact e
      have hC := crcFold_lt (l.take k) (c := 4294967295) (by omega)
      clear hcell
      generalize crcFold 4294967295 (l.take k) = C at *
      have hx := u8_lt l[k]
      generalize l[k] = x at *
      go_wp2
      go_loop [3, 16] (fun c i => ∃ j : Nat, j ≤ 8 ∧ i = .int .i64 j ∧ c = .int .u32 (crcBits j (C ^^^ x.toNat))) (fun _ i => 8 - (intOf i).toNat)
      case atStart => exact ⟨0, by omega, rfl, congrArg (Value.int .u32) (xor_nat rfl (by omega) hC (by omega))⟩
      case round =>
        obtain ⟨j, hj, rfl, rfl⟩ := hrel
        have hfin : 8 = j → crcByte C x = crcBits j (C ^^^ x.toNat) := by rintro rfl; rfl
        have hD := crcBits_lt j (xor_lt hC (b := x.toNat) (by omega))
        have hn : Hid (crcBits (j + 1) (C ^^^ x.toNat) = crcBit (crcBits j (C ^^^ x.toNat))) := crcBits_snoc j _
        generalize crcBits j (C ^^^ x.toNat) = D at *
        by_cases hjl : j < 8
        · go_wp2
          go_round
          case rel =>
            refine ⟨j + 1, by omega, by go_num, ?_⟩
            rw [hn.out, bit_step hD]
          case measure => simp [intOf]; omega
        · go_wp2
          go_round
          case rel => exact ⟨k + 1, by omega, by go_num, by rw [hs.out]; rw [hfin (by omega)]⟩
          case measure => simp [intOf]; omega
    · go_wp2
      go_ret
      obtain rfl : k = l.length := by omega
      refine ⟨?_, rfl⟩
      show Ending.returned (Value.int .u32 (bits BinOp.xor IntKind.u32 IntKind.u32.max _)) = _
      rw [List.take_length, show IntKind.u32.max = ((4294967295 : Nat) : Int) from rfl, xor_nat rfl rfl (by omega) (crcFold_lt l (by omega)), Nat.xor_comm]; rfl

set_option maxHeartbeats 400000 in
theorem refsum_any (v : Value) (l : List UInt8) (w : World) (h : Bytes w v l) :
    Calls Tryz.prog 76 #[v] w fun e w' => e = .returned (.int .u32 (crc l)) ∧ w = w' := by
  obtain ⟨a, cap, rfl, hc, hc', hcell⟩ := h.open
  go_enter Tryz.func76, Tryz.ntmps76
  go_wp2
  go_loop [3, 4] (fun c i => ∃ k : Nat, k ≤ l.length ∧ i = .int .i64 k ∧ c = .int .u32 (crcFold 4294967295 (l.take k))) (fun _ i => l.length - (intOf i).toNat)
  case atStart => exact ⟨0, Nat.zero_le _, rfl, rfl⟩
  case round =>
    obtain ⟨k, hk, rfl, rfl⟩ := hrel
    by_cases hlt : k < l.length
    · obtain ⟨b, rfl, hb⟩ := hcell k hlt
      have hs : Hid (crcFold 4294967295 (l.take (k + 1)) = crcByte (crcFold 4294967295 (l.take k)) l[k]) := by
        have e : crcFold 4294967295 (l.take (k + 1)) = crcByte (crcFold 4294967295 (l.take k)) l[k] := by rw [take_snoc l k hlt, crcFold_snoc]
        exact e
      have hC := crcFold_lt (l.take k) (c := 4294967295) (by omega)
      clear hcell
      generalize crcFold 4294967295 (l.take k) = C at *
      have hx := u8_lt l[k]
      generalize l[k] = x at *
      go_wp2
      go_loop [3, 5, 6] (fun c i _ => ∃ j : Nat, j ≤ 8 ∧ i = .int .i64 j ∧ c = .int .u32 (crcBits j (C ^^^ x.toNat))) (fun _ i _ => 8 - (intOf i).toNat)
      case atStart => exact ⟨0, by omega, rfl, congrArg (Value.int .u32) (xor_nat rfl (by omega) hC (by omega))⟩
      case round =>
        obtain ⟨j, hj, rfl, rfl⟩ := hrel
        have hfin : 8 = j → crcByte C x = crcBits j (C ^^^ x.toNat) := by rintro rfl; rfl
        have hD := crcBits_lt j (xor_lt hC (b := x.toNat) (by omega))
        have hn : Hid (crcBits (j + 1) (C ^^^ x.toNat) = crcBit (crcBits j (C ^^^ x.toNat))) := crcBits_snoc j _
        generalize crcBits j (C ^^^ x.toNat) = D at *
        by_cases hjl : j < 8
        · by_cases hodd : D % 2 = 1
          all_goals
            have ho : (((D : Int) % 2 == 1) = decide (D % 2 = 1)) := by rw [Bool.eq_iff_iff]; simp; omega
            simp only [hodd, decide_true, decide_false] at ho
            go_wp2
            go_round
            case rel =>
              refine ⟨j + 1, by omega, by go_num, ?_⟩
              rw [hn.out]
              first | rw [bit_odd hD hodd] | rw [← bit_even hodd]
            case measure => simp [intOf]; omega
        · go_wp2
          go_round
          case rel => exact ⟨k + 1, by omega, by go_num, by rw [hs.out]; rw [hfin (by omega)]⟩
          case measure => simp [intOf]; omega
    · go_wp2
      go_ret
      obtain rfl : k = l.length := by omega
      refine ⟨?_, rfl⟩
      show Ending.returned (Value.int .u32 (bits BinOp.xor IntKind.u32 _ _)) = _
      rw [List.take_length, show (4294967295 : Int) = ((4294967295 : Nat) : Int) from rfl, xor_nat rfl rfl (crcFold_lt l (by omega)) (by omega)]; rfl
end Go.Proofs.YtgpbhjjajpbeeaaGreatDoor
/-
  The walks of bytesof.Writer: Number, Text, Summed. A Writer's bytes are a row of the call's own.
-/
namespace Go.Proofs.YtgpbhjjajpbeeaaGreatDoor
open Go.RowKit Go.Lib Pl

/-- a Writer in block b, made from block B on: it holds l -/
def WriterAt (w : World) (B b : Nat) (l : List UInt8) : Prop :=
  ∃ v, w.heap[b]? = some (.cells #[v] 309 (0, 0)) ∧ B ≤ b ∧ OwnB w B v l

theorem writer_set {w wr w1 : World} {B b : Nat} {l : List UInt8} {v v' : Value} (hb : Below B w wr) (h0 : wr.heap[b]? = some (.cells #[v] 309 (0, 0))) (hB : B ≤ b) (hown : OwnB wr B v l)
    {n : Nat} {xs : List Value} {w0 : World} (hb0 : Below wr.heap.size wr w0) (hgrow : w0.grownBy w1 v.ownBlock) (hown1 : w1.ownsRow B 5 1 v' n xs) {l' : List UInt8} (hn : n = l'.length) (hx : xs = l'.map byteV) :
    w1.heap[b]? = some (.cells #[v] 309 (0, 0)) ∧ WriterAt (w1.setCell ⟨b, 0, none⟩ v') B b l' ∧ Below B w (w1.setCell ⟨b, 0, none⟩ v') := by
  subst hn; subst hx
  have hlt := lt_of_block h0
  have h1 : w1.heap[b]? = some (.cells #[v] 309 (0, 0)) := by
    rw [hgrow.block b (Nat.lt_of_lt_of_le hlt hb0.size) (Ne.symm (ownsRow_ne hown h0 (by decide))), hb0.block b hlt]; exact h0
  refine ⟨h1, ⟨_, one_setCell h1, hB, ?_⟩, ?_⟩
  · exact ownsRow_setCell_other hown1 (ownsRow_ne hown1 h1 (by decide)) _
  · exact ((hb.trans (hb0.mono (by omega))).grown hgrow (by have := hb0.size; omega) (fun k hk => (hown.lt k hk).1)).setCell hB _

set_option maxHeartbeats 400000 in
theorem number_any (b B : Nat) (l : List UInt8) (n k : Nat) (w : World) (h : WriterAt w B b l) (hk : k ≤ 8) (hl : l.length ≤ 1000000) :
    Calls Tryz.prog 172 #[.pointer (some ⟨b, 0, none⟩), .int .u64 n, .int .i64 k] w fun e w' => e = .returned (.tuple #[]) ∧ WriterAt w' B b (l ++ be n k) ∧ Below B w w' := by
  obtain ⟨i0, hi, hz0, hz1, hz2⟩ := info_parts info_u8
  go_enter Tryz.func172, Tryz.ntmps172
  go_wp2
  go_loopw [2] (fun c wr => ∃ j : Nat, j ≤ k ∧ c = .int .i64 j ∧ (∃ l', l' ++ be n j = l ++ be n k ∧ WriterAt wr B b l') ∧ Below B w wr) (fun c _ => (intOf c).toNat)
  case atStart => exact ⟨k, Nat.le_refl _, rfl, ⟨l, rfl, h⟩, Below.refl _ _⟩
  case round =>
    obtain ⟨j, hj, rfl, ⟨l', hl', v, hw, hpB, hown⟩, hb⟩ := hrel
    by_cases hj0 : 0 < j
    · obtain ⟨j, rfl⟩ : ∃ i, j = i + 1 := ⟨j - 1, by omega⟩
      have hw1 : IntKind.i64.wrap (8 * (j : Int)) = 8 * (j : Int) := IntWalk.i64_in _ (by omega)
      have hw2 : (0 : Int) ≤ 8 * (j : Int) := by omega
      have hlt := lt_of_block hw
      have hp := cell_of_one hw
      have hf := free_of_one hw
      have hlen : l'.length ≤ 1000008 := by
        have := congrArg List.length hl'
        simp only [List.length_append, be_length] at this; omega
      have HW := Lib.hid hw
      clear hw
      go_wp2
      go_region_law (first | (refine step_append_lies _ (by rfl) _ _ _ (by rfl) B 5 i0 _ 1 1 Tryz.underlying25 hi hz0 hz1 hz2 rfl (by omega) v l'.length (l'.map byteV) (by rfl) ((hown.alloc _).drew) ⟨wr.heap.size, 0, none⟩ 1 1 [_] (by rfl) (by rfl) (World.news_of_block (cs := #[_]) (t := 5) (fr := (0, 0)) (heap_alloc_new wr _)) (by simp [Value.oneCell']) (by omega) (by unfold maxLen; omega) (by omega) (by simp; omega) (wr.heap.size + 1) (by simp) ?_; intro gg cap w1 hown1 hgrow hat hlt1; have HST := Lib.hid (writer_set (l' := l' ++ [UInt8.ofNat (n / 256 ^ j)]) hb HW.out hpB hown (Below.drew (Below.alloc (Below.refl _ _) (Nat.le_refl _) _)) hgrow hown1 (by simp) (by rw [List.map_append, List.map_singleton, byteV, ← u8_wrap, IntKind.wrap_u8])); have hc1 := cell_of_one HST.out.1; have hf1 := free_of_one HST.out.1))
      all_goals
        go_wp2
        go_roundw
        case rel => exact ⟨j, by omega, by go_num, ⟨_, by rw [List.append_assoc]; exact hl', HST.out.2.1⟩, HST.out.2.2⟩
        case measure => simp [intOf]
    · obtain rfl : j = 0 := by omega
      go_wp2
      go_end0
      exact ⟨rfl, by simp only [be, List.append_nil] at hl'; subst hl'; exact ⟨v, hw, hpB, hown⟩, hb⟩

set_option maxHeartbeats 400000 in
theorem text_any (b B : Nat) (l : List UInt8) (s : ByteArray) (w : World) (h : WriterAt w B b l) (hl : l.length + s.size ≤ 1000000) :
    Calls Tryz.prog 201 #[.pointer (some ⟨b, 0, none⟩), .string s] w fun e w' => e = .returned (.tuple #[]) ∧ WriterAt w' B b (l ++ s.data.toList) ∧ Below B w w' := by
  obtain ⟨i0, hi, hz0, hz1, hz2⟩ := info_parts info_u8
  obtain ⟨v, hw, hpB, hown⟩ := h
  have hlt := lt_of_block hw
  have hp := cell_of_one hw
  have hf := free_of_one hw
  have HW := Lib.hid hw
  clear hw
  go_enter Tryz.func201, Tryz.ntmps201
  go_wp2_with (at_builtin; go_must (refine wpList_append_own_string _ rfl _ _ 25 9 rfl B 5 i0 Tryz.underlying25 Tryz.underlying9 hi hz0 hz1 hz2 v l.length (l.map byteV) rfl hown s rfl (by unfold maxLen; omega) (by omega) (by omega) ?_); intro v' w1 hown1 hgrow hxx; clear hxx; obtain ⟨a', c', hv'⟩ := ownsRow_form hown1; subst hv'; have HST := Lib.hid (writer_set (l' := l ++ s.data.toList) (Below.refl B _) HW.out hpB hown (Below.refl _ _) hgrow hown1 (by rw [List.length_append]; rfl) (by rw [strCells_bytes, List.map_append])); have hc1 := cell_of_one HST.out.1; have hf1 := free_of_one HST.out.1)
  go_end0
  exact ⟨rfl, HST.out.2.1, HST.out.2.2⟩

/-- a row of bytes comes back -/
def RetOwn (B : Nat) (l : List UInt8) (w : World) (e : Ending) (w' : World) : Prop := ∃ v, e = .returned v ∧ OwnB w' B v l ∧ Below B w w'

theorem size_u8 : (Tryz.prog.info? 5).map (·.size) = some 1 := by kernel_rfl

set_option maxHeartbeats 400000 in
theorem summed_any (b B : Nat) (l : List UInt8) (w : World) (h : WriterAt w B b l) (h4 : 4 ≤ l.length) (hl : l.length ≤ 1000000) :
    Calls Tryz.prog 173 #[.pointer (some ⟨b, 0, none⟩)] w (RetOwn B (be (crc (l.drop 4)) 4 ++ l.drop 4) w) := by
  obtain ⟨v, hw, hpB, hown⟩ := h
  have hlt := lt_of_block hw
  have hp := cell_of_one hw
  have HW := Lib.hid hw
  clear hw
  obtain ⟨g, cap, rfl, hBg, hglt⟩ := World.ownsRow.form hown (by omega)
  have ht := OwnB.tail hown h4 (by omega)
  have hE : ∀ o, Ext w (w.alloc o) := fun o => Below.alloc (Below.refl _ _) (Nat.le_refl _) o
  by_cases hcap : cap = 4
  all_goals
    first | (have hbt := ht.2 hcap; subst hcap) | have hbt := ht.1 hcap
    clear ht
    go_enter Tryz.func173, Tryz.ntmps173
    go_wp2_with fail
    refine (sum_any _ (l.drop 4) _ (Bytes.ext (hE _) hbt)).mono ?_
    rintro e w1 ⟨rfl, rfl⟩
    go_wp2_with fail
    rw [show IntKind.u64.wrap ((crc (l.drop 4) : Nat) : Int) = ((crc (l.drop 4) : Nat) : Int) from by rw [IntKind.wrap_u64]; have := crc_lt (l.drop 4); omega]
    refine (number_any w.heap.size w.heap.size [] (crc (l.drop 4)) 4 (w.alloc (.cells #[.slice none 0 0] 309)) ⟨_, heap_alloc_new w _, Nat.le_refl _, World.ownsRow_nil _ _ _ _⟩ (by omega) (by simp)).mono ?_
    rintro e w2 ⟨rfl, ⟨v2, hv2, hB2, hown2⟩, hb2⟩
    rw [List.nil_append] at hown2
    generalize hC : be (crc (l.drop 4)) 4 = C at *
    have hCl : C.length = 4 := by rw [← hC, be_length]
    have HC := Lib.hid hC; clear hC
    have HCl := Lib.hid hCl; clear hCl
    have hE2 : Ext w w2 := Below.trans (hE _) hb2
    have hp2 := hE2.cell hp
    have hf2 := cell_of_one hv2
    have ho2 := ownsRow_below hown hE2
    obtain ⟨a2, cap2, rfl⟩ := ownsRow_form hown2
    clear hv2
    have hs2 : Hid (w.heap.size < w2.heap.size) := by have := hb2.size; simp at this; exact this
    go_wp2_with fail
    have hsrc : Hid (C.map byteV ≠ [] → ∃ ad, a2 = some ad ∧ CellsAt w2.drew ad (C.map byteV)) := OwnB.cells hown2
    go_region_law (first | (refine step_copy_onto rfl (.tmp 16) (.tmp 18) 25 25 rfl B 5 Tryz.underlying25 size_u8 _ l.length (l.map byteV) (by rfl) (ho2.drew) a2 C.length cap2 (by rfl) (C.map byteV) (by rw [List.length_map, HCl.out]; exact (Nat.min_eq_left h4).symm) hsrc.out (byteV_one C) ?_; intro w3 hown3 hgrow))
    all_goals
      have hp3 : w3.cell? ⟨b, 0, none⟩ = some _ := (hgrow.cell_far ⟨b, 0, none⟩ (show b < w2.heap.size from Nat.lt_of_lt_of_le hlt hE2.size) (Ne.symm (ownsRow_ne hown HW.out (by decide)))).trans hp2
      go_wp2
      go_ret
      refine ⟨_, rfl, ?_, ?_⟩
      · unfold OwnB
        have e : (C.map byteV ++ (l.map byteV).drop (C.map byteV).length) = (C ++ l.drop 4).map byteV := by rw [List.length_map, HCl.out, List.map_append, List.map_drop]
        have e2 : (C ++ l.drop 4).length = l.length := by rw [List.length_append, List.length_drop, HCl.out]; omega
        rw [e] at hown3; rw [e2]; exact hown3
      · exact (Below.drew (hE2.mono (by omega))).grown hgrow (by have := hs2.out; show B ≤ w2.heap.size; omega) (fun k hk => (hown.lt k hk).1)
end Go.Proofs.YtgpbhjjajpbeeaaGreatDoor
