/-
  The walks of bytesof.Sum and keydirref.Sum: both give the sum of Pure.crc of the bytes. No condition.
-/
import Derived.Test.YtgpbhjjajpbeeaaDoorMem
import Derived.Deep.QuietTactic
import Derived.BigQuiet
namespace Go.Proofs.YtgpbhjjajpbeeaaDoor
open Go.RowKit Pl

theorem xor_nat {c d : Nat} {x y : Int} (hx : x = c) (hy : y = d) (hc : c < 4294967296) (hd : d < 4294967296) :
    bits BinOp.xor IntKind.u32 x y = ((c ^^^ d : Nat) : Int) := by
  rw [hx, hy]; exact u32_xor_nat c d hc hd
theorem bit_step {D : Nat} (hD : D < 4294967296) :
    bits BinOp.xor IntKind.u32 ((D : Int) / 2) (bits BinOp.and IntKind.u32 (D : Int) 1 * 3988292384 % 4294967296) = (crcBit D : Int) := by
  have h1 : bits BinOp.and IntKind.u32 (D : Int) 1 = ((D % 2 : Nat) : Int) := by
    have := u32_and_nat D 1 hD (by omega)
    rw [nat_mask1] at this; exact this
  rw [h1]
  unfold crcBit
  by_cases hb : D % 2 = 1
  · rw [if_pos hb, hb]; exact xor_nat (by omega) (by omega) (by omega) (by omega)
  · rw [if_neg hb, show D % 2 = 0 by omega]; exact xor_nat (by omega) (by omega) (by omega) (by omega)
theorem bit_odd {D : Nat} (hD : D < 4294967296) (h : D % 2 = 1) : bits BinOp.xor IntKind.u32 ((D : Int) / 2) 3988292384 = (crcBit D : Int) := by
  unfold crcBit; rw [if_pos h]; exact xor_nat (by omega) (by omega) (by omega) (by omega)
theorem bit_even {D : Nat} (h : ¬ D % 2 = 1) : (D : Int) / 2 = (crcBit D : Int) := by
  unfold crcBit; rw [if_neg h, Nat.xor_zero]; omega

set_option maxHeartbeats 400000 in
theorem sum_any (v : Value) (l : List UInt8) (w : World) (h : Bytes w v l) :
    Calls Tryd.prog 39 #[v] w fun e w' => e = .returned (.int .u32 (crc l)) ∧ w = w' := by
  obtain ⟨a, cap, rfl, hc, hc', hcell⟩ := h.open
  go_enter Tryd.func39, Tryd.ntmps39
  go_wp2
  go_loop [3, 8] (fun c i => ∃ k : Nat, k ≤ l.length ∧ i = .int .i64 k ∧ c = .int .u32 (crcFold 4294967295 (l.take k))) (fun _ i => l.length - (intOf i).toNat)
  case atStart => exact ⟨0, Nat.zero_le _, rfl, rfl⟩
  case round =>
    obtain ⟨k, hk, rfl, rfl⟩ := hrel
    by_cases hlt : k < l.length
    · obtain ⟨b, rfl, hb⟩ := hcell k hlt
      have hs : Hid (crcFold 4294967295 (l.take (k + 1)) = crcByte (crcFold 4294967295 (l.take k)) l[k]) := by
        have e : crcFold 4294967295 (l.take (k + 1)) = crcByte (crcFold 4294967295 (l.take k)) l[k] := by rw [take_snoc l k hlt, crcFold_snoc]
        exact e
      have hC := crcFold_lt (l.take k) (c := 4294967295) (by omega)
      clear hcell
      generalize crcFold 4294967295 (l.take k) = C at *
      have hx := u8_lt l[k]
      generalize l[k] = x at *
      go_wp2
      go_loop [3, 16] (fun c i => ∃ j : Nat, j ≤ 8 ∧ i = .int .i64 j ∧ c = .int .u32 (crcBits j (C ^^^ x.toNat))) (fun _ i => 8 - (intOf i).toNat)
      case atStart => exact ⟨0, by omega, rfl, congrArg (Value.int .u32) (xor_nat rfl (by omega) hC (by omega))⟩
      case round =>
        obtain ⟨j, hj, rfl, rfl⟩ := hrel
        have hfin : 8 = j → crcByte C x = crcBits j (C ^^^ x.toNat) := by rintro rfl; rfl
        have hD := crcBits_lt j (xor_lt hC (b := x.toNat) (by omega))
        have hn : Hid (crcBits (j + 1) (C ^^^ x.toNat) = crcBit (crcBits j (C ^^^ x.toNat))) := crcBits_snoc j _
        generalize crcBits j (C ^^^ x.toNat) = D at *
        by_cases hjl : j < 8
        · go_wp2
          go_round
          case rel =>
            refine ⟨j + 1, by omega, by go_num, ?_⟩
            rw [hn.out, bit_step hD]
          case measure => simp [intOf]; omega
        · go_wp2
          go_round
          case rel => exact ⟨k + 1, by omega, by go_num, by rw [hs.out]; rw [hfin (by omega)]⟩
          case measure => simp [intOf]; omega
    · go_wp2
      go_ret
      obtain rfl : k = l.length := by omega
      refine ⟨?_, rfl⟩
      show Ending.returned (Value.int .u32 (bits BinOp.xor IntKind.u32 IntKind.u32.max _)) = _
      rw [List.take_length, show IntKind.u32.max = ((4294967295 : Nat) : Int) from rfl, xor_nat rfl rfl (by omega) (crcFold_lt l (by omega)), Nat.xor_comm]; rfl

set_option maxHeartbeats 400000 in
theorem refsum_any (v : Value) (l : List UInt8) (w : World) (h : Bytes w v l) :
    Calls Tryd.prog 20 #[v] w fun e w' => e = .returned (.int .u32 (crc l)) ∧ w = w' := by
  obtain ⟨a, cap, rfl, hc, hc', hcell⟩ := h.open
  go_enter Tryd.func20, Tryd.ntmps20
  go_wp2
  go_loop [3, 4] (fun c i => ∃ k : Nat, k ≤ l.length ∧ i = .int .i64 k ∧ c = .int .u32 (crcFold 4294967295 (l.take k))) (fun _ i => l.length - (intOf i).toNat)
  case atStart => exact ⟨0, Nat.zero_le _, rfl, rfl⟩
  case round =>
    obtain ⟨k, hk, rfl, rfl⟩ := hrel
    by_cases hlt : k < l.length
    · obtain ⟨b, rfl, hb⟩ := hcell k hlt
      have hs : Hid (crcFold 4294967295 (l.take (k + 1)) = crcByte (crcFold 4294967295 (l.take k)) l[k]) := by
        have e : crcFold 4294967295 (l.take (k + 1)) = crcByte (crcFold 4294967295 (l.take k)) l[k] := by rw [take_snoc l k hlt, crcFold_snoc]
        exact e
      have hC := crcFold_lt (l.take k) (c := 4294967295) (by omega)
      clear hcell
      generalize crcFold 4294967295 (l.take k) = C at *
      have hx := u8_lt l[k]
      generalize l[k] = x at *
      go_wp2
      go_loop [3, 5, 6] (fun c i _ => ∃ j : Nat, j ≤ 8 ∧ i = .int .i64 j ∧ c = .int .u32 (crcBits j (C ^^^ x.toNat))) (fun _ i _ => 8 - (intOf i).toNat)
      case atStart => exact ⟨0, by omega, rfl, congrArg (Value.int .u32) (xor_nat rfl (by omega) hC (by omega))⟩
      case round =>
        obtain ⟨j, hj, rfl, rfl⟩ := hrel
        have hfin : 8 = j → crcByte C x = crcBits j (C ^^^ x.toNat) := by rintro rfl; rfl
        have hD := crcBits_lt j (xor_lt hC (b := x.toNat) (by omega))
        have hn : Hid (crcBits (j + 1) (C ^^^ x.toNat) = crcBit (crcBits j (C ^^^ x.toNat))) := crcBits_snoc j _
        generalize crcBits j (C ^^^ x.toNat) = D at *
        by_cases hjl : j < 8
        · by_cases hodd : D % 2 = 1
          all_goals
            have ho : (((D : Int) % 2 == 1) = decide (D % 2 = 1)) := by rw [Bool.eq_iff_iff]; simp; omega
            simp only [hodd, decide_true, decide_false] at ho
            go_wp2
            go_round
            case rel =>
              refine ⟨j + 1, by omega, by go_num, ?_⟩
              rw [hn.out]
              first | rw [bit_odd hD hodd] | rw [← bit_even hodd]
            case measure => simp [intOf]; omega
        · go_wp2
          go_round
          case rel => exact ⟨k + 1, by omega, by go_num, by rw [hs.out]; rw [hfin (by omega)]⟩
          case measure => simp [intOf]; omega
    · go_wp2
      go_ret
      obtain rfl : k = l.length := by omega
      refine ⟨?_, rfl⟩
      show Ending.returned (Value.int .u32 (bits BinOp.xor IntKind.u32 _ _)) = _
      rw [List.take_length, show (4294967295 : Int) = ((4294967295 : Nat) : Int) from rfl, xor_nat rfl rfl (crcFold_lt l (by omega)) (by omega)]; rfl
end Go.Proofs.YtgpbhjjajpbeeaaDoor
