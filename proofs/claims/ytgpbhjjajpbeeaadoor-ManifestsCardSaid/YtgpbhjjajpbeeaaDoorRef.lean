/-
  The walks of keydirref's numbers and records in bytes.
-/
import Derived.Test.YtgpbhjjajpbeeaaDoorEncode
namespace Go.Proofs.YtgpbhjjajpbeeaaDoor
open Go.RowKit Go.Lib Pl

set_option maxHeartbeats 400000 in
theorem refnumber_any (v : Value) (l : List UInt8) (w : World) (h : Bytes w v l) (hl : l.length ≤ 8) :
    Calls Tryd.prog 36 #[v] w fun e w' => e = .returned (.int .u64 (num l)) ∧ w = w' := by
  obtain ⟨a, cap, rfl, hc, hc', hcell⟩ := h.open
  go_enter Tryd.func36, Tryd.ntmps36
  go_wp2
  go_loop [3, 4] (fun c i => ∃ k : Nat, k ≤ l.length ∧ i = .int .i64 k ∧ c = .int .u64 (num (l.take k))) (fun _ i => l.length - (intOf i).toNat)
  case atStart => exact ⟨0, Nat.zero_le _, rfl, rfl⟩
  case round =>
    obtain ⟨k, hk, rfl, rfl⟩ := hrel
    by_cases hlt : k < l.length
    · obtain ⟨b, rfl, hb⟩ := hcell k hlt
      have hs : Hid (num (l.take (k + 1)) = num (l.take k) * 256 + l[k].toNat) := by
        have e : num (l.take (k + 1)) = num (l.take k) * 256 + l[k].toNat := by rw [take_snoc l k hlt, num_snoc]
        exact e
      have hC : num (l.take k) < 256 ^ 7 := Nat.lt_of_lt_of_le (num_lt _) (Nat.pow_le_pow_right (by omega) (by rw [List.length_take]; omega))
      clear hcell
      generalize num (l.take k) = C at *
      have hx := u8_lt l[k]
      generalize l[k] = x at *
      have hC' : C < 72057594037927936 := hC
      clear hC
      go_wp2
      go_round
      case rel =>
        refine ⟨k + 1, by omega, by go_num, ?_⟩
        rw [hs.out]; go_num
      case measure => simp [intOf]; omega
    · go_wp2
      go_ret
      obtain rfl : k = l.length := by omega
      exact ⟨by rw [List.take_length]; rfl, rfl⟩

set_option maxHeartbeats 400000 in
theorem fixed_any (v : Value) (B : Nat) (l : List UInt8) (n k : Nat) (w : World) (h : OwnB w B v l) (hk : k ≤ 8) (hl : l.length ≤ 1000000) (hB : B ≤ w.heap.size) :
    Calls Tryd.prog 19 #[v, .int .u64 n, .int .i64 k] w (RetOwn B (l ++ be n k) w) := by
  obtain ⟨i0, hi, hz0, hz1, hz2⟩ := info_parts info_u8
  have hk0 : IntKind.i64.wrap ((k : Int) - 1) = (k : Int) - 1 := IntWalk.i64_in _ (by omega)
  go_enter Tryd.func19, Tryd.ntmps19
  go_wp2
  go_loopw [0, 7] (fun u c wr => ∃ j : Nat, j ≤ k ∧ c = .int .i64 ((j : Int) - 1) ∧ (∃ l', l' ++ be n j = l ++ be n k ∧ OwnB wr B u l') ∧ Below B w wr) (fun _ c _ => (intOf c + 1).toNat)
  case atStart => exact ⟨k, Nat.le_refl _, rfl, ⟨l, rfl, h⟩, Below.refl _ _⟩
  case round =>
    obtain ⟨j, hj, rfl, ⟨l', hl', hown⟩, hb⟩ := hrel
    by_cases hj0 : 0 < j
    · obtain ⟨j, rfl⟩ : ∃ i, j = i + 1 := ⟨j - 1, by omega⟩
      rw [show ((j + 1 : Nat) : Int) - 1 = (j : Int) from by omega]
      have hw1 : IntKind.i64.wrap (8 * (j : Int)) = 8 * (j : Int) := IntWalk.i64_in _ (by omega)
      have hw2 : (0 : Int) ≤ 8 * (j : Int) := by omega
      have hlen : l'.length ≤ 1000008 := by
        have := congrArg List.length hl'
        simp only [List.length_append, be_length] at this; omega
      have hsz := hb.size
      go_wp2_with (at_builtin; go_must (refine wpList_append_lies _ rfl _ _ _ rfl B 5 i0 _ 1 1 Tryd.underlying24 hi hz0 hz1 hz2 rfl (by omega) _ l'.length (l'.map byteV) rfl (hown.alloc _) ⟨wr.heap.size, 0, none⟩ 1 1 [_] rfl rfl (World.news_of_block (cs := #[_]) (t := 5) (fr := (0, 0)) (heap_alloc_new wr _)) (by simp [Value.oneCell']) (by omega) (by unfold maxLen; omega) (by omega) (by simp; omega) (wr.heap.size + 1) (by simp) ?_); intro gg cap w1 hown1 hgrow hat hlt1)
      go_roundw
      case rel =>
        refine ⟨j, by omega, rfl, ⟨l' ++ [UInt8.ofNat (n / 256 ^ j)], by rw [List.append_assoc]; exact hl', ?_⟩, ?_⟩
        · rw [u8_wrap'] at hown1
          unfold OwnB
          rw [List.length_append, List.map_append]
          exact hown1
        · exact (hb.alloc (by omega) _).grown hgrow (by simp; omega) (fun k hk => (hown.lt k hk).1)
      case measure => simp [intOf]
    · obtain rfl : j = 0 := by omega
      go_wp2
      go_ret
      simp only [be, List.append_nil] at hl'
      subst hl'
      exact ⟨_, rfl, hown, hb⟩
end Go.Proofs.YtgpbhjjajpbeeaaDoor
