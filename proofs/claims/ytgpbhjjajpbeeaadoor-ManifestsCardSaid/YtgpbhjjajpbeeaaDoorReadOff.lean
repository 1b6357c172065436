/-
  The walks of bytesof.Reader once more: nothing but the Reader's own block turns.
-/
import Derived.Test.YtgpbhjjajpbeeaaDoorReader
import Derived.Test.YtgpbhjjajpbeeaaDoorOff
namespace Go.Proofs.YtgpbhjjajpbeeaaDoor
open Go.RowKit Go.Lib Pl

def TakeNoO (b B : Nat) (l : List UInt8) (w : World) (e : Ending) (w' : World) : Prop := e = .returned (.slice none 0 0) ∧ ReaderAt w' b B l true ∧ Off b w w'
def TakeOkO (b B n : Nat) (l : List UInt8) (w : World) (e : Ending) (w' : World) : Prop := ∃ v, e = .returned v ∧ BytesL w' B v (l.take n) ∧ ReaderAt w' b B (l.drop n) false ∧ Off b w w'

set_option maxHeartbeats 400000 in
theorem take_noO (b B n : Nat) (l : List UInt8) (bad : Bool) (w : World) (h : ReaderAt w b B l bad) (hn : bad = true ∨ l.length < n) :
    Calls Tryd.prog 45 #[.pointer (some ⟨b, 0, none⟩), .int .u64 n] w (TakeNoO b B l w) := by
  obtain ⟨v, hb, hBb, hv⟩ := h
  have hfin : TakeNoO b B l w (.returned (.slice none 0 0)) (w.setCell ⟨b, 1, none⟩ (.bool true)) := by
    have hB : Off b w (w.setCell ⟨b, 1, none⟩ (.bool true)) := (Off.refl b w).setCell 1 _
    exact ⟨rfl, ⟨v, two_set1 hb, hBb, hv.below (hB.below hBb)⟩, hB⟩
  have HF := Lib.hid hfin; clear hfin
  obtain ⟨hc0, hc1, hf0, hf1⟩ := two_cells hb
  clear hb
  obtain ⟨⟨a, cap, rfl, h1, h2, h3⟩, h4⟩ := hv
  have hwl : IntKind.u64.wrap (l.length : Int) = (l.length : Int) := by rw [IntKind.wrap_u64]; omega
  clear h2 h3 h4
  by_cases hbad : bad = true
  · subst hbad
    go_enter Tryd.func45, Tryd.ntmps45
    go_wp2
    go_ret
    exact HF.out
  · obtain rfl : bad = false := by simpa using hbad
    have hlt : l.length < n := by simpa using hn
    go_enter Tryd.func45, Tryd.ntmps45
    go_wp2
    go_ret
    exact HF.out

set_option maxHeartbeats 400000 in
theorem take_okO (b B n : Nat) (l : List UInt8) (w : World) (h : ReaderAt w b B l false) (hn : n ≤ l.length) :
    Calls Tryd.prog 45 #[.pointer (some ⟨b, 0, none⟩), .int .u64 n] w (TakeOkO b B n l w) := by
  obtain ⟨v, hb, hBb, hv⟩ := h
  obtain ⟨⟨a, cap, rfl, h1, h2, h3⟩, h4⟩ := id hv
  have HV := Lib.hid hv
  have HB := Lib.hid hb
  obtain ⟨hc0, hc1, hf0, hf1⟩ := two_cells hb
  clear hb hv
  have hwl : IntKind.u64.wrap (l.length : Int) = (l.length : Int) := by rw [IntKind.wrap_u64]; omega
  have hnl : ¬ l.length < n := by omega
  clear h2 h3 h4
  have hfin : ∀ u, BytesL w B u (l.drop n) → TakeOkO b B n l w (.returned (.slice a n n)) (w.setCell ⟨b, 0, none⟩ u) := by
    intro u hu
    have hB : Off b w (w.setCell ⟨b, 0, none⟩ u) := (Off.refl b w).setCell 0 _
    exact ⟨_, rfl, (HV.out.head n hn).below (hB.below hBb), ⟨u, two_set0 HB.out, hBb, hu.below (hB.below hBb)⟩, hB⟩
  have ht := HV.out.sliced n l.length hn (Nat.le_refl _)
  rw [List.take_length] at ht
  have HF := Lib.hid hfin; clear hfin
  have HT := Lib.hid ht; clear ht
  by_cases hcn : cap = n
  · subst hcn
    have HT' := Lib.hid (by simpa using HT.out : BytesL w B (.slice a (l.length - cap) 0) (l.drop cap))
    go_enter Tryd.func45, Tryd.ntmps45
    go_wp2
    go_ret
    have e0 : l.length - cap = 0 := by omega
    have ht := HT'.out
    rw [e0] at ht
    exact HF.out _ ht
  · have HT' := Lib.hid (by simpa [hcn] using HT.out : BytesL w B (.slice (Option.map (fun x => x.add n) a) (l.length - n) (cap - n)) (l.drop n))
    go_enter Tryd.func45, Tryd.ntmps45
    go_wp2
    go_ret
    exact HF.out _ HT'.out

/-- a number read: what is read, what is left, whether there were too few -/
def NumberIsO (b B : Nat) (m : Nat) (l : List UInt8) (bad : Bool) (w : World) (e : Ending) (w' : World) : Prop := e = .returned (.int .u64 m) ∧ ReaderAt w' b B l bad ∧ Off b w w'

set_option maxHeartbeats 400000 in
theorem rnumber_noO (b B n : Nat) (l : List UInt8) (bad : Bool) (w : World) (h : ReaderAt w b B l bad) (hn : bad = true ∨ l.length < n) :
    Calls Tryd.prog 43 #[.pointer (some ⟨b, 0, none⟩), .int .u64 n] w (NumberIsO b B 0 l true w) := by
  have H := Lib.hid h; clear h
  go_enter Tryd.func43, Tryd.ntmps43
  go_wp2_with fail
  refine (take_noO b B n l bad w H.out hn).mono ?_
  rintro e w1 ⟨rfl, h1, h2⟩
  have H1 := Lib.hid h1; clear h1
  go_wp2
  refine wp_loop_rounds 1 ?_
  rw [rounds_succ]
  go_wp2
  go_ret
  exact ⟨rfl, H1.out, h2⟩

set_option maxHeartbeats 400000 in
theorem rnumber_okO (b B n : Nat) (l : List UInt8) (w : World) (h : ReaderAt w b B l false) (hn : n ≤ l.length) (h8 : n ≤ 8) :
    Calls Tryd.prog 43 #[.pointer (some ⟨b, 0, none⟩), .int .u64 n] w (NumberIsO b B (num (l.take n)) (l.drop n) false w) := by
  have H := Lib.hid h; clear h
  go_enter Tryd.func43, Tryd.ntmps43
  go_wp2_with fail
  refine (take_okO b B n l w H.out hn).mono ?_
  rintro e w1 ⟨v, rfl, ⟨hv, _⟩, h1, h2⟩
  have H1 := Lib.hid h1; clear h1
  have hlen : (l.take n).length ≤ 8 := by rw [List.length_take]; omega
  generalize l.take n = m at *
  obtain ⟨a, cap, rfl, hc, hc', hcell⟩ := hv.open
  go_wp2
  go_loop [5, 7, 12] (fun c _ i => ∃ k : Nat, k ≤ m.length ∧ i = .int .i64 k ∧ c = .int .u64 (num (m.take k))) (fun _ _ i => m.length - (intOf i).toNat)
  case atStart => exact ⟨0, Nat.zero_le _, rfl, rfl⟩
  case round =>
    obtain ⟨k, hk, rfl, rfl⟩ := hrel
    by_cases hlt : k < m.length
    · obtain ⟨ad, rfl, hb⟩ := hcell k hlt
      have hs : Hid (num (m.take (k + 1)) = num (m.take k) * 256 + m[k].toNat) := by
        have e : num (m.take (k + 1)) = num (m.take k) * 256 + m[k].toNat := by rw [take_snoc m k hlt, num_snoc]
        exact e
      have hC : num (m.take k) < 256 ^ 7 := Nat.lt_of_lt_of_le (num_lt _) (Nat.pow_le_pow_right (by omega) (by rw [List.length_take]; omega))
      clear hcell
      generalize num (m.take k) = C at *
      have hx := u8_lt m[k]
      generalize m[k] = x at *
      have hC' : C < 72057594037927936 := hC
      clear hC
      go_wp2
      go_round
      case rel =>
        refine ⟨k + 1, by omega, by go_num, ?_⟩
        rw [hs.out, or_byte hC']
      case measure => simp [intOf]; omega
    · go_wp2
      go_ret
      obtain rfl : k = m.length := by omega
      exact ⟨by rw [List.take_length]; rfl, H1.out, h2⟩

theorem rnumber_anyO (b B n : Nat) (s : List UInt8 × Bool) (w : World) (h : ReaderAt w b B s.1 s.2) (h8 : n ≤ 8) :
    Calls Tryd.prog 43 #[.pointer (some ⟨b, 0, none⟩), .int .u64 n] w (NumberIsO b B (rdN s n).1 (rdN s n).2.1 (rdN s n).2.2 w) := by
  unfold rdN
  by_cases hc : s.2 = true ∨ s.1.length < n
  · rw [if_pos hc]; exact rnumber_noO b B n s.1 s.2 w h hc
  · rw [if_neg hc]
    have h2 : s.2 = false := by simpa using fun e => hc (.inl e)
    rw [h2] at h
    exact rnumber_okO b B n s.1 w h (by omega) h8
end Go.Proofs.YtgpbhjjajpbeeaaDoor
