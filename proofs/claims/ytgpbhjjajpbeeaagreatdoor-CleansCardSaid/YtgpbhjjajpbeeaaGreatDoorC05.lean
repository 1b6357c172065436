/-
  The walks of bytesof.Reader: take, Number, Text. A Reader lies in a block of the call's own, its bytes in older blocks.
-/
import Derived.Test.YtgpbhjjajpbeeaaGreatDoorC04
set_option linter.unusedSimpArgs false
set_option linter.unusedVariables false
set_option linter.unnecessarySimpa false
namespace Go.Proofs.YtgpbhjjajpbeeaaGreatDoor
open Go.RowKit Go.Lib Pl

theorem add_block (a : Addr) (n : Nat) : (a.add n).block = a.block := by unfold Addr.add; split <;> rfl
/-- bytes that lie in blocks below b -/
def BytesL (w : World) (b : Nat) (v : Value) (l : List UInt8) : Prop := Bytes w v l ∧ ∀ ad n c, v = .slice (some ad) n c → l ≠ [] → ad.block < b
theorem BytesL.below {w w' : World} {b : Nat} {v : Value} {l : List UInt8} (h : BytesL w b v l) (hb : Below b w w') : BytesL w' b v l := by
  obtain ⟨⟨a, cap, rfl, h1, h2, h3⟩, h4⟩ := h
  refine ⟨⟨a, cap, rfl, h1, h2, fun hx => ?_⟩, h4⟩
  obtain ⟨ad, rfl, hc⟩ := h3 hx
  refine ⟨ad, rfl, fun i x hi => ?_⟩
  have hlt := h4 ad _ _ rfl (by intro e; subst e; simp at hx)
  exact (hb.cell (p := ad.add i) (by rw [add_block]; exact hlt)).trans (hc i x hi)
theorem BytesL.of {w : World} {v : Value} {l : List UInt8} (h : Bytes w v l) : BytesL w w.heap.size v l := by
  refine ⟨h, ?_⟩
  rintro ad n c rfl hne
  obtain ⟨a, cap, hv, h1, h2, h3⟩ := h
  injection hv with ha
  obtain ⟨b, hb, hc⟩ := h3 (by simpa using hne)
  rw [hb] at ha; injection ha with ha; subst ha
  cases l with
  | nil => exact absurd rfl hne
  | cons x l =>
    have := World.block_lt_of_cell? w _ (hc 0 _ rfl)
    rw [add_block] at this; exact this
theorem BytesL.mono {w : World} {b b' : Nat} {v : Value} {l : List UInt8} (h : BytesL w b v l) (hb : b ≤ b') : BytesL w b' v l :=
  ⟨h.1, fun ad n c hv hl => Nat.lt_of_lt_of_le (h.2 ad n c hv hl) hb⟩
/-- a cut keeps low -/
theorem BytesL.sliced {w : World} {b : Nat} {a : Option Addr} {n cap : Nat} {l : List UInt8} (h : BytesL w b (.slice a n cap) l) (i j : Nat) (hij : i ≤ j) (hj : j ≤ l.length) :
    BytesL w b (.slice (if cap = i then a else a.map (·.add i)) (j - i) (cap - i)) ((l.take j).drop i) := by
  refine ⟨h.1.sliced i j hij hj, ?_⟩
  rintro ad m c hv hne
  injection hv with ha
  have hl : l ≠ [] := by intro e; subst e; simp at hne
  cases a with
  | none => split at ha <;> simp at ha
  | some a0 =>
    have := h.2 a0 n cap rfl hl
    split at ha
    · injection ha with ha; subst ha; exact this
    · simp at ha; subst ha; rw [add_block]; exact this

theorem BytesL.head {w : World} {b : Nat} {a : Option Addr} {m cap : Nat} {l : List UInt8} (h : BytesL w b (.slice a m cap) l) (n : Nat) (hn : n ≤ l.length) : BytesL w b (.slice a n n) (l.take n) := by
  obtain ⟨⟨a', c, hv, h1, h2, h3⟩, h4⟩ := h
  injection hv with ha hm hc
  subst ha; subst hc
  have hlen : (l.take n).length = n := by rw [List.length_take]; omega
  refine ⟨?_, ?_⟩
  · unfold Bytes; rw [hlen]
    refine ⟨_, _, rfl, Nat.le_refl _, ⟨by omega, fun hn => by have := h2.2 hn; omega⟩, fun hx => ?_⟩
    obtain ⟨ad, hb, hcell⟩ := h3 (by intro e; apply hx; simp at e; subst e; simp)
    refine ⟨ad, hb, fun i x hi => hcell i x ?_⟩
    rw [List.map_take, List.getElem?_take] at hi
    split at hi
    · exact hi
    · cases hi
  · rintro ad k c hv hne
    injection hv with ha
    exact h4 ad _ _ (by rw [ha]) (by intro e; subst e; simp at hne)
/-- a Reader in block b: what is left, and whether there were too few -/
def ReaderAt (w : World) (b B : Nat) (l : List UInt8) (bad : Bool) : Prop :=
  ∃ v, w.heap[b]? = some (.cells #[v, .bool bad] 241 (0, 0)) ∧ B ≤ b ∧ BytesL w B v l
theorem ReaderAt.set {w : World} {b B : Nat} {l : List UInt8} {bad : Bool} (h : ReaderAt w b B l bad) {a : Addr} (ha : a.block ≠ b) (hB : B ≤ a.block) (u : Value) : ReaderAt (w.setCell a u) b B l bad := by
  obtain ⟨v, h1, h2, h3⟩ := h
  exact ⟨v, by rw [Below.heap_setCell _ _ _ _ (Ne.symm ha)]; exact h1, h2, h3.below ((Below.refl B w).setCell hB _)⟩

def TakeNo (b B : Nat) (l : List UInt8) (w : World) (e : Ending) (w' : World) : Prop := e = .returned (.slice none 0 0) ∧ ReaderAt w' b B l true ∧ Below b w w'
def TakeOk (b B n : Nat) (l : List UInt8) (w : World) (e : Ending) (w' : World) : Prop := ∃ v, e = .returned v ∧ BytesL w' B v (l.take n) ∧ ReaderAt w' b B (l.drop n) false ∧ Below b w w'

theorem two_cells {w : World} {b : Nat} {u v : Value} {t : TypeId} (h : w.heap[b]? = some (.cells #[u, v] t (0, 0))) :
    w.cell? ⟨b, 0, none⟩ = some u ∧ w.cell? ⟨b, 1, none⟩ = some v ∧ w.frozen? ⟨b, 0, none⟩ = false ∧ w.frozen? ⟨b, 1, none⟩ = false := by
  simp [World.cell?, World.frozen?, h]
theorem two_set0 {w : World} {b : Nat} {u v x : Value} {t : TypeId} (h : w.heap[b]? = some (.cells #[u, v] t (0, 0))) : (w.setCell ⟨b, 0, none⟩ x).heap[b]? = some (.cells #[x, v] t (0, 0)) := by
  simp [World.setCell, Array.getElem?_modify, h]
theorem two_set1 {w : World} {b : Nat} {u v x : Value} {t : TypeId} (h : w.heap[b]? = some (.cells #[u, v] t (0, 0))) : (w.setCell ⟨b, 1, none⟩ x).heap[b]? = some (.cells #[u, x] t (0, 0)) := by
  simp [World.setCell, Array.getElem?_modify, h]

set_option maxHeartbeats 400000 in
theorem take_no (b B n : Nat) (l : List UInt8) (bad : Bool) (w : World) (h : ReaderAt w b B l bad) (hn : bad = true ∨ l.length < n) :
    Calls Tryz.prog 166 #[.pointer (some ⟨b, 0, none⟩), .int .u64 n] w (TakeNo b B l w) := by
  obtain ⟨v, hb, hBb, hv⟩ := h
  have hfin : TakeNo b B l w (.returned (.slice none 0 0)) (w.setCell ⟨b, 1, none⟩ (.bool true)) := by
    have hB : Below b w (w.setCell ⟨b, 1, none⟩ (.bool true)) := (Below.refl b w).setCell (Nat.le_refl _) _
    exact ⟨rfl, ⟨v, two_set1 hb, hBb, hv.below (hB.mono hBb)⟩, hB⟩
  have HF := Lib.hid hfin; clear hfin
  obtain ⟨hc0, hc1, hf0, hf1⟩ := two_cells hb
  clear hb
  obtain ⟨⟨a, cap, rfl, h1, h2, h3⟩, h4⟩ := hv
  have hwl : IntKind.u64.wrap (l.length : Int) = (l.length : Int) := by rw [IntKind.wrap_u64]; omega
  clear h2 h3 h4
  by_cases hbad : bad = true
  · subst hbad
    go_enter Tryz.func166, Tryz.ntmps166
    go_wp2
    go_ret
    exact HF.out
  · obtain rfl : bad = false := by simpa using hbad
    have hlt : l.length < n := by simpa using hn
    go_enter Tryz.func166, Tryz.ntmps166
    go_wp2
    go_ret
    exact HF.out

set_option maxHeartbeats 400000 in
theorem take_ok (b B n : Nat) (l : List UInt8) (w : World) (h : ReaderAt w b B l false) (hn : n ≤ l.length) :
    Calls Tryz.prog 166 #[.pointer (some ⟨b, 0, none⟩), .int .u64 n] w (TakeOk b B n l w) := by
  obtain ⟨v, hb, hBb, hv⟩ := h
  obtain ⟨⟨a, cap, rfl, h1, h2, h3⟩, h4⟩ := id hv
  have HV := Lib.hid hv
  have HB := Lib.hid hb
  obtain ⟨hc0, hc1, hf0, hf1⟩ := two_cells hb
  clear hb hv
  have hwl : IntKind.u64.wrap (l.length : Int) = (l.length : Int) := by rw [IntKind.wrap_u64]; omega
  have hnl : ¬ l.length < n := by omega
  clear h2 h3 h4
  have hfin : ∀ u, BytesL w B u (l.drop n) → TakeOk b B n l w (.returned (.slice a n n)) (w.setCell ⟨b, 0, none⟩ u) := by
    intro u hu
    have hB : Below b w (w.setCell ⟨b, 0, none⟩ u) := (Below.refl b w).setCell (Nat.le_refl _) _
    exact ⟨_, rfl, (HV.out.head n hn).below (hB.mono hBb), ⟨u, two_set0 HB.out, hBb, hu.below (hB.mono hBb)⟩, hB⟩
  have ht := HV.out.sliced n l.length hn (Nat.le_refl _)
  rw [List.take_length] at ht
  have HF := Lib.hid hfin; clear hfin
  have HT := Lib.hid ht; clear ht
  by_cases hcn : cap = n
  · subst hcn
    have HT' := Lib.hid (by simpa using HT.out : BytesL w B (.slice a (l.length - cap) 0) (l.drop cap))
    go_enter Tryz.func166, Tryz.ntmps166
    go_wp2
    go_ret
    have e0 : l.length - cap = 0 := by omega
    have ht := HT'.out
    rw [e0] at ht
    exact HF.out _ ht
  · have HT' := Lib.hid (by simpa [hcn] using HT.out : BytesL w B (.slice (Option.map (fun x => x.add n) a) (l.length - n) (cap - n)) (l.drop n))
    go_enter Tryz.func166, Tryz.ntmps166
    go_wp2
    go_ret
    exact HF.out _ HT'.out

/-- a number read: what is read, what is left, whether there were too few -/
def NumberIs (b B : Nat) (m : Nat) (l : List UInt8) (bad : Bool) (w : World) (e : Ending) (w' : World) : Prop := e = .returned (.int .u64 m) ∧ ReaderAt w' b B l bad ∧ Below b w w'

set_option maxHeartbeats 400000 in
theorem rnumber_no (b B n : Nat) (l : List UInt8) (bad : Bool) (w : World) (h : ReaderAt w b B l bad) (hn : bad = true ∨ l.length < n) :
    Calls Tryz.prog 126 #[.pointer (some ⟨b, 0, none⟩), .int .u64 n] w (NumberIs b B 0 l true w) := by
  have H := Lib.hid h; clear h
  go_enter Tryz.func126, Tryz.ntmps126
  go_wp2_with fail
  refine (take_no b B n l bad w H.out hn).mono ?_
  rintro e w1 ⟨rfl, h1, h2⟩
  have H1 := Lib.hid h1; clear h1
  go_wp2
  refine wp_loop_rounds 1 ?_
  rw [rounds_succ]
  go_wp2
  go_ret
  exact ⟨rfl, H1.out, h2⟩

theorem or_byte {C : Nat} {x : UInt8} (hC : C < 72057594037927936) : bits BinOp.or IntKind.u64 ((C : Int) * 256) (x.toNat : Int) = ((C * 256 + x.toNat : Nat) : Int) := by
  have hx := u8_lt x
  have h1 := u64_or_nat (C * 256) x.toNat (by omega) (by omega)
  have h2 : ((C * 256 : Nat) : Int) = (C : Int) * 256 := by omega
  rw [h2] at h1
  rw [h1, nat_join 8 (C * 256) x.toNat (by omega) (by omega)]

set_option maxHeartbeats 400000 in
theorem rnumber_ok (b B n : Nat) (l : List UInt8) (w : World) (h : ReaderAt w b B l false) (hn : n ≤ l.length) (h8 : n ≤ 8) :
    Calls Tryz.prog 126 #[.pointer (some ⟨b, 0, none⟩), .int .u64 n] w (NumberIs b B (num (l.take n)) (l.drop n) false w) := by
  have H := Lib.hid h; clear h
  go_enter Tryz.func126, Tryz.ntmps126
  go_wp2_with fail
  refine (take_ok b B n l w H.out hn).mono ?_
  rintro e w1 ⟨v, rfl, ⟨hv, _⟩, h1, h2⟩
  have H1 := Lib.hid h1; clear h1
  have hlen : (l.take n).length ≤ 8 := by rw [List.length_take]; omega
  generalize l.take n = m at *
  obtain ⟨a, cap, rfl, hc, hc', hcell⟩ := hv.open
  go_wp2
  go_loop [5, 7, 12] (fun c _ i => ∃ k : Nat, k ≤ m.length ∧ i = .int .i64 k ∧ c = .int .u64 (num (m.take k))) (fun _ _ i => m.length - (intOf i).toNat)
  case atStart => exact ⟨0, Nat.zero_le _, rfl, rfl⟩
  case round =>
    obtain ⟨k, hk, rfl, rfl⟩ := hrel
    by_cases hlt : k < m.length
    · obtain ⟨ad, rfl, hb⟩ := hcell k hlt
      have hs : Hid (num (m.take (k + 1)) = num (m.take k) * 256 + m[k].toNat) := by
        have e : num (m.take (k + 1)) = num (m.take k) * 256 + m[k].toNat := by rw [take_snoc m k hlt, num_snoc]
        exact e
      have hC : num (m.take k) < 256 ^ 7 := Nat.lt_of_lt_of_le (num_lt _) (Nat.pow_le_pow_right (by omega) (by rw [List.length_take]; omega))
      clear hcell
      generalize num (m.take k) = C at *
      have hx := u8_lt m[k]
      generalize m[k] = x at *
      have hC' : C < 72057594037927936 := hC
      clear hC
      go_wp2
      go_round
      case rel =>
        refine ⟨k + 1, by omega, by go_num, ?_⟩
        rw [hs.out, or_byte hC']
      case measure => simp [intOf]; omega
    · go_wp2
      go_ret
      obtain rfl : k = m.length := by omega
      exact ⟨by rw [List.take_length]; rfl, H1.out, h2⟩

theorem run_string_of {w : World} {v : Value} {l : List UInt8} (hb : Bytes w v l) :
    (convert 25 9 v).run Tryz.prog w = .ok (.string ⟨l.toArray⟩) w := by
  obtain ⟨a, cap, rfl, h1, h2, h3⟩ := hb.open
  cases a with
  | none =>
    have : l = [] := by
      cases l with
      | nil => rfl
      | cons x l => obtain ⟨b, hb, _⟩ := h3 0 (by simp); cases hb
    subst this
    exact run_convert_bytes_nil w 25 5 Tryz.underlying25 Tryz.underlying5 _ _ 9 Tryz.underlying9
  | some ad =>
    exact run_convert_bytes_back w 25 9 5 ad cap l Tryz.underlying25 Tryz.underlying5 Tryz.underlying9 (fun j hj => by
      obtain ⟨b, hb, hc⟩ := h3 j hj; injection hb with hb; subst hb; exact hc)

def TextIs (b B : Nat) (s : List UInt8) (l : List UInt8) (bad : Bool) (w : World) (e : Ending) (w' : World) : Prop := e = .returned (.string ⟨s.toArray⟩) ∧ ReaderAt w' b B l bad ∧ Below b w w'

set_option maxRecDepth 100000 in
set_option maxHeartbeats 400000 in
theorem rtext_no (b B n : Nat) (l : List UInt8) (bad : Bool) (w : World) (h : ReaderAt w b B l bad) (hn : bad = true ∨ l.length < n) :
    Calls Tryz.prog 127 #[.pointer (some ⟨b, 0, none⟩), .int .u64 n] w (TextIs b B [] l true w) := by
  have H := Lib.hid h; clear h
  go_enter Tryz.func127, Tryz.ntmps127
  go_wp2_with fail
  refine (take_no b B n l bad w H.out hn).mono ?_
  rintro e w1 ⟨rfl, h1, h2⟩
  have H1 := Lib.hid h1; clear h1
  have hs := run_string_of (w := w1) (v := .slice none 0 0) (l := []) ⟨none, 0, rfl, Nat.le_refl _, ⟨by omega, fun _ => rfl⟩, fun h => absurd rfl h⟩
  go_wp2
  go_ret
  exact ⟨rfl, H1.out, h2⟩

set_option maxRecDepth 100000 in
set_option maxHeartbeats 400000 in
theorem rtext_ok (b B n : Nat) (l : List UInt8) (w : World) (h : ReaderAt w b B l false) (hn : n ≤ l.length) :
    Calls Tryz.prog 127 #[.pointer (some ⟨b, 0, none⟩), .int .u64 n] w (TextIs b B (l.take n) (l.drop n) false w) := by
  have H := Lib.hid h; clear h
  go_enter Tryz.func127, Tryz.ntmps127
  go_wp2_with fail
  refine (take_ok b B n l w H.out hn).mono ?_
  rintro e w1 ⟨v, rfl, ⟨hv, _⟩, h1, h2⟩
  have H1 := Lib.hid h1; clear h1
  have hs := run_string_of hv
  clear hv
  go_wp2
  go_ret
  exact ⟨rfl, H1.out, h2⟩

theorem rnumber_any (b B n : Nat) (s : List UInt8 × Bool) (w : World) (h : ReaderAt w b B s.1 s.2) (h8 : n ≤ 8) :
    Calls Tryz.prog 126 #[.pointer (some ⟨b, 0, none⟩), .int .u64 n] w (NumberIs b B (rdN s n).1 (rdN s n).2.1 (rdN s n).2.2 w) := by
  unfold rdN
  by_cases hc : s.2 = true ∨ s.1.length < n
  · rw [if_pos hc]; exact rnumber_no b B n s.1 s.2 w h hc
  · rw [if_neg hc]
    have h2 : s.2 = false := by simpa using fun e => hc (.inl e)
    rw [h2] at h
    exact rnumber_ok b B n s.1 w h (by omega) h8
theorem rtext_any (b B n : Nat) (s : List UInt8 × Bool) (w : World) (h : ReaderAt w b B s.1 s.2) :
    Calls Tryz.prog 127 #[.pointer (some ⟨b, 0, none⟩), .int .u64 n] w (TextIs b B (rdT s n).1 (rdT s n).2.1 (rdT s n).2.2 w) := by
  unfold rdT
  by_cases hc : s.2 = true ∨ s.1.length < n
  · rw [if_pos hc]; exact rtext_no b B n s.1 s.2 w h hc
  · rw [if_neg hc]
    have h2 : s.2 = false := by simpa using fun e => hc (.inl e)
    rw [h2] at h
    exact rtext_ok b B n s.1 w h (by omega)
end Go.Proofs.YtgpbhjjajpbeeaaGreatDoor
