/-
  The walks of the laws' small helpers: same, sameNumbers, num, record.
-/
import Derived.Test.YtgpbhjjajpbeeaaGreatDoorC24
import Derived.Deep.QuietTactic
import Derived.BigQuiet
set_option linter.unusedSimpArgs false
set_option linter.unusedVariables false
set_option linter.unnecessarySimpa false
namespace Go.Proofs.YtgpbhjjajpbeeaaGreatDoor
open Go.RowKit Go.Lib Pl

def BoolIs (b : Bool) (w : World) (e : Ending) (w' : World) : Prop := e = .returned (.bool b) ∧ ∃ n, w' = w.drewN n
theorem drewN_drewN (w : World) (a b : Nat) : (w.drewN a).drewN b = w.drewN (a + b) := by
  induction b with
  | zero => rfl
  | succ b ih => show ((w.drewN a).drewN b).drew = (w.drewN (a + b)).drew; rw [ih]

theorem same_not {α : Type} {l m : List α} {k : Nat} (hk : k < l.length) (hm : k < m.length) (h : l[k] ≠ m[k]) : l ≠ m := by
  rintro rfl; exact h rfl
theorem take_eq_of {α : Type} {l m : List α} {k : Nat} (h : l.take k = m.take k) (hk : k < l.length) (hm : k < m.length) (e : l[k] = m[k]) : l.take (k + 1) = m.take (k + 1) := by
  rw [take_snoc l k hk, take_snoc m k hm, h, e]

set_option maxHeartbeats 800000 in
theorem same_any (v u : Value) (l m : List UInt8) (w : World) (h : Bytes w v l) (h' : Bytes w u m) :
    Calls Tryz.prog 29 #[v, u] w (BoolIs (decide (l = m)) w) := by
  obtain ⟨a, cap, rfl, hc, hc', -⟩ := h.open
  obtain ⟨a2, cap2, rfl, hd, hd', -⟩ := h'.open
  have H := Lib.hid h; have H' := Lib.hid h'; clear h h'
  by_cases hl : l.length = m.length
  · have hl' : ((l.length : Int) != (m.length : Int)) = false := by rw [bne, beq_iff_eq.2 (by omega)]; rfl
    go_enter Tryz.func29, Tryz.ntmps29
    go_wp2
    go_loopw [5] (fun i w' => ∃ k : Nat, k ≤ l.length ∧ i = .int .i64 k ∧ l.take k = m.take k ∧ ∃ n, w' = w.drewN n) (fun i _ => l.length - (intOf i).toNat)
    case atStart => exact ⟨0, Nat.zero_le _, rfl, rfl, 0, rfl⟩
    case round =>
      obtain ⟨k, hk, rfl, ht, n, rfl⟩ := hrel
      by_cases hlt : k < l.length
      · have hx := H.out.ext (Ext.drewN w n)
        have hy := H'.out.ext (Ext.drewN w n)
        obtain ⟨b, rfl, hb⟩ : ∃ b, a = some b ∧ (w.drewN n).cell? (b.add k) = some (.int .u8 (l[k]).toNat) := by
          obtain ⟨a', c', e, _, _, hf⟩ := hx.open
          injection e with e1; subst e1; exact hf k hlt
        obtain ⟨b2, rfl, hb2⟩ : ∃ b, a2 = some b ∧ (w.drewN n).cell? (b.add k) = some (.int .u8 (m[k]'(by omega)).toNat) := by
          obtain ⟨a', c', e, _, _, hf⟩ := hy.open
          injection e with e1; subst e1; exact hf k (by omega)
        clear hx hy
        have hkm : k < m.length := by omega
        have Ht := Lib.hid ht; clear ht
        by_cases he : l[k] = m[k]
        · have he' : (((l[k]).toNat : Int) != ((m[k]).toNat : Int)) = false := by rw [bne, beq_iff_eq.2 (by rw [he])]; rfl
          have Hn : Hid (l.take (k + 1) = m.take (k + 1)) := take_eq_of Ht.out hlt hkm he
          clear he
          generalize hwn : w.drewN n = wn at *
          go_wp2
          go_quiet (fail)
          go_wp2
          go_roundw
          case rel => exact ⟨k + 1, by omega, by go_num, Hn.out, n + nq, by rw [← hwn, drewN_drewN]⟩
          case measure => simp [intOf]; omega
        · have hne : ((l[k]).toNat : Int) ≠ ((m[k]).toNat : Int) := fun e => he (UInt8.toNat_inj.1 (by omega))
          have he' : (((l[k]).toNat : Int) != ((m[k]).toNat : Int)) = true := by rw [bne, beq_eq_false_iff_ne.2 hne]; rfl
          clear hne
          have Hd : Hid (l ≠ m) := same_not hlt hkm he
          clear he
          generalize hwn : w.drewN n = wn at *
          go_wp2
          go_quiet (fail)
          go_wp2
          go_ret
          exact ⟨by rw [decide_eq_false Hd.out]; rfl, n + nq, by rw [← hwn, drewN_drewN]⟩
      · go_wp2
        go_ret
        have : l = m := by
          have h1 := List.take_of_length_le (l := l) (i := k) (by omega)
          have h2 := List.take_of_length_le (l := m) (i := k) (by omega)
          rw [← h1, ← h2]; exact ht
        exact ⟨by rw [decide_eq_true this]; rfl, n, rfl⟩
  · have hl' : ((l.length : Int) != (m.length : Int)) = true := by rw [bne, beq_eq_false_iff_ne.2 (by omega)]; rfl
    go_enter Tryz.func29, Tryz.ntmps29
    go_wp2
    go_ret
    exact ⟨by rw [decide_eq_false (by rintro rfl; exact hl rfl)]; rfl, 0, rfl⟩
set_option maxHeartbeats 800000 in
theorem sameNumbers_any (v u : Value) (l m : List Int) (w : World) (h : Ints w v l) (h' : Ints w u m) :
    Calls Tryz.prog 27 #[v, u] w (BoolIs (decide (l = m)) w) := by
  obtain ⟨a, cap, rfl, hc, hc', -⟩ := h.open
  obtain ⟨a2, cap2, rfl, hd, hd', -⟩ := h'.open
  have H := Lib.hid h; have H' := Lib.hid h'; clear h h'
  by_cases hl : l.length = m.length
  · have hl' : ((l.length : Int) != (m.length : Int)) = false := by rw [bne, beq_iff_eq.2 (by omega)]; rfl
    go_enter Tryz.func27, Tryz.ntmps27
    go_wp2
    go_loopw [5] (fun i w' => ∃ k : Nat, k ≤ l.length ∧ i = .int .i64 k ∧ l.take k = m.take k ∧ ∃ n, w' = w.drewN n) (fun i _ => l.length - (intOf i).toNat)
    case atStart => exact ⟨0, Nat.zero_le _, rfl, rfl, 0, rfl⟩
    case round =>
      obtain ⟨k, hk, rfl, ht, n, rfl⟩ := hrel
      by_cases hlt : k < l.length
      · have hx := H.out.ext (Ext.drewN w n)
        have hy := H'.out.ext (Ext.drewN w n)
        obtain ⟨b, rfl, hb⟩ : ∃ b, a = some b ∧ (w.drewN n).cell? (b.add k) = some (.int .i64 (l[k])) := by
          obtain ⟨a', c', e, _, _, hf⟩ := hx.open
          injection e with e1; subst e1; exact hf k hlt
        obtain ⟨b2, rfl, hb2⟩ : ∃ b, a2 = some b ∧ (w.drewN n).cell? (b.add k) = some (.int .i64 (m[k]'(by omega))) := by
          obtain ⟨a', c', e, _, _, hf⟩ := hy.open
          injection e with e1; subst e1; exact hf k (by omega)
        clear hx hy
        have hkm : k < m.length := by omega
        have Ht := Lib.hid ht; clear ht
        by_cases he : l[k] = m[k]
        · have he' : (l[k] != m[k]) = false := by rw [bne, beq_iff_eq.2 he]; rfl
          have Hn : Hid (l.take (k + 1) = m.take (k + 1)) := take_eq_of Ht.out hlt hkm he
          clear he
          generalize hwn : w.drewN n = wn at *
          go_wp2
          go_quiet (fail)
          go_wp2
          go_roundw
          case rel => exact ⟨k + 1, by omega, by go_num, Hn.out, n + nq, by rw [← hwn, drewN_drewN]⟩
          case measure => simp [intOf]; omega
        · have hne : l[k] ≠ m[k] := he
          have he' : (l[k] != m[k]) = true := by rw [bne, beq_eq_false_iff_ne.2 hne]; rfl
          clear hne
          have Hd : Hid (l ≠ m) := same_not hlt hkm he
          clear he
          generalize hwn : w.drewN n = wn at *
          go_wp2
          go_quiet (fail)
          go_wp2
          go_ret
          exact ⟨by rw [decide_eq_false Hd.out]; rfl, n + nq, by rw [← hwn, drewN_drewN]⟩
      · go_wp2
        go_ret
        have : l = m := by
          have h1 := List.take_of_length_le (l := l) (i := k) (by omega)
          have h2 := List.take_of_length_le (l := m) (i := k) (by omega)
          rw [← h1, ← h2]; exact ht
        exact ⟨by rw [decide_eq_true this]; rfl, n, rfl⟩
  · have hl' : ((l.length : Int) != (m.length : Int)) = true := by rw [bne, beq_eq_false_iff_ne.2 (by omega)]; rfl
    go_enter Tryz.func27, Tryz.ntmps27
    go_wp2
    go_ret
    exact ⟨by rw [decide_eq_false (by rintro rfl; exact hl rfl)]; rfl, 0, rfl⟩

/-- what num answers at an error's number -/
theorem num_any (n : Int) (w : World) : Calls Tryz.prog 18 #[.int .i64 n] w fun e w' => e = .returned (.int .i64 n) ∧ w = w' := by
  go_enter Tryz.func18, Tryz.ntmps18
  go_wp2
  go_ret
  exact ⟨rfl, rfl⟩
set_option maxHeartbeats 800000 in
theorem record_any (seq : Nat) (k v : ByteArray) (d : Bool) (w : World) :
    Calls Tryz.prog 48 #[recV seq k v d] w fun e w' => e = .returned (refV seq k v d 0) ∧ Ext w w' := by
  unfold recV
  go_enter Tryz.func48, Tryz.ntmps48
  go_wp2
  refine bodyPost_ret (v := refV seq k v d 0) (by simp [results, Tryz.results48, go_sem, refV]) rfl ⟨rfl, ((Ext.refl w).new _).new _⟩
end Go.Proofs.YtgpbhjjajpbeeaaGreatDoor
