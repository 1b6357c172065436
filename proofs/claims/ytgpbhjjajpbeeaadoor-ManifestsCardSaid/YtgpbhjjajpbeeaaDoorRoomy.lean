/-
  The walks of keydirlaw.roomy and keydirlaw.still.
-/
import Derived.Test.YtgpbhjjajpbeeaaDoorLaw
import Derived.Deep.OwnRows
namespace Go.Proofs.YtgpbhjjajpbeeaaDoor
open Go.RowKit Go.Lib Pl

/-- block g is a row of the bytes l, whole -/
def Row (w : World) (g : Nat) (l : List UInt8) : Prop := w.heap[g]? = some (.cells (l.map byteV).toArray 5 (0, 0))
theorem Row.set {w : World} {g : Nat} {l : List UInt8} (h : Row w g l) (i : Nat) (b : UInt8) : Row (w.setCell ⟨g, i, none⟩ (byteV b)) g (l.set i b) := by
  unfold Row at *
  simp [World.setCell, Array.getElem?_modify, h, List.map_set]
theorem Row.cell {w : World} {g : Nat} {l : List UInt8} (h : Row w g l) (i : Nat) (hi : i < l.length) : w.cell? ⟨g, i, none⟩ = some (.int .u8 (l[i]).toNat) := by
  unfold Row at h; simp [World.cell?, h, hi, byteV]
theorem Row.free {w : World} {g : Nat} {l : List UInt8} (h : Row w g l) (i : Nat) : w.frozen? ⟨g, i, none⟩ = false := by
  unfold Row at h; simp [World.frozen?, h]
theorem Row.below {w w' : World} {B g : Nat} {l : List UInt8} (h : Row w g l) (hb : Below B w w') (hg : g < B) : Row w' g l := (hb.block g hg).trans h
theorem Row.bytes {w : World} {g : Nat} {l : List UInt8} (h : Row w g l) (hl : l.length ≤ 9223372036854775807) (k : Nat) (hk : k ≤ l.length) : Bytes w (.slice (some ⟨g, 0, none⟩) k l.length) (l.take k) := by
  have e : (l.take k).length = k := by rw [List.length_take]; omega
  unfold Bytes; rw [e]
  refine ⟨_, _, rfl, hk, ⟨hl, fun h => by cases h⟩, fun _ => ⟨_, rfl, fun i x hi => ?_⟩⟩
  rw [List.getElem?_map, List.getElem?_take] at hi
  split at hi
  · rename_i hik
    have hil : i < l.length := by omega
    rw [List.getElem?_eq_getElem hil] at hi
    injection hi with hi
    have : (⟨g, 0, none⟩ : Addr).add i = ⟨g, i, none⟩ := by unfold Addr.add; split <;> simp_all
    rw [this, ← hi]; exact h.cell i hil
  · cases hi
theorem Row.of_own {w : World} {B g n : Nat} {l : List UInt8} (h : w.ownsRow B 5 1 (.slice (some ⟨g, 0, none⟩) n n) n (l.map byteV)) : Row w g l := by
  rcases h.2 with ⟨h, _⟩ | ⟨g', cap, cur, hv, hg, hh, h1, h2, h3, h4⟩
  · cases h
  · injection hv with ha hn hc
    injection ha with ha; injection ha with ha
    subst ha; subst hc
    unfold Row; rw [hh]
    congr 2
    rw [← h4, List.take_of_length_le (by simp [h3])]
def RoomyIs (l : List UInt8) (w : World) (e : Ending) (w' : World) : Prop := e = .returned (.slice (some ⟨w.heap.size, 0, none⟩) l.length (l.length + 2)) ∧ Row w' w.heap.size (l ++ [71, 72]) ∧ Ext w w'

set_option maxRecDepth 100000 in
set_option maxHeartbeats 800000 in
theorem roomy_any (v : Value) (l : List UInt8) (w : World) (h : Bytes w v l) (hl : l.length ≤ 1000000) :
    Calls Tryd.prog 21 #[v] w (RoomyIs l w) := by
  obtain ⟨a, cap, rfl, h1, h2, h3⟩ := id h
  clear h1 h2 h3
  obtain ⟨i0, hi, hz0, hz1, hz2⟩ := info_parts info_u8
  have hmk := run_make_row' (P := Tryd.prog) 24 5 (.int .u8 0) 1 Tryd.underlying24 info_u8 rfl .i64 .i64 (l.length + 2) (by omega) (by omega) w
  rw [show ((l.length + 2 : Nat) : Int) = (l.length : Int) + 2 by omega] at hmk
  have hown : (w.alloc (.cells (madeCells #[.int .u8 0] (l.length + 2)) 5)).ownsRow w.heap.size 5 1 (.slice (some ⟨w.heap.size, 0, none⟩) (l.length + 2) (l.length + 2)) (l.length + 2) ((List.replicate (l.length + 2) (0 : UInt8)).map byteV) := by
    refine ⟨by simp, Or.inr ⟨_, _, _, rfl, Nat.le_refl _, heap_alloc_new w _, Nat.le_refl _, by unfold maxLen; omega, ?_, ?_⟩⟩
    · rw [size_madeCells]; omega
    · have e : (madeCells #[.int .u8 0] (l.length + 2)).toList = (List.replicate (l.length + 2) (0 : UInt8)).map byteV := by
        apply List.ext_getElem
        · simp [madeCells]
        · intro i h1 h2; simp [madeCells, byteV, Nat.mod_one]
      rw [e, List.take_of_length_le (by simp)]
  have hB : Bytes (w.alloc (.cells (madeCells #[.int .u8 0] (l.length + 2)) 5)) (.slice a l.length cap) l := h.ext ((Ext.refl w).new _)
  obtain ⟨w', hcp, hown', hgr⟩ := run_copy_onto (P := Tryd.prog) (w.alloc (.cells (madeCells #[.int .u8 0] (l.length + 2)) 5)) w.heap.size 24 24 3 5 Tryd.underlying24 (by rw [hi]; exact congrArg some hz1) hown a l.length cap (l.map byteV) (by rw [List.length_map]; exact (Nat.min_eq_left (by omega)).symm) (by obtain ⟨a', c', e, _, _, hf⟩ := hB; injection e with e1; subst e1; exact hf) (byteV_one l)
  have hR : Row w' w.heap.size (l ++ [0, 0]) := by
    refine Row.of_own (B := w.heap.size) (n := l.length + 2) ?_
    have e : (l.map byteV) ++ ((List.replicate (l.length + 2) (0 : UInt8)).map byteV).drop (l.map byteV).length = (l ++ [0, 0]).map byteV := by
      rw [List.length_map, ← List.map_drop, List.drop_replicate, show l.length + 2 - l.length = 2 by omega, List.map_append]; rfl
    rw [e] at hown'; exact hown'
  have hE : Ext w w' := Below.grown (((Ext.refl w).new _)) hgr (by simp) (by intro k hk; simp [Value.ownBlock] at hk; omega)
  rw [List.length_map] at hcp
  have H := Lib.hid h; clear h hown hown' hB hgr
  have hr1 := Row.cell hR l.length (by simp)
  have hf1 := hR.free l.length
  have hr2 := Row.cell hR (l.length + 1) (by simp)
  have hf2 := hR.free (l.length + 1)
  go_enter Tryd.func21, Tryd.ntmps21
  go_wp2
  go_ret
  refine ⟨rfl, ?_, ?_⟩
  · have h1 := (hR.set l.length 71).set (l.length + 1) 72
    have e : ((l ++ [0, 0]).set l.length 71).set (l.length + 1) 72 = l ++ [71, 72] := by
      rw [List.set_append_right _ _ (Nat.le_refl _), List.set_append_right _ _ (by omega)]; simp
    rw [e] at h1; exact h1
  · repeat' refine Ext.setN ?_ (by simp)
    exact hE
end Go.Proofs.YtgpbhjjajpbeeaaDoor
