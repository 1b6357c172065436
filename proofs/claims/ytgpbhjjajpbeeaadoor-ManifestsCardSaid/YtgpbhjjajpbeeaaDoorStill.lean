/-
  The walk of keydirlaw.still: true where the row still holds the bytes and the two marks.
-/
import Derived.Test.YtgpbhjjajpbeeaaDoorRoomy
import Derived.Test.YtgpbhjjajpbeeaaDoorOff
namespace Go.Proofs.YtgpbhjjajpbeeaaDoor
open Go.RowKit Go.Lib Pl

def StillIs (g : Nat) (w : World) (e : Ending) (w' : World) : Prop := e = .returned (.bool true) ∧ Off g w w'
/-- what is left to mark -/
def RowFrom (w : World) (g k n : Nat) (l : List UInt8) : Prop := ∃ cs, BoxAt w g 5 cs ∧ cs.size = n ∧ ∀ i, k ≤ i → cs[i]? = (l.map byteV)[i]?

set_option maxRecDepth 100000 in
set_option maxHeartbeats 800000 in
theorem still_any (g : Nat) (u : Value) (l : List UInt8) (w : World) (h : Row w g (l ++ [71, 72])) (h' : Bytes w u l) (hl : l.length ≤ 1000000) :
    Calls Tryd.prog 23 #[.slice (some ⟨g, 0, none⟩) l.length (l.length + 2), u] w (StillIs g w) := by
  obtain ⟨a, cap, rfl, h1, h2, h3⟩ := id h'
  clear h1 h2 h3
  have hb := h.bytes (by simp; omega) l.length (by simp)
  rw [List.take_left, List.length_append] at hb
  have H := Lib.hid h; have H' := Lib.hid h'; clear h h'
  have HB := Lib.hid hb; clear hb
  go_enter Tryd.func23, Tryd.ntmps23
  go_wp2_with fail
  refine (same_any _ _ l l w HB.out H'.out).mono ?_
  rintro e w1 ⟨rfl, n, rfl⟩
  have hR : Row (w.drewN n) g (l ++ [71, 72]) := H.out.below (Ext.drewN w n) (by have := H.out; unfold Row at this; exact lt_of_block this)
  have hr1 := Row.cell hR l.length (by simp)
  have hr2 := Row.cell hR (l.length + 1) (by simp)
  rw [show ((l ++ [71, 72])[l.length]'(by simp)) = 71 by simp] at hr1
  rw [show ((l ++ [71, 72])[l.length + 1]'(by simp)) = 72 by simp] at hr2
  have hO : Off g w (w.drewN n) := Off.drewN g w n
  have hF : RowFrom (w.drewN n) g 0 (l.length + 2) (l ++ [71, 72]) := ⟨_, hR, by simp, fun i _ => by simp⟩
  have hT : decide (l = l) = true := decide_eq_true rfl
  have HO := Lib.hid hO; have HF := Lib.hid hF
  clear hO hF hR H H' HB
  generalize w.drewN n = wn at *
  go_wp2
  clear hr1 hr2 hT
  go_loopw [8] (fun i wr => ∃ k : Nat, k ≤ l.length + 2 ∧ i = .int .i64 k ∧ Off g w wr ∧ RowFrom wr g k (l.length + 2) (l ++ [71, 72])) (fun i _ => l.length + 2 - (intOf i).toNat)
  case atStart => exact ⟨0, Nat.zero_le _, rfl, HO.out, HF.out⟩
  case round =>
    clear HO HF
    obtain ⟨k, hk, rfl, hO, cs, hbx, hsz, hcs⟩ := hrel
    by_cases hlt : k < l.length + 2
    · have hc := hbx.cell k
      have hfr := hbx.free k
      rw [hcs k (Nat.le_refl _), List.getElem?_map, List.getElem?_eq_getElem (by simp; omega)] at hc
      have hc' : wr.cell? ⟨g, k, none⟩ = some (.int .u8 (((l ++ [71, 72])[k]'(by simp; omega)).toNat)) := hc
      clear hc
      generalize (l ++ [71, 72])[k]'(by simp; omega) = x at *
      have HO := Lib.hid hO; have HX := Lib.hid hbx; have HC := Lib.hid hcs
      clear hO hbx hcs
      go_wp2
      go_roundw
      case rel =>
        refine ⟨k + 1, by omega, by go_num, HO.out.setCell k _, _, HX.out.set k _, by simp [hsz], fun i hi => ?_⟩
        rw [Array.getElem?_setIfInBounds_ne (by omega)]
        exact HC.out i (by omega)
      case measure => simp [intOf]; omega
    · go_wp2
      go_ret
      exact ⟨rfl, hO⟩
end Go.Proofs.YtgpbhjjajpbeeaaDoor
