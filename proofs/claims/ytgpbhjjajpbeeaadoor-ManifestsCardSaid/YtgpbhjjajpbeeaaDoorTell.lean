/-
  api.Tell of nil, of a number, of a file's error. The package-level variable errors.errorType holds what the program's text lays.
-/
import Derived.Test.YtgpbhjjajpbeeaaDoorAs2
import Derived.Test.YtgpbhjjajpbeeaaDoorAs3
import Derived.BigQuiet
import Derived.Deep.QuietTactic
namespace Go.Proofs.YtgpbhjjajpbeeaaDoor
open Go.RowKit

theorem Ext.trans' {a b c : World} {B : Nat} (h : Ext a b) (k : Below B b c) (hB : a.heap.size ≤ B := by first | exact Nat.le_refl _ | omega | (have := Below.size (by assumption); simp at *; omega)) : Ext a c := Below.trans h (k.mono hB)
/-- errors.errorType as its text lays it -/
def Laid (w : World) : Prop := w.cell? ⟨0, 0, none⟩ = some (.iface 90 (.agg #[.pointer (some ⟨1, 26, none⟩)]))
theorem Laid.ext {w w' : World} (h : Laid w) (he : Ext w w') : Laid w' := he.cell h

/-- what a hit leaves: the variable, and all below its block -/
def HitAt (t : Addr) (v : Value) (w : World) (e : Ending) (w' : World) : Prop := e = .returned (.bool true) ∧ w'.cell? t = some v ∧ Below t.block w w'
theorem hit_of {t : Addr} {v old : Value} {w w1 : World} (ht : w.cell? t = some old) (h : Ext w w1) : (w1.setCell t v).cell? t = some v ∧ Below t.block w (w1.setCell t v) :=
  ⟨World.cell?_setCell_same w1 t v (h.cell ht), (h.mono (Nat.le_of_lt (World.block_lt_of_cell? w t ht))).setCell (Nat.le_refl _) _⟩
theorem as_hitN' (n : Int) (t : Addr) (old : Value) (w : World) (h : Laid w) (ht : w.cell? t = some old) (hf : w.frozen? t = false) :
    Calls Tryd.prog 17 #[.iface 31 (.int .i64 n), .iface 54 (.pointer (some t))] w (HitAt t (.int .i64 n) w) := by
  refine (as_hitN n t old w h ht hf).mono ?_
  rintro e w' ⟨rfl, rfl⟩
  exact ⟨rfl, hit_of ht ((((Ext.refl w).new _).new _).new _ |>.new _)⟩
theorem as_hitF' (a : Addr) (t : Addr) (old : Value) (w : World) (h : Laid w) (ht : w.cell? t = some old) (hf : w.frozen? t = false) :
    Calls Tryd.prog 17 #[.iface 49 (.pointer (some a)), .iface 51 (.pointer (some t))] w (HitAt t (.pointer (some a)) w) := by
  refine (as_hitF a t old w h ht hf).mono ?_
  rintro e w' ⟨rfl, rfl⟩
  exact ⟨rfl, hit_of ht ((((Ext.refl w).new _).new _).new _ |>.new _)⟩

set_option maxHeartbeats 400000 in
theorem tell_nil (w : World) :
    Calls Tryd.prog 6 #[.nilIface] w fun e w' => e = .returned (.tuple #[.int .i64 0, .string ⟨#[]⟩]) ∧ Ext w w' := by
  go_enter Tryd.func6, Tryd.ntmps6
  go_wp2
  go_ret2
  exact ⟨rfl, ((Ext.refl w).new _).new _⟩

set_option maxHeartbeats 1000000 in
theorem tell_num (n : Int) (w : World) (h : Laid w) :
    Calls Tryd.prog 6 #[.iface 31 (.int .i64 n)] w fun e w' => e = .returned (.tuple #[.int .i64 n, .string ⟨#[]⟩]) ∧ Ext w w' := by
  have H := Lib.hid h
  clear h
  go_enter Tryd.func6, Tryd.ntmps6
  go_wp2_with fail
  refine (as_miss n _ _ (Laid.ext H.out (((Ext.refl w).new _).new _))).mono ?_
  rintro e w1 ⟨rfl, hb1⟩
  have hE1 : Ext w w1 := (((Ext.refl w).new (.cells #[.int .i64 0] 31)).new (.cells #[.pointer none] 49)).trans hb1
  have hc0 : w1.cell? ⟨w.heap.size, 0, none⟩ = some (.int .i64 0) := (Below.cell hb1 (by simp; omega)).trans (by simp)
  have hf0 : w1.frozen? ⟨w.heap.size, 0, none⟩ = false := (Below.frozen hb1 (by simp; omega)).trans (by simp)
  go_wp2_with fail
  refine (as_hitN' n _ (.int .i64 0) _ (Laid.ext H.out hE1) hc0 hf0).mono ?_
  rintro e w2 ⟨rfl, hc2, hb2⟩
  go_wp2_with fail
  go_ret2
  exact ⟨rfl, hE1.trans' hb2⟩

set_option maxHeartbeats 1000000 in
theorem tell_file (a : Addr) (name : ByteArray) (n : Int) (w : World) (h : Laid w) (h0 : w.cell? a = some (.string name)) (h1 : w.cell? ⟨a.block, a.off + 1, none⟩ = some (.int .i64 n)) :
    Calls Tryd.prog 6 #[.iface 49 (.pointer (some a))] w fun e w' => e = .returned (.tuple #[.int .i64 n, .string name]) ∧ Ext w w' := by
  have H := Lib.hid h
  clear h
  go_enter Tryd.func6, Tryd.ntmps6
  go_wp2_with fail
  refine (as_hitF' a ⟨w.heap.size + 1, 0, none⟩ (.pointer none) _ (Laid.ext H.out (((Ext.refl w).new _).new _)) (by simp) (by simp)).mono ?_
  rintro e w1 ⟨rfl, hc1, hb1⟩
  have hb1' : Below (w.heap.size + 1) ((w.alloc (.cells #[.int .i64 0] 31)).alloc (.cells #[.pointer none] 49)) w1 := hb1
  have hE1 : Ext w w1 := Below.trans (((Ext.refl w).new (.cells #[.int .i64 0] 31)).new (.cells #[.pointer none] 49)) (hb1'.mono (by omega))
  have h01 := hE1.cell h0
  have h11 := hE1.cell h1
  clear h0 h1
  go_wp2
  go_quiet (fail)
  go_wp2
  go_ret2
  exact ⟨rfl, hE1.trans (Ext.drewN _ _)⟩
end Go.Proofs.YtgpbhjjajpbeeaaDoor
