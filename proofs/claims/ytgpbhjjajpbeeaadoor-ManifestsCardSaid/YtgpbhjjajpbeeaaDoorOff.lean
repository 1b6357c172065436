/-
  What stands where nothing but one block has turned.
-/
import Derived.Test.YtgpbhjjajpbeeaaDoorDecode
namespace Go.Proofs.YtgpbhjjajpbeeaaDoor
open Go.RowKit Go.Lib Pl

/-- nothing has turned but block g -/
structure Off (g : Nat) (w w' : World) : Prop where
  os : w'.os = w.os
  tape : w'.tape = w.tape
  output : w'.output = w.output
  size : w'.heap.size = w.heap.size
  block : ∀ k, k ≠ g → w'.heap[k]? = w.heap[k]?
theorem Off.refl (g : Nat) (w : World) : Off g w w := ⟨rfl, rfl, rfl, rfl, fun _ _ => rfl⟩
theorem Off.trans {g : Nat} {a b c : World} (h : Off g a b) (k : Off g b c) : Off g a c :=
  ⟨k.os.trans h.os, k.tape.trans h.tape, k.output.trans h.output, k.size.trans h.size, fun i hi => (k.block i hi).trans (h.block i hi)⟩
theorem Off.drewN (g : Nat) (w : World) (n : Nat) : Off g w (w.drewN n) := by
  induction n with
  | zero => exact Off.refl g w
  | succ n ih => exact ih.trans ⟨rfl, rfl, rfl, rfl, fun _ _ => rfl⟩
theorem Off.setCell {g : Nat} {w w' : World} (h : Off g w w') (i : Nat) (u : Value) : Off g w (w'.setCell ⟨g, i, none⟩ u) := by
  refine h.trans ⟨rfl, rfl, rfl, by simp [World.setCell], fun k hk => ?_⟩
  simp [World.setCell, Array.getElem?_modify, Ne.symm hk]
theorem Off.below {g B : Nat} {w w' : World} (h : Off g w w') (hB : B ≤ g) : Below B w w' :=
  ⟨h.os, h.tape, h.output, Nat.le_of_eq h.size.symm, fun k hk => h.block k (by omega)⟩
theorem Off.box {g n : Nat} {w w' : World} (h : Off g w w') {t : TypeId} {cs : Array Value} (hb : BoxAt w n t cs) (hn : n ≠ g) : BoxAt w' n t cs := (h.block n hn).trans hb
end Go.Proofs.YtgpbhjjajpbeeaaDoor
