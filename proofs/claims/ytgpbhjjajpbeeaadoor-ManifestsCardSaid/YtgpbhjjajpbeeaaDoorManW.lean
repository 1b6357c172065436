/-
  The walks of keydir.WriteManifest and keydir.ReadManifest (they hand on).
-/
import Derived.Test.YtgpbhjjajpbeeaaDoorRMan
namespace Go.Proofs.YtgpbhjjajpbeeaaDoor
open Go.RowKit Go.Lib Pl

set_option maxHeartbeats 800000 in
theorem kwriteMan_any (gen : Nat) (v : Value) (l : List Int) (w : World) (h : Ints w v l) (hw : ∀ n ∈ l, (Lit.int .i64 n).wf = true) :
    Calls Tryd.prog 5 #[.agg #[.int .u64 gen, v]] w (ManIs gen l w) := by
  obtain ⟨a, cap, rfl, hc, hc', -⟩ := h.open
  have hcall := writeMan_any gen _ l (w.alloc (.cells #[.int .u64 gen, .slice a l.length cap] 30)) (h.ext ((Ext.refl w).new _)) hw
  have HC := Lib.hid hcall; clear hcall h
  go_enter Tryd.func5, Tryd.ntmps5
  go_wp2_with fail
  refine HC.out.mono ?_
  rintro e w1 ⟨x, y, rfl, hE, hr⟩
  have HR := Lib.hid hr; clear hr
  go_wp2
  go_ret2
  refine ⟨x, y, rfl, Ext.trans ((Ext.refl w).new _) hE, ?_⟩
  rcases HR.out with ⟨h1, h2, h3⟩ | ⟨h1, h2, h3⟩
  · exact Or.inl ⟨h1, h2, ownsRow_mono h3 (by simp)⟩
  · exact Or.inr ⟨h1, h2, h3⟩

set_option maxHeartbeats 800000 in
theorem kreadMan_any (v : Value) (l : List UInt8) (w : World) (h : Bytes w v l) :
    Calls Tryd.prog 22 #[v] w (RManIs (readMan l) w) := by
  have hcall := readManW_any v l (w.alloc (.cells #[.int .u64 0, .slice none 0 0] 30)) (h.ext ((Ext.refl w).new _))
  have x0 : BoxAt (w.alloc (.cells #[.int .u64 0, .slice none 0 0] 30)) w.heap.size 30 #[.int .u64 0, .slice none 0 0] := BoxAt.new _ _ rfl
  have HC := Lib.hid hcall; clear hcall h
  go_enter Tryd.func22, Tryd.ntmps22
  go_wp2_with fail
  refine HC.out.mono ?_
  rintro e w1 ⟨g, u, y, rfl, hE, hr⟩
  have X := x0.below hE (by simp)
  have hE' : Ext w w1 := Ext.trans ((Ext.refl w).new _) hE
  have HE := Lib.hid hE'
  have HR := Lib.hid hr; have HX := Lib.hid X; clear x0 hE hr hE' X
  have xc0 := HX.out.cell 0
  have xc1 := HX.out.cell 1
  have xf0 := HX.out.free 0
  have xf1 := HX.out.free 1
  obtain ⟨ua, un, uc, rfl⟩ : ∃ a n c, u = .slice a n c := by
    rcases HR.out with ⟨_, _, h, _⟩ | ⟨_, ids, _, _, _, h⟩
    · exact ⟨_, _, _, h⟩
    · obtain ⟨a, c, h⟩ := ownsRow_form h
      exact ⟨_, _, _, h⟩
  go_wp2
  refine bodyPost_ret (v := .tuple #[.agg #[.int .u64 g, .slice ua un uc], y]) (by simp [results, Tryd.results22, go_sem, xc0, xc1]) rfl ⟨g, _, _, rfl, ?_, ?_⟩
  · repeat' refine Ext.setN ?_ (by simp)
    exact HE.out
  · rcases HR.out with h | ⟨gen, ids, h1, h2, h3, h4⟩
    · exact Or.inl h
    · have hne := ownsRow_ne h4 (b := w.heap.size) (t := 30) (by exact HX.out) (by decide)
      exact Or.inr ⟨gen, ids, h1, h2, h3, ownsRow_mono (ownsRow_setCell_other (a := ⟨w.heap.size, 1, none⟩) (ownsRow_setCell_other (a := ⟨w.heap.size, 0, none⟩) h4 hne _) hne _) (by simp)⟩
end Go.Proofs.YtgpbhjjajpbeeaaDoor
