/-
  The walk of keydirlaw.manifest: true, whatever the bytes.
-/
import Derived.Test.YtgpbhjjajpbeeaaDoorManW
import Derived.Test.YtgpbhjjajpbeeaaDoorRefRMan
import Derived.Test.YtgpbhjjajpbeeaaDoorDecodes
import Derived.Lib.SliceRun
namespace Go.Proofs.YtgpbhjjajpbeeaaDoor
open Go.RowKit Go.Lib Pl

theorem Ints.nil (w : World) : Ints w (.slice none 0 0) [] := ⟨none, 0, rfl, Nat.le_refl _, ⟨by omega, fun _ => rfl⟩, fun h => absurd rfl h⟩

set_option maxRecDepth 100000 in
set_option maxHeartbeats 1600000 in
theorem manifest_any (v : Value) (l : List UInt8) (w : World) (h : Bytes w v l) (hl : l.length ≤ 1000000) (hL : Laid w) :
    Calls Tryd.prog 11 #[v] w (TrueIs w) := by
  obtain ⟨a, cap, rfl, h1, h2, h3⟩ := id h
  clear h1 h2 h3
  generalize hd : readMan l = r
  have H := Lib.hid h; clear h
  have HL := Lib.hid hL; clear hL
  go_enter Tryd.func11, Tryd.ntmps11
  go_wp2_with fail
  refine (roomy_any _ l w H.out hl).mono ?_
  rintro e w1 ⟨rfl, hR, hE⟩
  have hb := hR.bytes (by simp; omega) l.length (by simp)
  rw [List.take_left, List.length_append] at hb
  have hg := lt_of_block hR
  go_wp2_with fail
  refine (kreadMan_any _ l w1 hb).mono ?_
  rintro e w2 ⟨g, u, y, rfl, hE2, hr⟩
  replace hR := hR.below hE2 hg
  replace hE := Ext.trans hE hE2
  replace hg := Nat.lt_of_lt_of_le hg hE2.size
  have hsz1 := hE2.size
  clear hb
  rw [hd] at hr
  rcases hr with ⟨rfl, rfl, rfl, rfl⟩ | ⟨gen, ids, rfl, rfl, rfl, hO⟩
  · unfold errV
    have X : BoxAt (w2.alloc (.cells #[.int .u64 0, .slice none 0 0] 30)) w2.heap.size 30 #[.int .u64 0, .slice none 0 0] := BoxAt.new _ _ rfl
    replace hE : Ext w (w2.alloc (.cells #[.int .u64 0, .slice none 0 0] 30)) := hE.new _
    replace hR : Row (w2.alloc (.cells #[.int .u64 0, .slice none 0 0] 30)) w.heap.size (l ++ [71, 72]) := hR.below ((Ext.refl w2).new _) hg
    have HR := Lib.hid hR; have HE := Lib.hid hE; have HX := Lib.hid X
    clear hR hE X hE2
    go_wp2_with fail
    refine (tell_num 6 _ (HL.out.ext HE.out)).mono ?_
    rintro e w3 ⟨rfl, hE3⟩
    have hR := HR.out.below hE3 (by simp; omega)
    have hE := Ext.trans HE.out hE3
    have X := HX.out.below hE3 (by simp)
    clear HR HE HX hE3
    have HE := Lib.hid hE; have HX := Lib.hid X
    clear hE X
    go_wp2_with fail
    refine (still_any w.heap.size _ l w3 hR (H.out.ext HE.out) hl).mono ?_
    rintro e w4 ⟨rfl, hO⟩
    have X := hO.box HX.out (by omega)
    have hE : Ext w w4 := Below.trans HE.out (hO.below (Nat.le_refl _))
    clear HE HX hO hR
    have HE := Lib.hid hE; have HX := Lib.hid X
    clear hE X
    go_wp2_with fail
    refine (refReadMan_any _ l w4 (H.out.ext HE.out)).mono ?_
    rintro e w5 ⟨g5, v5, b5, rfl, hE5, hr5⟩
    rw [hd] at hr5
    obtain ⟨rfl, rfl, rfl⟩ : g5 = 0 ∧ v5 = .slice none 0 0 ∧ b5 = false := by
      rcases hr5 with ⟨_, h1, h2, h3⟩ | ⟨_, _, h, _⟩
      · exact ⟨h1, h2, h3⟩
      · cases h
    have hX5 : w2.heap.size < w4.heap.size := lt_of_block HX.out
    have X := HX.out.below hE5 hX5
    have hE : Ext w w5 := Ext.trans HE.out hE5
    have HE' := Lib.hid hE
    clear HE HX hE5 hE H HL hr5
    have xc0 := X.cell 0
    have xc1 := X.cell 1
    clear X
    have hnil : (binOp BinOp.eql 23 (.slice none 0 0) (.slice none 0 0)).run Tryd.prog w5 = .ok (.bool true) w5 := run_eql_slice_nil w5 23 3 none 0 0 0 0 Tryd.underlying23
    go_wp2
    go_ret
    exact ⟨rfl, HE'.out⟩
  · obtain ⟨ua, uc, rfl⟩ := ownsRow_form hO
    have hI : Ints w2 (.slice ua ids.length uc) ids := hO.ints
    have X : BoxAt (w2.alloc (.cells #[.int .u64 gen, .slice ua ids.length uc] 30)) w2.heap.size 30 #[.int .u64 gen, .slice ua ids.length uc] := BoxAt.new _ _ rfl
    have hE20 : Ext w2 (w2.alloc (.cells #[.int .u64 gen, .slice ua ids.length uc] 30)) := (Ext.refl w2).new _
    replace hI := hI.ext hE20
    have hlow : ∀ b, (Value.slice ua ids.length uc).ownBlock = some b → w1.heap.size ≤ b := fun b hb => (hO.lt b hb).1
    replace hE : Ext w (w2.alloc (.cells #[.int .u64 gen, .slice ua ids.length uc] 30)) := hE.new _
    replace hR : Row (w2.alloc (.cells #[.int .u64 gen, .slice ua ids.length uc] 30)) w.heap.size (l ++ [71, 72]) := hR.below hE20 hg
    have hO' : OwnI (w2.alloc (.cells #[.int .u64 gen, .slice ua ids.length uc] 30)) w1.heap.size (.slice ua ids.length uc) ids := ownsRow_below hO hE20
    have HR := Lib.hid hR; have HE := Lib.hid hE; have HX := Lib.hid X; have HO := Lib.hid hO'
    clear hR hE X hI hO hO' hE2 hE20
    go_wp2_with fail
    refine (tell_nil _).mono ?_
    rintro e w3 ⟨rfl, hE3⟩
    have hR := HR.out.below hE3 (by simp; omega)
    have hE := Ext.trans HE.out hE3
    have X := HX.out.below hE3 (by simp)
    have hO3 : OwnI w3 w1.heap.size (.slice ua ids.length uc) ids := ownsRow_below HO.out hE3
    clear HR HE HX HO hE3
    have HE := Lib.hid hE; have HX := Lib.hid X; have HO := Lib.hid hO3
    clear hE X hO3
    go_wp2_with fail
    refine (still_any w.heap.size _ l w3 hR (H.out.ext HE.out) hl).mono ?_
    rintro e w4 ⟨rfl, hOf⟩
    have X := hOf.box HX.out (by omega)
    have hE : Ext w w4 := Below.trans HE.out (hOf.below (Nat.le_refl _))
    have hO4 : OwnI w4 w1.heap.size (.slice ua ids.length uc) ids := by
      have hne := ownsRow_ne HO.out hR (by decide)
      obtain ⟨q1, q2⟩ := HO.out
      refine ⟨q1, ?_⟩
      rcases q2 with q2 | ⟨gb, cap, cur, hv, hg, hh, r⟩
      · exact Or.inl q2
      · exact Or.inr ⟨gb, cap, cur, hv, hg, (hOf.block gb (by intro e; subst e; rw [hv] at hne; exact hne rfl)).trans hh, r⟩
    clear HE HX hOf hR HO
    have HE := Lib.hid hE; have HX := Lib.hid X; have HO := Lib.hid hO4
    clear hE X hO4
    go_wp2_with fail
    refine (refReadMan_any _ l w4 (H.out.ext HE.out)).mono ?_
    rintro e w5 ⟨g5, v5, b5, rfl, hE5, hr5⟩
    rw [hd] at hr5
    obtain ⟨rfl, rfl, hO5⟩ : g5 = (gen : Int) ∧ b5 = true ∧ OwnI w5 w4.heap.size v5 ids := by
      rcases hr5 with ⟨h, _⟩ | ⟨_, _, h, h1, h2, h3⟩
      · cases h
      · injection h with h; injection h with h h'; subst h; subst h'
        exact ⟨h1, h2, h3⟩
    have hX5 : w2.heap.size < w4.heap.size := lt_of_block HX.out
    have X := HX.out.below hE5 hX5
    have hE : Ext w w5 := Ext.trans HE.out hE5
    have hI5 : Ints w5 (.slice ua ids.length uc) ids := HO.out.ints.ext hE5
    have hcall := sameNumbers_any _ v5 ids ids w5 hI5 hO5.ints
    have HC := Lib.hid hcall; have HE' := Lib.hid hE; have HX' := Lib.hid X
    clear HE HX hE5 hE H HL hr5 hI5 hO5 hcall HO X
    have xc0 := HX'.out.cell 0
    have xc1 := HX'.out.cell 1
    go_wp2_with fail
    refine HC.out.mono ?_
    rintro e w6 ⟨rfl, q, rfl⟩
    have hE6 := Ext.trans HE'.out (Ext.drewN w5 q)
    have X6 := HX'.out.below (Ext.drewN w5 q) (lt_of_block HX'.out)
    generalize w5.drewN q = w6 at *
    have HE6 := Lib.hid hE6
    clear xc0 xc1 hE6 HC HE' HX'
    have xc0 := X6.cell 0
    have xc1 := X6.cell 1
    clear X6
    go_wp2
    go_ret
    exact ⟨rfl, HE6.out⟩
end Go.Proofs.YtgpbhjjajpbeeaaDoor
