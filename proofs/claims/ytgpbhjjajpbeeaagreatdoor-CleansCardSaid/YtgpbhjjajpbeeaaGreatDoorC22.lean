/-
  The walk of List: the names, sorted.
-/
import Derived.Test.YtgpbhjjajpbeeaaGreatDoorC16
import Derived.Test.YtgpbhjjajpbeeaaGreatDoorC21
import Derived.Sort.OwnSorted
import Derived.Test.YtgpbhjjajpbeeaaGreatDoorC04
set_option linter.unusedSimpArgs false
set_option linter.unusedVariables false
set_option linter.unnecessarySimpa false
namespace Go.Proofs.YtgpbhjjajpbeeaaGreatDoor
open Go.RowKit Go.Lib Go.Maps Dk

/-- a row of names of the call's own -/
def OwnN (w : World) (B : Nat) (v : Value) (l : List Nm) : Prop := w.ownsRow B 9 1 v l.length (l.map strV)
def ListIs (d : D) (w : World) (e : Ending) (w' : World) : Prop := ∃ v, e = .returned v ∧ OwnN w' w.heap.size v d.list ∧ Ext w w'

theorem info_str : (Tryz.prog.info? 9).map (fun i => (i.zero, i.size, i.bytes)) = some (some (.string ⟨#[]⟩), 1, 16) := by kernel_rfl
theorem strV_one (l : List Nm) : ∀ u ∈ l.map strV, u.oneCell' = true := by
  intro u hu; obtain ⟨b, _, rfl⟩ := List.mem_map.1 hu; rfl

theorem row_iter_ne {α β : Type} {P : Program} {k : TypeId} {kf : α → Value} {vf : β → Value} {w : World} {r i : Nat} {l vis : List (α × β)} {e : TypeId} {size B : Nat} {v : Value} {n : Nat} {xs : List Value}
    (h : w.ownsRow B e size v n xs) (hr : RangeAt P k kf vf w i r l vis) : v.ownBlock ≠ some i := by
  intro hv
  obtain ⟨es, clock, seen, js, h1, h2, _⟩ := hr
  rcases h.2 with ⟨rfl, _⟩ | ⟨g, cap, cur, rfl, hg, hh, _⟩
  · cases hv
  · simp [Value.ownBlock] at hv; subst hv; rw [h2] at hh; cases hh

set_option maxRecDepth 100000 in
set_option maxHeartbeats 800000 in
theorem list_any (F : Nat → Prop) (a : Nat) (d : D) (w : World) (h : DiskAt w F a d) (hnl : d.now.length ≤ 32768) : Calls Tryz.prog 66 #[nodeV a] w (ListIs d w) := by
  obtain ⟨m1, m2, mv, gs, dv, hr⟩ := h
  obtain ⟨i0, hi, hz0, hz1, hz2⟩ := info_parts info_str
  have c0 := hr.box.cell 0
  obtain ⟨w2, hrange, hRA, hExt, hsz2⟩ := hr.now.range Tryz.underlying171
  have HR := Lib.hid hr; have HRA := Lib.hid hRA; have HEX := Lib.hid hExt
  clear hr hRA hExt
  unfold nodeV
  go_enter Tryz.func66, Tryz.ntmps66
  go_wp2
  go_loopw [3] (fun i wr => ∃ vis, RangeAt Tryz.prog 9 strV nodeV wr w.heap.size m1 d.now vis ∧ wr.ownsRow w.heap.size 9 1 i vis.length (vis.map fun p => strV p.1) ∧ Ext w wr) (fun _ wr => d.now.length - seenOf wr w.heap.size)
  case atStart => exact ⟨[], HRA.out, ⟨rfl, Or.inl ⟨rfl, rfl⟩⟩, HEX.out⟩
  case round =>
    obtain ⟨vis, hRA, hown, hEx⟩ := hrel
    have hvl := hRA.length
    have hseen := hRA.seen
    obtain ⟨va, vc, rfl⟩ := ownsRow_form hown
    rcases hRA.next 0 with ⟨p, w3, hnx, hpm, hRA3, hO3, hent, hvlt⟩ | ⟨hnx, hperm⟩
    · have hne := row_iter_ne hown hRA
      have hown3 : w3.ownsRow w.heap.size 9 1 (.slice va vis.length vc) vis.length (vis.map fun p => strV p.1) := Dep.row hown w3 fun b hb => hO3.block b (fun e => hne (e ▸ hb))
      have hne3 := row_iter_ne hown3 hRA3
      have hEx3 : Ext w w3 := hEx.off hO3 (Nat.le_refl _)
      have hl3 := hRA3.lt
      have hm1 : (Value.slice va vis.length vc).ownBlock ≠ some m1 := row_map_ne hown3 ((HR.out.ext hEx3).now)
      have hseen3 := hRA3.seen
      have HH := Lib.hid hRA3; have HSN := Lib.hid hseen; have HSN3 := Lib.hid hseen3; have HE3 := Lib.hid hEx3; have HN3 := Lib.hid hne3; have HL3 := Lib.hid hl3; have HM1 := Lib.hid hm1
      clear hRA3 hseen hseen3 hRA hO3 hEx3 hne hne3 hl3 hown hm1 hEx
      unfold strV nodeV at hnx hent
      go_wp2_with (at_builtin; go_must (refine wpList_append_src rfl _ _ 73 rfl w.heap.size 9 i0 (.string ⟨#[]⟩) 1 16 Tryz.underlying73 hi hz0 hz1 hz2 rfl (by omega) (.slice va vis.length vc) vis.length _ rfl (hown3.alloc (.cells #[strV p.1] 9)) (.slice (some ⟨w3.heap.size, 0, none⟩) 1 1) 1 [strV p.1] rfl ⟨_, _, rfl, by omega, ⟨by omega, fun h => by cases h⟩, fun _ => ⟨_, rfl, World.news_of_block (cs := #[strV p.1]) (t := 9) (fr := (0, 0)) (heap_alloc_new w3 _)⟩⟩ rfl (by simp [Value.oneCell', strV]) (by unfold maxLen; omega) (by omega) (by have := HE3.out.size; simp; omega) ?_); intro b6 c6 w6 hown6 hgrow6 hat6; have HO6 := Lib.hid hown6; have HG6 := Lib.hid hgrow6; clear hown6 hgrow6 hat6)
      go_roundw
      case rel =>
        have hR6 : RangeAt Tryz.prog 9 strV nodeV w6 w.heap.size m1 d.now (vis ++ [p]) := HH.out.block
          ((HG6.out.block _ (by simp; have := HL3.out.1; omega) (fun e => HN3.out e.symm)).trans (heap_alloc_old w3 _ HL3.out.1))
          ((HG6.out.block _ (by simp; have := HL3.out.2.1; omega) (fun e => HM1.out e.symm)).trans (heap_alloc_old w3 _ HL3.out.2.1))
        refine ⟨vis ++ [p], hR6, ?_, ?_⟩
        · have := HO6.out
          simpa using this
        · exact Below.grown (HE3.out.new (.cells #[strV p.1] 9)) HG6.out (by have := HE3.out.size; simp; omega) (fun k hk => (hown3.lt k hk).1)
      case measure =>
        have hR6 : RangeAt Tryz.prog 9 strV nodeV w6 w.heap.size m1 d.now (vis ++ [p]) := HH.out.block
          ((HG6.out.block _ (by simp; have := HL3.out.1; omega) (fun e => HN3.out e.symm)).trans (heap_alloc_old w3 _ HL3.out.1))
          ((HG6.out.block _ (by simp; have := HL3.out.2.1; omega) (fun e => HM1.out e.symm)).trans (heap_alloc_old w3 _ HL3.out.2.1))
        rw [HSN.out, hR6.seen]; simp; omega
    · have hvm : (vis.map fun p => strV p.1) = (vis.map Prod.fst).map strV := by simp
      have hls : (vis.map Prod.fst).mergeSort leN = d.list := sort_perm (hperm.map _)
      have hlen : d.list.length = vis.length := by rw [← hls]; simp
      rw [hvm] at hown
      have ho := hown
      rcases hown.2 with ⟨hnil, h0⟩ | ⟨g, cap, cur, hgv, hbase, hb, h1, h2, h3, h4⟩
      · have hs := Tryz.slices_Sort_string_none va vc wr
        have HS := Lib.hid hs
        rw [h0] at ho
        have hd : d.list = [] := List.eq_nil_of_length_eq_zero (by omega)
        clear hs hrange hRA hperm hown hseen hvm
        go_wp2_with fail
        refine HS.out.mono ?_
        rintro e w4 ⟨rfl, rfl⟩
        go_wp2
        go_ret
        refine ⟨.slice va 0 vc, rfl, ?_, hEx⟩
        have hv0 : vis = [] := List.eq_nil_of_length_eq_zero h0
        subst hv0
        rw [hd]; exact ho
      · injection hgv with e1 e2 e3
        subst e1; subst e3
        have hlm : (vis.map Prod.fst).length = vis.length := by simp
        have hH : Go.Sort.Holds encStr wr g 0 (vis.map Prod.fst).toArray := holds_of_block hb (by rw [hlm, ← Nat.mul_one vis.length]; exact h4)
        have hs := Tryz.slices_Sort_string g 0 vc (vis.map Prod.fst) wr hH (Array.getElem?_eq_some_iff.1 hb).1 (by rw [hlm]; omega)
        rw [hlm] at hs
        have HS := Lib.hid hs; have HBK := Lib.hid hb; have H3 := Lib.hid h3
        clear hs hrange hRA hperm hown hseen hvm hH hb h4 h3
        go_wp2_with fail
        refine HS.out.mono ?_
        rintro e w4 ⟨rfl, n, os, hw4⟩
        have HW4 := Lib.hid hw4; clear hw4
        go_wp2
        go_ret
        refine ⟨.slice (some ⟨g, 0, none⟩) vis.length vc, rfl, ?_, ?_⟩
        · have := ownsRow_sorted (n := n) (os := os) (ss := vis.map Prod.fst) (ts := d.list) (by rw [hlen, hlm]) hbase HBK.out (by rw [hlm]; exact h1) h2 H3.out
          rw [← hls] at this
          rw [HW4.out]
          unfold OwnN
          rw [hlen, ← hls]
          rw [hlm] at this
          exact this
        · rw [HW4.out]
          exact Below.grown hEx (grownBy_sorted _) hEx.size (fun k hk => by injection hk with hk; omega)
end Go.Proofs.YtgpbhjjajpbeeaaGreatDoor
/-
  The walks of keydirref's numbers and records in bytes.
-/
namespace Go.Proofs.YtgpbhjjajpbeeaaGreatDoor
open Go.RowKit Go.Lib Pl

set_option maxHeartbeats 400000 in
theorem refnumber_any (v : Value) (l : List UInt8) (w : World) (h : Bytes w v l) (hl : l.length ≤ 8) :
    Calls Tryz.prog 75 #[v] w fun e w' => e = .returned (.int .u64 (num l)) ∧ w = w' := by
  obtain ⟨a, cap, rfl, hc, hc', hcell⟩ := h.open
  go_enter Tryz.func75, Tryz.ntmps75
  go_wp2
  go_loop [3, 4] (fun c i => ∃ k : Nat, k ≤ l.length ∧ i = .int .i64 k ∧ c = .int .u64 (num (l.take k))) (fun _ i => l.length - (intOf i).toNat)
  case atStart => exact ⟨0, Nat.zero_le _, rfl, rfl⟩
  case round =>
    obtain ⟨k, hk, rfl, rfl⟩ := hrel
    by_cases hlt : k < l.length
    · obtain ⟨b, rfl, hb⟩ := hcell k hlt
      have hs : Hid (num (l.take (k + 1)) = num (l.take k) * 256 + l[k].toNat) := by
        have e : num (l.take (k + 1)) = num (l.take k) * 256 + l[k].toNat := by rw [take_snoc l k hlt, num_snoc]
        exact e
      have hC : num (l.take k) < 256 ^ 7 := Nat.lt_of_lt_of_le (num_lt _) (Nat.pow_le_pow_right (by omega) (by rw [List.length_take]; omega))
      clear hcell
      generalize num (l.take k) = C at *
      have hx := u8_lt l[k]
      generalize l[k] = x at *
      have hC' : C < 72057594037927936 := hC
      clear hC
      go_wp2
      go_round
      case rel =>
        refine ⟨k + 1, by omega, by go_num, ?_⟩
        rw [hs.out]; go_num
      case measure => simp [intOf]; omega
    · go_wp2
      go_ret
      obtain rfl : k = l.length := by omega
      exact ⟨by rw [List.take_length]; rfl, rfl⟩

set_option maxHeartbeats 400000 in
theorem fixed_any (v : Value) (B : Nat) (l : List UInt8) (n k : Nat) (w : World) (h : OwnB w B v l) (hk : k ≤ 8) (hl : l.length ≤ 1000000) (hB : B ≤ w.heap.size) :
    Calls Tryz.prog 89 #[v, .int .u64 n, .int .i64 k] w (RetOwn B (l ++ be n k) w) := by
  obtain ⟨i0, hi, hz0, hz1, hz2⟩ := info_parts info_u8
  have hk0 : IntKind.i64.wrap ((k : Int) - 1) = (k : Int) - 1 := IntWalk.i64_in _ (by omega)
  go_enter Tryz.func89, Tryz.ntmps89
  go_wp2
  go_loopw [0, 7] (fun u c wr => ∃ j : Nat, j ≤ k ∧ c = .int .i64 ((j : Int) - 1) ∧ (∃ l', l' ++ be n j = l ++ be n k ∧ OwnB wr B u l') ∧ Below B w wr) (fun _ c _ => (intOf c + 1).toNat)
  case atStart => exact ⟨k, Nat.le_refl _, rfl, ⟨l, rfl, h⟩, Below.refl _ _⟩
  case round =>
    obtain ⟨j, hj, rfl, ⟨l', hl', hown⟩, hb⟩ := hrel
    by_cases hj0 : 0 < j
    · obtain ⟨j, rfl⟩ : ∃ i, j = i + 1 := ⟨j - 1, by omega⟩
      rw [show ((j + 1 : Nat) : Int) - 1 = (j : Int) from by omega]
      have hw1 : IntKind.i64.wrap (8 * (j : Int)) = 8 * (j : Int) := IntWalk.i64_in _ (by omega)
      have hw2 : (0 : Int) ≤ 8 * (j : Int) := by omega
      have hlen : l'.length ≤ 1000008 := by
        have := congrArg List.length hl'
        simp only [List.length_append, be_length] at this; omega
      have hsz := hb.size
      go_wp2_with (at_builtin; go_must (refine wpList_append_lies _ rfl _ _ _ rfl B 5 i0 _ 1 1 Tryz.underlying25 hi hz0 hz1 hz2 rfl (by omega) _ l'.length (l'.map byteV) rfl (hown.alloc _) ⟨wr.heap.size, 0, none⟩ 1 1 [_] rfl rfl (World.news_of_block (cs := #[_]) (t := 5) (fr := (0, 0)) (heap_alloc_new wr _)) (by simp [Value.oneCell']) (by omega) (by unfold maxLen; omega) (by omega) (by simp; omega) (wr.heap.size + 1) (by simp) ?_); intro gg cap w1 hown1 hgrow hat hlt1)
      go_roundw
      case rel =>
        refine ⟨j, by omega, rfl, ⟨l' ++ [UInt8.ofNat (n / 256 ^ j)], by rw [List.append_assoc]; exact hl', ?_⟩, ?_⟩
        · rw [u8_wrap'] at hown1
          unfold OwnB
          rw [List.length_append, List.map_append]
          exact hown1
        · exact (hb.alloc (by omega) _).grown hgrow (by simp; omega) (fun k hk => (hown.lt k hk).1)
      case measure => simp [intOf]
    · obtain rfl : j = 0 := by omega
      go_wp2
      go_ret
      simp only [be, List.append_nil] at hl'
      subst hl'
      exact ⟨_, rfl, hown, hb⟩
end Go.Proofs.YtgpbhjjajpbeeaaGreatDoor
