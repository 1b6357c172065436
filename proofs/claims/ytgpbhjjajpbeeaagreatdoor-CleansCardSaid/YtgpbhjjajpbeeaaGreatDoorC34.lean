/-
  The walk of Crash.
-/
import Derived.Test.YtgpbhjjajpbeeaaGreatDoorC16
import Derived.BigQuiet
import Derived.BigRegion
set_option linter.unusedSimpArgs false
set_option linter.unusedVariables false
set_option linter.unnecessarySimpa false
namespace Go.Proofs.YtgpbhjjajpbeeaaGreatDoor
open Go.RowKit Go.Lib Go.Maps Dk

section
variable {w w' : World} {F : Nat → Prop} {a m1 m2 : Nat} {mv : Value} {gs : List Nat} {dv : Nat → Value} {d : D}
/-- another map of names, empty; no moves; nothing fails -/
theorem DiskRep.fresh (h : DiskRep w F a m1 m2 mv gs dv d) : DiskRep (((((w.alloc (.map #[] 0)).setCell ⟨a, 0, none⟩ (.map (some w.heap.size))).setCell ⟨a, 2, none⟩ (.slice none 0 0)).setCell ⟨a, 4, none⟩ (.int .i64 0)).setCell ⟨a, 5, none⟩ (.int .i64 0))
    (fun b => F b ∨ b = w.heap.size) a w.heap.size m2 (.slice none 0 0) [] dv { d with now := [], moves := [], wait := 0, bad := 0 } := by
  have hE : Ext w (w.alloc (.map #[] 0)) := (Ext.refl w).new _
  have h1 := h.ext hE
  have hb := h1.box
  have hO := ((((Off.refl a (w.alloc (.map #[] 0))).setCell 0 (.map (some w.heap.size))).setCell 2 (.slice none 0 0)).setCell 4 (.int .i64 0)).setCell 5 (.int .i64 0)
  have hlow := h.low
  have hba : a ≠ w.heap.size := by have := hlow a h.fa; omega
  exact {
    box := by
      have := (((hb.set 0 (.map (some w.heap.size))).set 2 (.slice none 0 0)).set 4 (.int .i64 0)).set 5 (.int .i64 0)
      simpa using this
    now := (MapOf.made w).off hO (Ne.symm hba)
    safe := h1.safe.off hO (h1.map_ne hb).2
    ne := by have := hlow m2 h.fm.2; omega
    rows := ⟨rfl, by simp⟩
    outer := ⟨rfl, Or.inl ⟨rfl, rfl⟩⟩
    file := fun x hx => ⟨(hO.block x (box_ne (h1.file x hx).1 hb (by decide))).trans (h1.file x hx).1, Dep.row (h1.file x hx).2 _ fun b hb' => hO.block b (fun e => row_box_ne (h1.file x hx).2 hb (by decide) (e ▸ hb'))⟩
    apart := h.apart
    fa := .inl h.fa
    fm := ⟨.inr rfl, .inl h.fm.2⟩
    fg := by simp
    fo := by simp [Value.ownBlock]
    fx := fun x hx => ⟨.inl (h.fx x hx).1, fun b hb' => .inl ((h.fx x hx).2 b hb')⟩
    low := fun b hb' => by
      rw [hO.size]; simp
      rcases hb' with h' | h'
      · have := hlow b h'; omega
      · omega
    wf := ⟨by simp, h.wf.safe, by simp, h.wf.part, h.wf.ids⟩
    num := ⟨by simp, by simp, h.num.2.2⟩ }
end

theorem own_len (a : Option Addr) (n m c : Nat) : (Value.slice a n c).ownBlock = (Value.slice a m c).ownBlock := by
  cases a <;> rfl
/-- what Crash leaves -/
def CrashIs (F : Nat → Prop) (a : Nat) (d : D) (dir tail : Nat) (w : World) (e : Ending) (w' : World) : Prop :=
  e = .returned (.tuple #[]) ∧ ∃ F' vis, vis.Perm (d.stepped dir) ∧ DiskAt w' F' a (d.crashed dir tail vis) ∧ Chg F F' w w' ∧ ∀ b, F b → F' b

set_option maxRecDepth 100000 in
set_option maxHeartbeats 400000 in
theorem crash_any (F : Nat → Prop) (a : Nat) (d : D) (dir tail : Nat) (w : World) (h : DiskAt w F a d) (hml : d.moves.length ≤ 1000000) (hms : ∀ l ∈ d.moves, l.length ≤ 1000000 ∧ ∀ m ∈ l, m.1.length ≤ maxLen)
    (hnm : ∀ p ∈ d.stepped dir, p.1.length ≤ maxLen) (hds : ∀ x ∈ d.ids, (d.node x).data.length ≤ 35184372088832) (hdir : dir < 18446744073709551616) (htail : tail < 18446744073709551616) :
    Calls Tryz.prog 36 #[nodeV a, .int .u64 dir, .int .u64 tail] w (CrashIs F a d dir tail w) := by
  obtain ⟨m1, m2, mv, gs, dv, hr⟩ := h
  obtain ⟨mva, mvc, rfl⟩ := ownsRow_form hr.outer
  have hcap : d.moves.length ≤ mvc ∧ mvc ≤ maxLen := by
    rcases hr.outer.2 with ⟨e, h0⟩ | ⟨g, c, cur, e, _, _, h3, h4, _⟩
    · injection e with e1 e2 e3; subst e3; exact ⟨by omega, by omega⟩
    · injection e with e1 e2 e3; subst e3; exact ⟨h3, h4⟩
  have hmax : maxLen ≤ 9223372036854775807 := by unfold maxLen; omega
  have c2 := hr.box.cell 2
  have c1 := hr.box.cell 1
  obtain ⟨k, hk⟩ : ∃ k, dir % (d.moves.length + 1) = k := ⟨_, rfl⟩
  have hkl : k ≤ d.moves.length := by have := Nat.mod_lt dir (show 0 < d.moves.length + 1 by omega); omega
  have e1 : ((dir : Int).tmod (((d.moves.length + 1 : Nat)) : Int)) = (k : Int) := by rw [← hk]; exact (Int.ofNat_tmod dir (d.moves.length + 1)).symm
  have e1' : ((dir : Int).tmod ((d.moves.length : Int) + 1)) = (k : Int) := by rw [← e1]; simp
  have hst : d.stepped dir = (d.moves.take k).foldl setMoves d.safe := by unfold D.stepped; rw [hk]
  have HR := Lib.hid hr; have HM := Lib.hid hms; have HNM := Lib.hid hnm; have HDS := Lib.hid hds; have HST := Lib.hid hst
  clear hr hms hnm hds hst
  unfold nodeV
  go_enter Tryz.func36, Tryz.ntmps36
  go_wp2
  go_loopw [29] (fun i wr => ∃ j : Nat, j ≤ k ∧ i = .int .i64 j ∧ DiskRep wr F a m1 m2 (.slice mva d.moves.length mvc) gs dv { d with safe := (d.moves.take j).foldl setMoves d.safe } ∧ Chg F F w wr) (fun i _ => k - (intOf i).toNat)
  case atStart => exact ⟨0, Nat.zero_le _, rfl, HR.out, Chg.refl _ _⟩
  case round =>
    obtain ⟨j, hj, rfl, hr, hC⟩ := hrel
    have d1 := hr.box.cell 1
    by_cases hlt : j < k
    · obtain ⟨l, hm⟩ : ∃ l, d.moves[j]? = some l := ⟨_, List.getElem?_eq_getElem (by omega)⟩
      obtain ⟨b, c, g, hbc, hcell, hrow⟩ := hr.outer_cell hm
      injection hbc with hb1 hb2 hb3
      subst hb1
      have hml := HM.out l (List.mem_of_getElem? hm)
      have hset := set_any m2 g _ l wr hr.safe hrow hml.2 hml.1
      have htk : d.moves.take (j + 1) = d.moves.take j ++ [l] := by rw [List.take_add_one, hm]; rfl
      have HT := Lib.hid htk; have HRR := Lib.hid hr; have HC2 := Lib.hid hC; have HS := Lib.hid hset; have HLM := Lib.hid (List.mem_of_getElem? hm)
      clear htk hr hC hset hrow hml hm hb2 hb3
      unfold mvV at hcell HS
      go_wp2_with fail
      refine HS.out.mono ?_
      rintro e w3 ⟨rfl, hN3, hC3⟩
      have HN3 := Lib.hid hN3; have HC3 := Lib.hid hC3; clear hN3 hC3
      go_wp2
      go_roundw
      case rel =>
        have hids : ∀ p ∈ setMoves ((d.moves.take j).foldl setMoves d.safe) l, p.2 ∈ d.ids := by
          intro p hp
          rcases mem_setMoves hp with hp | ⟨x, hx, e⟩
          · rcases foldl_setMoves_mem hp with hp | ⟨q, hq, x, hx, e⟩
            · exact HR.out.wf.safe p hp
            · exact HR.out.wf.moves q (List.mem_of_mem_take hq) x hx _ e
          · exact HR.out.wf.moves l HLM.out x hx _ e
        have hR3 := HRR.out.safe' (fun b hb hne => HC3.out.block b hb hne) HC3.out.size HN3.out hids
        refine ⟨j + 1, by omega, by go_num, ?_, ?_⟩
        · rw [HT.out, List.foldl_append]; exact hR3
        · exact HC2.out.trans ⟨HC3.out.os, HC3.out.tape, HC3.out.output, HC3.out.size, fun b hb hF => HC3.out.block b hb (fun e => hF (e ▸ HRR.out.fm.2)), fun b hb => .inl hb⟩
      case measure => simp [intOf]; omega
    · obtain rfl : j = k := by omega
      rw [← HST.out] at hr
      obtain ⟨E, hE⟩ : ∃ E : D, E = { d with safe := d.stepped dir } := ⟨_, rfl⟩
      have hEw : d.wait = E.wait ∧ d.bad = E.bad ∧ d.room = E.room := by rw [hE]; exact ⟨rfl, rfl, rfl⟩
      rw [← hE] at hr
      have d0 := hr.box.cell 0
      have g0 := hr.box.free 0
      have g2 := hr.box.free 2
      have g4 := hr.box.free 4
      have g5 := hr.box.free 5
      have hf := hr.fresh
      obtain ⟨w6, hrange, hRA, hExt, hsz6⟩ := hf.safe.range Tryz.underlying171
      have hbs : (((((wr.alloc (.map #[] 0)).setCell ⟨a, 0, none⟩ (.map (some wr.heap.size))).setCell ⟨a, 2, none⟩ (.slice none 0 0)).setCell ⟨a, 4, none⟩ (.int .i64 0)).setCell ⟨a, 5, none⟩ (.int .i64 0)).heap.size = wr.heap.size + 1 := by simp [World.setCell]
      rw [hbs] at hrange hRA hsz6
      have bx1 := (hr.ext ((Ext.refl wr).new (.map #[] 0))).box
      have bx2 := bx1.set 0 (.map (some wr.heap.size))
      have bx3 := bx2.set 2 (.slice none 0 0)
      have bx4 := bx3.set 4 (.int .i64 0)
      have bx5 := bx4.set 5 (.int .i64 0)
      have x1 := (bx1.cell 0).trans (show _ = some (Value.map (some m1)) from by simp); have y1 := bx1.free 0
      have x2 := (bx2.cell 2).trans (show _ = some (Value.slice mva d.moves.length mvc) from by simp); have y2 := bx2.free 2
      have x3 := (bx3.cell 4).trans (show _ = some (Value.int .i64 E.wait) from by simp); have y3 := bx3.free 4
      have x4 := (bx4.cell 5).trans (show _ = some (Value.int .i64 E.bad) from by simp); have y4 := bx4.free 5
      have x5 := (bx5.cell 1).trans (show _ = some (Value.map (some m2)) from by simp)
      have HRR := Lib.hid hr; have HC2 := Lib.hid hC; have HF := Lib.hid hf; have HRA := Lib.hid hRA; have HEX := Lib.hid hExt; have HEE := Lib.hid hE; have HRG := Lib.hid hrange
      clear hr hC hf hRA hExt hE hEw hbs bx1 bx2 bx3 bx4 bx5 g0 g2 g4 g5 d1 hrange
      have hmm := @run_makeMap Tryz.prog
      go_wp21
      rw [HRG.out]
      clear x1 x2 x3 x4 x5 y1 y2 y3 y4 hmm HRG c1 c2 d0
      go_wp2
      obtain ⟨nz, hnz⟩ : ∃ nz, wr.heap.size = nz := ⟨_, rfl⟩
      have h6 := HF.out.ext HEX.out
      have hra6 := HRA.out
      have hlz := HRR.out.low
      have hcz : w6.heap.size = nz + 2 := by omega
      rw [hnz] at h6 hra6 hlz ⊢
      have H6 := Lib.hid h6; have HRA6 := Lib.hid hra6; have HLZ := Lib.hid hlz; have HCZ := Lib.hid hcz
      clear h6 hra6 hlz hcz
      go_loopw [] (fun wq => ∃ vis dv', RangeAt Tryz.prog 9 strV nodeV wq (nz + 1) m2 E.safe vis ∧ DiskRep wq (fun b => F b ∨ b = nz) a nz m2 (.slice none 0 0) [] dv' { E with now := vis, moves := [], wait := 0, bad := 0, node := E.cutAt tail vis } ∧ Chg (fun b => F b ∨ b = nz ∨ b = nz + 1) (fun b => F b ∨ b = nz ∨ b = nz + 1) w6 wq) (fun wq => E.safe.length - seenOf wq (nz + 1))
      case atStart =>
        refine ⟨[], dv, HRA6.out, ?_, Chg.refl _ _⟩
        have e0 : E.cutAt tail [] = E.node := by funext x; simp [D.cutAt]
        rw [e0]; exact H6.out
      case round =>
        obtain ⟨vis, dv', hRA, hR, hC⟩ := hrel
        have hvl := hRA.length
        have hseen := hRA.seen
        rcases hRA.next 0 with ⟨p, w3, hnx, hpm, hRA3, hO3, hent, hvlt⟩ | ⟨hnx, hperm⟩
        · have hnq : ¬ (F (nz + 1) ∨ nz + 1 = nz) := by
            rintro (h | h)
            · have h1 : nz + 1 < nz := HLZ.out _ h
              omega
            · omega
          have hR3 : DiskRep w3 (fun b => F b ∨ b = nz) a nz m2 (.slice none 0 0) [] dv' { E with now := vis, moves := [], wait := 0, bad := 0, node := E.cutAt tail vis } :=
            hR.frame (fun b hb => hO3.block b (fun e => hnq (by rw [e] at hb; exact hb))) (Nat.le_of_eq hO3.size.symm)
          have hpi : p.2 ∈ E.ids := H6.out.wf.safe p hpm
          have hwf := hR3.wf.part p.2 hpi
          obtain ⟨n0, hn0⟩ : ∃ n0, E.cutAt tail vis p.2 = n0 := ⟨_, rfl⟩
          have hb : BoxAt w3 p.2 176 #[dv' p.2, .int .i64 n0.safe] := by rw [← hn0]; exact (hR3.file p.2 hpi).1
          have ho : OwnB w3 0 (dv' p.2) n0.data := by rw [← hn0]; exact (hR3.file p.2 hpi).2
          have hwf' : n0.safe ≤ n0.data.length := by rw [← hn0]; exact hwf
          have hsz : n0.data.length ≤ 35184372088832 := by
            have h1 : (E.node p.2).data.length ≤ 35184372088832 := by
              have h2 : E.node = d.node ∧ E.ids = d.ids := by rw [HEE.out]; exact ⟨rfl, rfl⟩
              rw [h2.1]; exact HDS.out _ (h2.2 ▸ hpi)
            rw [← hn0]
            unfold D.cutAt
            split
            · simp only [Dk.cut, List.length_take]; omega
            · exact h1
          obtain ⟨da, dc, hdv⟩ := ownsRow_form ho
          have hcap2 : n0.data.length ≤ dc ∧ dc ≤ maxLen := by
            have h2 := ho.2
            rw [hdv] at h2
            rcases h2 with ⟨e, h0⟩ | ⟨g, c, cur, e, _, _, h3, h4, _⟩
            · injection e with e1 e2 e3; subst e3; exact ⟨by omega, by omega⟩
            · injection e with e1 e2 e3; subst e3; exact ⟨h3, h4⟩
          rw [hdv] at hb
          have q0 := hb.cell 0
          have q1 := hb.cell 1
          have g0 := hb.free 0
          have g1 := hb.free 1
          obtain ⟨r, hr⟩ : ∃ r, tail % (n0.data.length - n0.safe + 1) = r := ⟨_, rfl⟩
          have hrl : r ≤ n0.data.length - n0.safe := by have := Nat.mod_lt tail (show 0 < n0.data.length - n0.safe + 1 by omega); omega
          have hm1 : (tail : Int).tmod ((n0.data.length : Int) - (n0.safe : Int) + 1) = (r : Int) := by
            rw [← hr, show ((n0.data.length : Int) - (n0.safe : Int) + 1) = ((n0.data.length - n0.safe + 1 : Nat) : Int) by omega]
            exact (Int.ofNat_tmod tail _).symm
          have HH := Lib.hid hRA3; have HSN := Lib.hid hseen; have HR3 := Lib.hid hR3; have HB := Lib.hid hb; have HO := Lib.hid ho; have HDV := Lib.hid hdv; have HC4 := Lib.hid hC; have HO3 := Lib.hid hO3; have HN0 := Lib.hid hn0; have HRR2 := Lib.hid hr; have HPM := Lib.hid hpm; have HWF := Lib.hid hwf'
          clear hRA3 hseen hR3 hb ho hdv hC hO3 hn0 hr hRA hR hpm hnq hwf
          unfold strV nodeV at hnx hent
          go_wp2
          go_quiet (fail)
          go_wp2
          have hE4 : Ext w3 (w3.drewN nq).drew := Ext.trans (Ext.drewN w3 nq) (Ext.drewN _ 1)
          have hb4 : BoxAt (w3.drewN nq).drew p.2 176 #[.slice da n0.data.length dc, .int .i64 n0.safe] := (hE4.block _ HB.out.lt).trans HB.out
          have u0 := (hb4.cell 0).trans (show _ = some (Value.slice da n0.data.length dc) from rfl)
          have u1 := (hb4.cell 1).trans (show _ = some (Value.int .i64 n0.safe) from rfl)
          have v0 := hb4.free 0
          obtain ⟨k, hkk⟩ : ∃ k, n0.safe + r = k := ⟨_, rfl⟩
          have hsum : ((n0.safe : Int) + (r : Int)) = (k : Int) := by omega
          have hkl : k ≤ n0.data.length := by omega
          have HKK := Lib.hid hkk; clear hkk
          have hb5 := hb4.set 0 (.slice da k dc)
          have u2 := (hb5.cell 0).trans (show _ = some (Value.slice da k dc) from by simp)
          have v1 := hb5.free 1
          have u3 := (hb5.cell 1).trans (show _ = some (Value.int .i64 n0.safe) from by simp)
          have HU := Lib.hid hb4; have HV := Lib.hid hb5
          clear hnx hent hm1 hb4 hb5 u2 v1 u3
          trace_state
          go_region
          clear u0 u1 v0 q0 q1 g0 g1
          have hE5 : Ext w3 (w3.drewN (nq + 1)) := Ext.drewN w3 (nq + 1)
          have hb5 : BoxAt ((w3.drewN (nq + 1)).setCell ⟨p.2, 0, none⟩ (.slice da k dc)) p.2 176 #[.slice da k dc, .int .i64 n0.safe] := by
            have := BoxAt.set ((hE5.block _ HB.out.lt).trans HB.out) 0 (.slice da k dc)
            simpa using this
          have hb6 : BoxAt (((w3.drewN (nq + 1)).setCell ⟨p.2, 0, none⟩ (.slice da k dc)).setCell ⟨p.2, 1, none⟩ (.int .i64 k)) p.2 176 #[.slice da k dc, .int .i64 k] := by
            have := hb5.set 1 (.int .i64 k)
            simpa using this
          have u0 := (hb5.cell 0).trans (show _ = some (Value.slice da k dc) from rfl)
          have u1 := (hb5.cell 1).trans (show _ = some (Value.int .i64 n0.safe) from rfl)
          have v1 := hb5.free 1
          have hO6 : Off p.2 w3 (((w3.drewN (nq + 1)).setCell ⟨p.2, 0, none⟩ (.slice da k dc)).setCell ⟨p.2, 1, none⟩ (.int .i64 k)) := ((Off.drewN p.2 w3 (nq + 1)).setCell 0 _).setCell 1 _
          have hne := row_box_ne HO.out HB.out (by decide)
          have hown : OwnB (((w3.drewN (nq + 1)).setCell ⟨p.2, 0, none⟩ (.slice da k dc)).setCell ⟨p.2, 1, none⟩ (.int .i64 k)) 0 (.slice da k dc) (n0.data.take k) := by
            have h1 := HO.out
            rw [HDV.out] at h1
            refine Dep.row (OwnB.take h1 hkl) _ fun b hb => hO6.block b fun e => hne ?_
            rw [HDV.out, own_len _ _ k, ← e]; exact hb
          have hR6 := HR3.out.node' (x := p.2) hpi (fun b _ hb _ => hO6.block b hb) (Nat.le_of_eq hO6.size.symm) hb6 hown (fun b hb => .inl (by rw [HDV.out, own_len _ _ k]; exact hb)) (by rw [List.length_take]; omega)
            (G := fun b => F b ∨ b = nz) (fun b => ⟨.inl, fun h => h.elim id fun h => by have := hO6.size; omega⟩)
          have hkey : p.1.length ≤ maxLen := HNM.out p (by
            have := HPM.out
            rw [HEE.out] at this; exact this)
          obtain ⟨w7, hrun, hN7, hO7⟩ := hR6.now.store keyedStr strV_inj Tryz.underlying171 (keyStr hkey) p.2
          have hbx6 := hR6.box
          have z0 := (hbx6.cell 0).trans (show _ = some (Value.map (some nz)) from rfl)
          have HR6 := Lib.hid hR6; have HN7 := Lib.hid hN7; have HO7 := Lib.hid hO7; have HO6 := Lib.hid hO6
          clear hR6 hN7 hO7 hO6 hbx6 hb5 hb6 hE5 hown hne
          unfold strV nodeV at hrun
          go_wp2
          have hR7 := HR6.out.now' (fun b _ hb => HO7.out.block b hb) (Nat.le_of_eq HO7.out.size.symm) HN7.out (by
            intro q hq
            rcases aPut_mem hq with rfl | hq
            · exact hpi
            · exact HR6.out.wf.now q hq)
          have hra7 : RangeAt Tryz.prog 9 strV nodeV w7 (nz + 1) m2 E.safe (vis ++ [p]) := by
            have hm2 : m2 ≠ nz := by
              have := HLZ.out m2 (HRR.out.fm.2); omega
            have hxs := HLZ.out p.2 (H6.out.fx p.2 hpi |>.1.elim id fun e => by
              have := HRR.out.low p.2 (HRR.out.fx p.2 hpi).1
              omega)
            refine HH.out.block ((HO7.out.block _ (by omega)).trans (HO6.out.block _ (by omega))) ((HO7.out.block _ hm2).trans (HO6.out.block _ fun e => ?_))
            exact (HR3.out.map_ne HB.out).2 e
          have hnd := hra7.nodup HRR.out.safe.nodup
          have hput : aPut vis p.1 p.2 = vis ++ [p] := aPut_new (p := p) (by
            rw [List.map_append, List.nodup_append] at hnd
            intro hm
            exact hnd.2.2 p.1 hm p.1 (by simp) rfl)
          have hnode : upd (E.cutAt tail vis) p.2 ⟨n0.data.take k, k⟩ = E.cutAt tail (vis ++ [p]) := by
            rw [← cutAt_snoc E tail vis p (HRR.out.wf.part p.2 hpi), HN0.out]
            have : Dk.cut tail n0 = ⟨n0.data.take k, k⟩ := by
              unfold Dk.cut
              rw [HRR2.out, HKK.out]
            rw [this]
          refine ⟨⟨vis ++ [p], fun i => if i = p.2 then .slice da k dc else dv' i, hra7, ?_, ?_⟩, ?_⟩
          · have e : ({ ({ E with now := vis, moves := [], wait := 0, bad := 0, node := E.cutAt tail vis } : D).setNode p.2 ⟨n0.data.take k, k⟩ with now := vis ++ [p] } : D) = { E with now := vis ++ [p], moves := [], wait := 0, bad := 0, node := E.cutAt tail (vis ++ [p]) } := by
              rw [← hnode]; rfl
            rw [← e, ← hput]; exact hR7
          · have hx : F p.2 := HRR.out.fx p.2 hpi |>.1
            refine HC4.out.trans ((Chg.off HO3.out (by simp)).trans ((Chg.off HO6.out (.inl hx)).trans (Chg.off HO7.out (by simp))))
          · rw [HSN.out, hra7.seen]; simp; omega
        · have hfin : CrashIs F a d dir tail w (.returned (.tuple #[])) wr := by
            have hE := HEE.out
            have hch : Chg F (fun b => F b ∨ b = nz ∨ b = nz + 1) w wr := by
              refine HC2.out.trans (Chg.trans (F' := fun b => F b ∨ b = nz ∨ b = nz + 1) ?_ ((Chg.ext HEX.out).trans hC))
              refine ⟨rfl, rfl, rfl, by simp [World.setCell], fun b hb hF => ?_, fun b hb => ?_⟩
              · have hba : a ≠ b := fun e => hF (e ▸ HRR.out.fa)
                simp [World.setCell, Array.getElem?_modify, hba]
                exact heap_alloc_old _ _ hb
              · rcases hb with h | h | h
                · exact .inl h
                · exact .inr (by omega)
                · exact .inr (by omega)
            refine ⟨rfl, fun b => F b ∨ b = nz, vis, ?_, ⟨nz, m2, .slice none 0 0, [], dv', ?_⟩, ⟨hch.os, hch.tape, hch.output, hch.size, hch.block, fun b hb => hch.grow b (by rcases hb with h | h <;> simp [h])⟩, fun b hb => .inl hb⟩
            · rw [hE] at hperm; exact hperm
            · have e : d.crashed dir tail vis = { E with now := vis, moves := [], wait := 0, bad := 0, node := E.cutAt tail vis } := by rw [hE]; rfl
              rw [e]; exact hR
          have HFIN := Lib.hid hfin; clear hfin hR hRA hC hperm
          go_wp2
          go_end0
          exact HFIN.out
end Go.Proofs.YtgpbhjjajpbeeaaGreatDoor
