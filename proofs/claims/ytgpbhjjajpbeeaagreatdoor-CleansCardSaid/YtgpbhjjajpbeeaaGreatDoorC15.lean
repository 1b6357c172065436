/-
  The walks of ReadAt and Append.
-/
import Derived.Test.YtgpbhjjajpbeeaaGreatDoorC14
set_option linter.unusedSimpArgs false
set_option linter.unusedVariables false
set_option linter.unnecessarySimpa false
namespace Go.Proofs.YtgpbhjjajpbeeaaGreatDoor
open Go.RowKit Go.Lib Go.Maps Dk

/-- what ReadAt answers and leaves -/
def ReadIs (F : Nat → Prop) (a : Nat) (r : List UInt8 × Er × D) (w : World) (e : Ending) (w' : World) : Prop :=
  ∃ u v, e = .returned (.tuple #[u, v]) ∧ OwnB w' w.heap.size u r.1 ∧ Held w' F (fun W => ErrAt W v r.2.1) ∧ DiskAt w' F a r.2.2 ∧ Chg F F w w'

theorem part_eq (l : List UInt8) (at_ n : Int) (i j : Nat) (hi : (i : Int) = min (max at_ 0) l.length) (hj : (j : Int) = i + min (max n 0) (l.length - i)) : Dk.part l at_ n = (l.take j).drop i ∧ i ≤ j ∧ j ≤ l.length := by
  have h1 : min at_.toNat l.length = i := by omega
  have h2 : min n.toNat (l.length - i) = j - i := by omega
  refine ⟨?_, by omega, by omega⟩
  unfold Dk.part
  rw [h1, h2, List.drop_take]

set_option maxRecDepth 100000 in
set_option maxHeartbeats 800000 in
theorem readAt_any (F : Nat → Prop) (a : Nat) (d : D) (name : Nm) (at_ n : Int) (w : World) (h : DiskAt w F a d) (hn : name.length ≤ maxLen) (hat : -9223372036854775808 ≤ at_ ∧ at_ ≤ 9223372036854775807) (hn2 : -9223372036854775808 ≤ n ∧ n ≤ 9223372036854775807)
    (hds : ∀ x ∈ d.ids, (d.node x).data.length ≤ 140737488355328) :
    Calls Tryz.prog 68 #[nodeV a, strV name, .int .i64 at_, .int .i64 n] w (ReadIs F a (d.readAt name at_ n) w) := by
  have hfind := find_any F a d name w h hn
  have HF := Lib.hid hfind; clear hfind h
  unfold nodeV strV at *
  go_enter Tryz.func68, Tryz.ntmps68
  go_wp2_with fail
  refine HF.out.mono ?_
  intro e w1 hfi
  obtain ⟨hD, hC, hc⟩ := hfi.cases
  have hxi : ∀ x, (d.find name).1 = some x → x ∈ (d.find name).2.2.ids := fun x hx => D.find_mem d name x hx hD.wf
  rcases hc with ⟨b, k, rfl, hx, hk, hv⟩ | ⟨x, rfl, hx⟩
  · have HD := Lib.hid hD; have HC := Lib.hid hC; clear hD hC hfi
    have HV := Lib.hid hv; clear hv
    go_wp2
    go_ret2
    refine ⟨.slice none 0 0, .iface 132 (.pointer (some ⟨b, 0, none⟩)), rfl, ?_, ?_, ?_, HC.out⟩
    · rw [readAt_bad hx]; exact ⟨rfl, Or.inl ⟨rfl, rfl⟩⟩
    · rw [readAt_bad hx]; exact HV.out
    · rw [readAt_bad hx]; exact HD.out
  · have hxm := hxi x hx
    have hdl : ((d.find name).2.2.node x).data.length ≤ 140737488355328 := by
      have e := find_moves d name
      rw [e.2.2.2.1]; exact hds x (by rw [← e.2.2.1]; exact hxm)
    have HD := Lib.hid hD; have HC := Lib.hid hC; clear hC hfi
    obtain ⟨m1, m2, mv, gs, dv, hr⟩ := hD
    obtain ⟨hb, ho⟩ := hr.file x hxm
    obtain ⟨da, dc, hdv⟩ := ownsRow_form ho
    rw [hdv] at hb ho
    have hbb : Bytes w1 (.slice da ((d.find name).2.2.node x).data.length dc) ((d.find name).2.2.node x).data := OwnB.bytes ho
    have hdc : ((d.find name).2.2.node x).data.length ≤ dc ∧ dc ≤ 9223372036854775807 := by
      obtain ⟨a', c', e, h1, h2, _⟩ := hbb
      injection e with e1 e2 e3; subst e3; exact ⟨h1, h2.1⟩
    have c0 := hb.cell 0
    have hlen : (d.find name).2.2.node x = ⟨((d.find name).2.2.node x).data, ((d.find name).2.2.node x).safe⟩ := rfl
    have hlenI : ((((d.find name).2.2.node x).data.length : Nat) : Int) ≤ 140737488355328 := by omega
    obtain ⟨A, e1⟩ : ∃ A : Int, (if at_ < 0 then (0 : Int) else at_) = A := ⟨_, rfl⟩
    have hA : A = max at_ 0 := by rw [← e1]; split <;> omega
    obtain ⟨i, hi⟩ : ∃ i : Nat, (i : Int) = min (max at_ 0) ((((d.find name).2.2.node x).data.length : Nat) : Int) := ⟨(min (max at_ 0) ((((d.find name).2.2.node x).data.length : Nat) : Int)).toNat, by omega⟩
    have e2 : (if ((((d.find name).2.2.node x).data.length : Nat) : Int) < A then ((((d.find name).2.2.node x).data.length : Nat) : Int) else A) = (i : Int) := by split <;> omega
    obtain ⟨B, e3⟩ : ∃ B : Int, (if n < 0 then (0 : Int) else n) = B := ⟨_, rfl⟩
    have hB : B = max n 0 := by rw [← e3]; split <;> omega
    obtain ⟨m, hm⟩ : ∃ m : Nat, (m : Int) = min (max n 0) (((((d.find name).2.2.node x).data.length : Nat) : Int) - i) := ⟨(min (max n 0) (((((d.find name).2.2.node x).data.length : Nat) : Int) - i)).toNat, by omega⟩
    have e4 : (if ((((d.find name).2.2.node x).data.length : Nat) : Int) - i < B then ((((d.find name).2.2.node x).data.length : Nat) : Int) - i else B) = (m : Int) := by split <;> omega
    have hj : ((i + m : Nat) : Int) = i + min (max n 0) (((((d.find name).2.2.node x).data.length : Nat) : Int) - i) := by omega
    have hil : i ≤ ((d.find name).2.2.node x).data.length := by omega
    obtain ⟨hp, hij, hjl⟩ := part_eq ((d.find name).2.2.node x).data at_ n i (i + m) hi hj
    have hcl := clone_any _ _ w1 (hbb.sliced i (i + m) hij hjl) (by rw [List.length_drop, List.length_take]; omega) (by rw [List.length_drop, List.length_take]; omega)
    have hA0 : 0 ≤ A ∧ A ≤ 9223372036854775807 := by omega
    have hB0 : 0 ≤ B ∧ B ≤ 9223372036854775807 := by omega
    have hcl2 : ∀ u, u = .slice (if dc = i then da else da.map (·.add i)) m (dc - i) → Calls Tryz.prog 88 #[u] w1 (CloneIs ((((d.find name).2.2.node x).data.take (i + m)).drop i) w1) := by
      rintro _ rfl; have := hcl; rwa [show i + m - i = m by omega] at this
    have HP := Lib.hid hp; have HCL := Lib.hid hcl2; clear hcl2
    clear hr ho hb hdv hxi hbb hp hcl hlen hi hj hm hA hB hij
    generalize hL : ((d.find name).2.2.node x).data = L at *
    go_wp2_with fail
    all_goals
      refine (HCL.out _ (by first | (rename_i h; rw [if_pos h, show dc - i = 0 by omega]) | (rename_i h; rw [if_neg h]))).mono ?_
      rintro e w2 ⟨u, rfl, hu, hE⟩
      have hsz := HC.out.size
      go_wp2
      go_ret2
      refine ⟨u, .nilIface, rfl, ?_, ?_, ?_, HC.out.trans (Chg.ext hE)⟩
      · rw [readAt_ok hx, hL, HP.out]; exact ownsRow_mono hu hsz
      · rw [readAt_ok hx]; exact held_ok _ _
      · rw [readAt_ok hx]; exact HD.out.ext hE
end Go.Proofs.YtgpbhjjajpbeeaaGreatDoor
/-
  The walk of Append.
-/
namespace Go.Proofs.YtgpbhjjajpbeeaaGreatDoor
open Go.RowKit Go.Lib Go.Maps Dk

theorem sum_le_mul (f : Nat → Nat) (c : Nat) : ∀ l : List (Nm × Nat), (∀ p ∈ l, f p.2 ≤ c) → (l.map fun p => f p.2).sum ≤ l.length * c := by
  intro l
  induction l with
  | nil => intro _; simp
  | cons p l ih =>
    intro h
    have h1 := h p (by simp)
    have h2 := ih fun q hq => h q (by simp [hq])
    simp only [List.map_cons, List.sum_cons, List.length_cons, Nat.succ_mul]
    omega
theorem Ext.off {w w1 w2 : World} (h : Ext w w1) {i : Nat} (hO : Off i w1 w2) (hi : w.heap.size ≤ i) : Ext w w2 :=
  ⟨hO.os.trans h.os, hO.tape.trans h.tape, hO.output.trans h.output, by have := hO.size; have := h.size; omega, fun b hb => (hO.block b (by omega)).trans (h.block b hb)⟩
theorem BoxAt.grown' {w w' : World} {n : Nat} {t : TypeId} {cs : Array Value} (h : BoxAt w n t cs) {row : Option Nat} (hg : w.grownBy w' row) (hr : row ≠ some n) : BoxAt w' n t cs :=
  (hg.block n h.lt (fun e => hr e.symm)).trans h
def szs (d : D) (vis : List (Nm × Nat)) : Nat := (vis.map fun p => (d.node p.2).data.length).sum

set_option maxRecDepth 100000 in
set_option maxHeartbeats 800000 in
theorem append_any (F : Nat → Prop) (a : Nat) (d : D) (name : Nm) (u : Value) (l : List UInt8) (w : World) (h : DiskAt w F a d) (hb : Held w F (fun W => Bytes W u l)) (hn : name.length ≤ maxLen) (hl : l.length ≤ 35184372088832)
    (hds : ∀ x ∈ d.ids, (d.node x).data.length ≤ 35184372088832) (hnl : d.now.length ≤ 32768) :
    Calls Tryz.prog 91 #[nodeV a, strV name, u] w fun e w' => OpIs F a (d.append name l) w e w' := by
  have hfind := find_any F a d name w h hn
  obtain ⟨i0, hi, hz0, hz1, hz2⟩ := info_parts info_u8
  have HF := Lib.hid hfind; clear hfind h
  obtain ⟨ua, ucap, hu⟩ : ∃ a c, u = .slice a l.length c := by obtain ⟨a, c, h, _⟩ := hb.get; exact ⟨a, c, h⟩
  subst hu
  have HBy := Lib.hid hb; clear hb
  unfold nodeV strV at *
  go_enter Tryz.func91, Tryz.ntmps91
  go_wp2_with fail
  refine HF.out.mono ?_
  intro e w1 hfi
  obtain ⟨hD, hC, hc⟩ := hfi.cases
  have hxi : ∀ x, (d.find name).1 = some x → x ∈ (d.find name).2.2.ids := fun x hx => D.find_mem d name x hx hD.wf
  have hby1 := HBy.out.step hC
  have hfm := find_moves d name
  have hds1 : ∀ x ∈ (d.find name).2.2.ids, ((d.find name).2.2.node x).data.length ≤ 35184372088832 := by rw [hfm.2.2.1, hfm.2.2.2.1]; exact hds
  have hnl1 : (d.find name).2.2.now.length ≤ 32768 := by rw [hfm.2.1]; exact hnl
  rcases hc with ⟨b, k, rfl, hx, hk, hv⟩ | ⟨x, rfl, hx⟩
  · have HD := Lib.hid hD; have HC := Lib.hid hC; clear hD hC hfi hby1 hfm hds1 hnl1
    have HV := Lib.hid hv; clear hv
    go_wp2
    go_ret
    refine ⟨F, .iface 132 (.pointer (some ⟨b, 0, none⟩)), rfl, ?_, ?_, HC.out, fun b hb => hb⟩
    · rw [append_bad hx]; exact HV.out
    · rw [append_bad hx]; exact HD.out
  · have hxm := hxi x hx
    have hdx := hds1 x hxm
    have HX := Lib.hid hx
    have happ := append_ok (b := l) hx
    have HAP := Lib.hid happ
    have HC := Lib.hid hC; have HB1 := Lib.hid hby1; have HDS := Lib.hid hds1; have HNL := Lib.hid hnl1
    clear hC hfi hby1 hxi hfm hds1 hnl1 happ hx
    generalize hE : (d.find name).2.2 = E at *
    clear hE
    obtain ⟨m1, m2, mv, gs, dv, hr⟩ := hD
    have c0 := hr.box.cell 0
    have hnum := hr.num
    obtain ⟨w2, hrange, hRA, hExt, hsz2⟩ := hr.now.range Tryz.underlying171
    have HR := Lib.hid hr; have HRA := Lib.hid hRA; have HEX := Lib.hid hExt
    clear hr hRA hExt
    go_wp2
    go_loopw [9] (fun i wr => ∃ vis, i = .int .i64 (szs E vis : Nat) ∧ RangeAt Tryz.prog 9 strV nodeV wr w1.heap.size m1 E.now vis ∧ Ext w1 wr) (fun _ wr => E.now.length - seenOf wr w1.heap.size)
    case atStart => exact ⟨[], rfl, HRA.out, HEX.out⟩
    case round =>
      obtain ⟨vis, rfl, hRA, hEx⟩ := hrel
      have hvl := hRA.length
      have hseen := hRA.seen
      rcases hRA.next 0 with ⟨p, w3, hnx, hpm, hRA3, hO3, hent, hvlt⟩ | ⟨hnx, hperm⟩
      · have hpi := HR.out.wf.now p hpm
        have hEx3 : Ext w1 w3 := hEx.off hO3 (Nat.le_refl _)
        obtain ⟨hb, ho⟩ := (HR.out.ext hEx3).file p.2 hpi
        obtain ⟨da, dc, hdv⟩ := ownsRow_form ho
        rw [hdv] at hb
        have c1 := hb.cell 0
        have hdl := HDS.out p.2 hpi
        have hsum : szs E (vis ++ [p]) = szs E vis + (E.node p.2).data.length := by simp [szs]
        have hmem : ∀ q ∈ vis, (E.node q.2).data.length ≤ 35184372088832 := fun q hq => HDS.out q.2 (HR.out.wf.now q (hRA.mem q hq))
        have hsb : szs E vis ≤ vis.length * 35184372088832 := sum_le_mul (fun x => (E.node x).data.length) _ vis hmem
        have hnl2 := HNL.out
        have hsb2 : szs E vis ≤ 1152921504606846976 := Nat.le_trans hsb (by omega)
        have hseen3 := hRA3.seen
        have HH := Lib.hid hRA3; have HS := Lib.hid hsum; have HSN := Lib.hid hseen; have HSN3 := Lib.hid hseen3; have HE3 := Lib.hid hEx3; have HO3 := Lib.hid hO3
        clear ho hb hRA3 hsum hseen hseen3 hmem hsb hRA hO3 hEx3
        unfold strV nodeV at hnx hent
        go_wp2
        go_roundw
        case rel =>
          refine ⟨vis ++ [p], ?_, HH.out, HE3.out⟩
          rw [HS.out]; go_num
        case measure => rw [HSN.out, HSN3.out]; simp; omega
      · have hused : szs E vis = E.used := by unfold szs D.used; exact (hperm.map _).sum_nat
        have hsb : E.used ≤ E.now.length * 35184372088832 := sum_le_mul (fun x => (E.node x).data.length) _ E.now (fun q hq => HDS.out q.2 (HR.out.wf.now q hq))
        have hnl2 := HNL.out
        have hub : E.used ≤ 1152921504606846976 := Nat.le_trans hsb (by omega)
        have hRr := HR.out.ext hEx
        have c3 := hRr.box.cell 3
        obtain ⟨hb, ho⟩ := hRr.file x hxm
        obtain ⟨da, dc, hdv⟩ := ownsRow_form ho
        rw [hdv] at hb ho
        have hbx := row_box_ne ho hb (by decide)
        have d0 := hb.cell 0
        have g0 := hb.free 0
        have hby := (HB1.out.ext hEx)
        rw [hused]
        have HRR := Lib.hid hRr; have HEX2 := Lib.hid hEx; have HBX := Lib.hid hb; have HNE := Lib.hid hbx; have HDV := Lib.hid hdv; have HBYR := Lib.hid hby
        clear hRr hEx hb hbx hRA hperm hseen hsb hused hby hdv c0
        by_cases hroom : E.room - (E.used : Int) < (l.length : Int)
        · go_wp2
          go_ret
          have hE4 : Ext w1 (wr.alloc (.cells #[strV name, .int .i64 10] 134)) := HEX2.out.new _
          refine ⟨F, .iface 132 (.pointer (some ⟨wr.heap.size, 0, none⟩)), rfl, ?_, ?_, HC.out.trans (Chg.ext hE4), fun b hb => hb⟩
          · rw [HAP.out, if_pos hroom]; exact held_err HRR.out.low
          · rw [HAP.out, if_pos hroom]; exact ⟨m1, m2, mv, gs, dv, HR.out.ext hE4⟩
        · go_wp2_with (at_builtin; go_must (refine wpList_append_src rfl _ _ 25 rfl 0 5 i0 (.int .u8 0) 1 1 Tryz.underlying25 hi hz0 hz1 hz2 rfl (by omega) (.slice da (E.node x).data.length dc) (E.node x).data.length ((E.node x).data.map byteV) rfl ho (.slice ua l.length ucap) l.length (l.map byteV) rfl HBYR.out.get (by simp) (byteV_one l) (by unfold maxLen; omega) (by omega) (by omega) ?_); intro b6 c6 w6 hown6 hgrow6 hat6; have hb6 := HBX.out.grown' hgrow6 HNE.out; have d6 := BoxAt.cell hb6 0; have g6 := BoxAt.free hb6 0; have HB6 := Lib.hid hb6; clear hb6)
          go_ret
          have hlen : ((E.node x).data ++ l).length = (E.node x).data.length + l.length := by simp
          have hne6 : (Value.slice b6 ((E.node x).data.length + l.length) c6).ownBlock ≠ some x := row_box_ne hown6 HB6.out (by decide)
          have hR2 := HRR.out.node' (w' := w6.setCell ⟨x, 0, none⟩ (.slice b6 ((E.node x).data.length + l.length) c6)) hxm
            (fun b hb hne hno => (Below.heap_setCell _ _ _ _ hne).trans (hgrow6.block b hb (fun e => hno (by rw [HDV.out]; exact e.symm))))
            (by simpa [World.setCell] using hgrow6.size) (HB6.out.set 0 _) (l := (E.node x).data ++ l)
            (by unfold OwnB; rw [hlen, List.map_append]; exact ownsRow_setCell_other (a := ⟨x, 0, none⟩) hown6 hne6 _)
            (fun b hb => by rw [HDV.out]; rcases hat6 with h | h <;> rw [h] at hb; (exact .inl hb); (injection hb with hb; exact .inr (Nat.le_of_eq hb)))
            (by rw [hlen]; have := HRR.out.wf.part x hxm; omega) (G := fun b => F b ∨ wr.heap.size ≤ b ∧ b < w6.heap.size) (fun b => by simp [World.setCell])
          have hxF := HRR.out.fx x hxm
          rw [HDV.out] at hxF
          have hC2 : Chg F (fun b => F b ∨ wr.heap.size ≤ b ∧ b < w6.heap.size) wr (w6.setCell ⟨x, 0, none⟩ (.slice b6 ((E.node x).data.length + l.length) c6)) :=
            ⟨hgrow6.os, hgrow6.tape, hgrow6.output, by simpa [World.setCell] using hgrow6.size, fun b hb hF => (Below.heap_setCell _ _ _ _ (fun e => hF (by rw [show b = x from e]; exact hxF.1))).trans (hgrow6.block b hb (fun e => hF (hxF.2 b e.symm))), fun b hb => hb.elim .inl fun h => .inr h.1⟩
          refine ⟨_, .nilIface, rfl, ?_, ?_, HC.out.trans ((Chg.ext HEX2.out).trans hC2), fun b hb => .inl hb⟩
          · rw [HAP.out, if_neg (by omega)]; exact held_ok _ _
          · rw [HAP.out, if_neg (by omega)]; exact ⟨m1, m2, mv, gs, _, hR2⟩
end Go.Proofs.YtgpbhjjajpbeeaaGreatDoor
