/-
  The walks of keydir's whole, readManifest.
-/
import Derived.Test.YtgpbhjjajpbeeaaGreatDoorC30
import Derived.Test.YtgpbhjjajpbeeaaGreatDoorC17
import Derived.Test.YtgpbhjjajpbeeaaGreatDoorC15
import Derived.Test.YtgpbhjjajpbeeaaGreatDoorC11
set_option linter.unusedSimpArgs false
set_option linter.unusedVariables false
set_option linter.unnecessarySimpa false
namespace Go.Proofs.YtgpbhjjajpbeeaaGreatDoor
open Go.RowKit Go.Lib Go.Maps Dk Pl

theorem size_facts (d : D) (n : Nm) : (d.size n).2.2.ids = d.ids ∧ (d.size n).2.2.node = d.node ∧ (d.size n).2.2.now = d.now ∧ ((d.size n).2.1 ≠ .ok → (d.size n).1 = 0 ∧ ∃ k, (d.size n).2.1 = .file k n) ∧
    ((d.size n).2.1 = .ok → ∃ x, (x ∈ d.now.map Prod.snd) ∧ (d.size n).1 = ((d.node x).data.length : Nat)) := by
  have hm := find_moves d n
  cases hx : (d.find n).1 with
  | none =>
    obtain ⟨k, hk⟩ := find_bad d n hx
    rw [size_bad hx]
    exact ⟨hm.2.2.1, hm.2.2.2.1, hm.2.1, fun _ => ⟨rfl, k, hk⟩, fun h => by dsimp only at h; rw [hk] at h; cases h⟩
  | some x =>
    rw [size_ok hx]
    refine ⟨hm.2.2.1, hm.2.2.2.1, hm.2.1, fun h => absurd rfl h, fun _ => ⟨x, ?_, by rw [hm.2.2.2.1]⟩⟩
    unfold D.find at hx
    split at hx
    · cases hx
    · split at hx
      · cases hx
      · rename_i y hy
        injection hx with hx; subst hx
        exact List.mem_map.2 ⟨_, aLook_mem hy, rfl⟩

set_option maxRecDepth 100000 in
set_option maxHeartbeats 800000 in
theorem whole_any (F : Nat → Prop) (a : Nat) (d : D) (name : Nm) (w : World) (h : DiskAt w F a d) (hn : name.length ≤ maxLen) (hds : ∀ x ∈ d.ids, (d.node x).data.length ≤ 35184372088832) :
    Calls Tryz.prog 55 #[nodeV a, strV name] w (ReadIs F a (d.whole name) w) := by
  have hsize := size_any F a d name w h hn
  have hsf := size_facts d name
  have hwf := h.wf
  obtain ⟨⟨k, er, d1⟩, hr⟩ : ∃ r, d.size name = r := ⟨_, rfl⟩
  have hw : (er = .ok → d.whole name = d1.readAt name 0 k) ∧ (er ≠ .ok → d.whole name = ([], er, d1)) := by
    unfold D.whole; rw [hr]
    cases er
    · exact ⟨fun _ => rfl, fun h => absurd rfl h⟩
    · exact ⟨fun h => (by cases h), fun _ => rfl⟩
    · exact ⟨fun h => (by cases h), fun _ => rfl⟩
  rw [hr] at hsize hsf
  dsimp only at hsf
  have HS := Lib.hid hsize; have HW := Lib.hid hw; clear hsize hw hr h
  unfold nodeV strV at *
  go_enter Tryz.func55, Tryz.ntmps55
  go_wp2_with fail
  refine HS.out.mono ?_
  rintro e w1 ⟨v, rfl, hv, hD, hC⟩
  cases er with
  | ok =>
    obtain rfl : v = .nilIface := hv.get
    obtain ⟨x, hx, hk⟩ := hsf.2.2.2.2 rfl
    obtain ⟨p, hp, rfl⟩ := List.mem_map.1 hx
    have hkl := hds _ (hwf.now p hp)
    have hrd := readAt_any F a d1 name 0 k w1 hD hn (by omega) (by omega) (fun x hx => by rw [hsf.2.1]; rw [hsf.1] at hx; have := hds x hx; omega)
    have HR := Lib.hid hrd; have HC := Lib.hid hC
    clear hrd hC hD hv hsf hk hx hp
    unfold nodeV strV at HR
    go_wp2_with fail
    refine HR.out.mono ?_
    rintro e w2 ⟨u, v2, rfl, hB, hv2, hD2, hC2⟩
    have hfin : ReadIs F a (d.whole name) w (.returned (.tuple #[u, v2])) w2 := by
      rw [HW.out.1 (by trivial)]
      exact ⟨u, v2, rfl, ownsRow_mono hB HC.out.size, hv2, hD2, HC.out.trans hC2⟩
    have HF := Lib.hid hfin; clear hfin hB hv2 hD2 hC2
    go_wp2
    go_ret2
    exact HF.out
  | num m =>
    obtain ⟨_, j, hj⟩ := hsf.2.2.2.1 (by simp)
    cases hj
  | file m nm =>
    obtain ⟨b, hvb, -⟩ := hv.get
    subst hvb
    have hfin : ReadIs F a (d.whole name) w (.returned (.tuple #[.slice none 0 0, .iface 132 (.pointer (some ⟨b, 0, none⟩))])) w1 := by
      rw [HW.out.2 (by simp)]
      exact ⟨_, _, rfl, ⟨rfl, Or.inl ⟨rfl, rfl⟩⟩, hv, hD, hC⟩
    have HF := Lib.hid hfin; clear hfin hv hD hC hsf
    go_wp2
    go_ret2
    exact HF.out

/-- a manifest's box, set anew -/
theorem man_sets {w : World} {b : Nat} {x0 x1 : Value} (h : BoxAt w b 125 #[x0, x1]) (g : Int) (v : Value) :
    w.frozen? ⟨b, 0, none⟩ = false ∧ (w.setCell ⟨b, 0, none⟩ (.int .u64 g)).cell? ⟨b, 1, none⟩ = some x1 ∧ (w.setCell ⟨b, 0, none⟩ (.int .u64 g)).frozen? ⟨b, 1, none⟩ = false ∧
    ((w.setCell ⟨b, 0, none⟩ (.int .u64 g)).setCell ⟨b, 1, none⟩ v).cell? ⟨b, 0, none⟩ = some (.int .u64 g) ∧ ((w.setCell ⟨b, 0, none⟩ (.int .u64 g)).setCell ⟨b, 1, none⟩ v).cell? ⟨b, 1, none⟩ = some v := by
  have h1 := h.set 0 (.int .u64 g)
  have h2 := h1.set 1 v
  refine ⟨h.free 0, ?_, h1.free 1, ?_, ?_⟩
  · rw [h1.cell]; simp
  · rw [h2.cell]; simp
  · rw [h2.cell]; simp
/-- what readManifest answers and leaves -/
def RdIs (F : Nat → Prop) (a : Nat) (r : Option (Nat × List Int) × Er × D) (w : World) (e : Ending) (w' : World) : Prop :=
  ∃ g v y, e = .returned (.tuple #[.agg #[.int .u64 g, v], y]) ∧ DiskAt w' F a r.2.2 ∧ Chg F F w w' ∧
    ((r.1 = none ∧ g = 0 ∧ v = .slice none 0 0 ∧ r.2.1 ≠ .ok ∧ Held w' F (fun W => ErrAt W y r.2.1)) ∨ (∃ gen ids, r.1 = some (gen, ids) ∧ r.2.1 = .ok ∧ g = (gen : Int) ∧ y = .nilIface ∧ OwnI w' w.heap.size v ids))

set_option maxRecDepth 100000 in
set_option maxHeartbeats 1600000 in
/-- (where nothing fails) -/
theorem kreadMan_any (F : Nat → Prop) (a : Nat) (d : D) (w : World) (h : DiskAt w F a d) (hcalm : d.Calm) (hds : ∀ x ∈ d.ids, (d.node x).data.length ≤ 35184372088832) :
    Calls Tryz.prog 54 #[nodeV a] w (RdIs F a d.readMan w) := by
  have hx0 : BoxAt (w.alloc (.cells #[.int .u64 0, .slice none 0 0] 125)) w.heap.size 125 #[.int .u64 0, .slice none 0 0] := BoxAt.new _ _ rfl
  have hE0 : Ext w (w.alloc (.cells #[.int .u64 0, .slice none 0 0] 125)) := (Ext.refl w).new _
  have hwh := whole_any F a d bManifest _ (h.ext hE0) (by unfold bManifest maxLen; simp) hds
  have hlow := h.low
  obtain ⟨⟨bs, er, d1⟩, hr⟩ : ∃ r, d.whole bManifest = r := ⟨_, rfl⟩
  have hrm : (er = .ok → d.readMan = match readMan bs with | some r => (some r, .ok, d1) | none => (none, .num 6, d1)) ∧ (er ≠ .ok → d.readMan = (none, if er.code = 11 then .num 5 else er, d1)) := by
    unfold D.readMan; rw [hr]
    cases er
    · exact ⟨fun _ => rfl, fun h => absurd rfl h⟩
    · exact ⟨fun h => (by cases h), fun _ => rfl⟩
    · exact ⟨fun h => (by cases h), fun _ => rfl⟩
  have hcl : er = .ok ∨ er = .file 11 bManifest := by
    have := hcalm.whole bManifest
    rw [hr] at this
    cases hf : d.file bManifest with
    | none => rw [hf] at this; injection this with _ h; injection h with h _; exact .inr h
    | some b => rw [hf] at this; injection this with _ h; injection h with h _; exact .inl h
  rw [hr] at hwh
  have HW := Lib.hid hwh; have HR := Lib.hid hrm; have HX := Lib.hid hx0; have HE := Lib.hid hE0; have HL := Lib.hid hlow
  clear hwh hrm hr hx0 hE0 hlow h
  unfold nodeV strV at *
  unfold bManifest at HW
  go_enter Tryz.func54, Tryz.ntmps54
  go_wp2_with fail
  refine HW.out.mono ?_
  rintro e w1 ⟨u, v, rfl, hB, hv, hD, hC⟩
  have hxb := HX.out
  have hx1 : BoxAt w1 w.heap.size 125 #[.int .u64 0, .slice none 0 0] := (hC.block _ hxb.lt (fun hF => by have := HL.out _ hF; omega)).trans hxb
  have hC1 := (Chg.ext (F := F) HE.out).trans hC
  have his := is_any er v 11 w1 hv.get (by omega)
  have hsz1 : w.heap.size ≤ w1.heap.size := hC1.size
  have hby := hB.bytes
  have c0 := (hx1.cell 0).trans (show _ = some (Value.int .u64 0) from rfl)
  have c1 := (hx1.cell 1).trans (show _ = some (Value.slice none 0 0) from rfl)
  have f0 := hx1.free 0
  have f1 := hx1.free 1
  have HIS := Lib.hid his; have HX1 := Lib.hid hx1; have HC := Lib.hid hC1; have HV := Lib.hid hv; have HD := Lib.hid hD; have HBY := Lib.hid hby
  clear his hx1 hC1 hC hD hby HX HW
  unfold errV at HIS
  cases er with
  | ok =>
    obtain rfl : v = .nilIface := HV.out.get
    have hrm := readManW_any u bs w1 HBY.out
    have HRM := Lib.hid hrm; clear hrm hv hB
    go_wp2_with fail
    refine HIS.out.mono ?_
    rintro e w2 ⟨rfl, rfl⟩
    go_wp2_with fail
    refine HRM.out.mono ?_
    rintro e w3 ⟨g, v3, y, rfl, hE3, hcase⟩
    have hx3 : BoxAt w3 w.heap.size 125 #[.int .u64 0, .slice none 0 0] := (hE3.block _ HX1.out.lt).trans HX1.out
    have d0 := (hx3.cell 0).trans (show _ = some (Value.int .u64 0) from rfl)
    have d1' := (hx3.cell 1).trans (show _ = some (Value.slice none 0 0) from rfl)
    obtain ⟨z1, z2, z3, z4, z5⟩ := man_sets hx3 g v3
    have hD3 := HD.out.ext hE3
    have hC3 := HC.out.trans (Chg.ext hE3)
    have hlowb : ∀ b, F b → b ≠ w.heap.size := fun b hb => by have := HL.out b hb; omega
    have hO := ((Off.refl w.heap.size w3).setCell 0 (.int .u64 g)).setCell 1 v3
    have hD4 := hD3.frame (fun b hb => hO.block b (hlowb b hb)) (Nat.le_of_eq hO.size.symm)
    have hC4 : Chg F F w ((w3.setCell ⟨w.heap.size, 0, none⟩ (.int .u64 g)).setCell ⟨w.heap.size, 1, none⟩ v3) :=
      ⟨hO.os.trans hC3.os, hO.tape.trans hC3.tape, hO.output.trans hC3.output, by rw [hO.size]; exact hC3.size, fun b hb hF => (hO.block b (by omega)).trans (hC3.block b hb hF), fun b hb => .inl hb⟩
    have HD4 := Lib.hid hD4; have HC4 := Lib.hid hC4; have HO := Lib.hid hO; have HX3 := Lib.hid hx3
    clear hD3 hC3 hD4 hC4 hO hx3 hlowb HD HC HV HRM HIS
    rcases hcase with ⟨hno, rfl, rfl, rfl⟩ | ⟨gen, ids, hso, rfl, rfl, hown⟩
    · have hrd : d.readMan = (none, .num 6, d1) := by rw [HR.out.1 (by trivial), hno]
      have HRD := Lib.hid hrd; clear hrd hno HR
      unfold errV
      go_wp2
      refine bodyPost_ret (v := .tuple #[.agg #[.int .u64 0, .slice none 0 0], errV 6]) (by simp [results, Tryz.results54, go_sem, z4, z5, errV]) rfl ⟨0, _, _, rfl, ?_, ?_, Or.inl ⟨?_, rfl, rfl, ?_, ?_⟩⟩
      · rw [HRD.out]; exact HD4.out
      · exact HC4.out
      · rw [HRD.out]
      · rw [HRD.out]; simp
      · rw [HRD.out]; exact held_num _ _ _
    · obtain ⟨ia, ic, hv3⟩ := ownsRow_form hown
      subst hv3
      have hrd : d.readMan = (some (gen, ids), .ok, d1) := by rw [HR.out.1 (by trivial), hso]
      have HRD := Lib.hid hrd; have HOWN := Lib.hid hown; clear hrd hso HR hown
      go_wp2
      refine bodyPost_ret (v := .tuple #[.agg #[.int .u64 gen, .slice ia ids.length ic], .nilIface]) (by simp [results, Tryz.results54, go_sem, z4, z5]) rfl ⟨_, _, _, rfl, ?_, ?_, Or.inr ⟨gen, ids, ?_, ?_, rfl, rfl, ?_⟩⟩
      · rw [HRD.out]; exact HD4.out
      · exact HC4.out
      · rw [HRD.out]
      · rw [HRD.out]
      · have hne := row_box_ne HOWN.out HX3.out (by decide)
        exact ownsRow_mono (Dep.row HOWN.out _ fun b hb => HO.out.block b fun e => hne (e ▸ hb)) hsz1
  | num m => rcases hcl with h | h <;> cases h
  | file m nm =>
    obtain ⟨fb, hvb, -⟩ := HV.out.get
    subst hvb
    obtain ⟨z1, z2, z3, z4, z5⟩ := man_sets HX1.out 0 (.slice none 0 0)
    have hlowb : ∀ b, F b → b ≠ w.heap.size := fun b hb => by have := HL.out b hb; omega
    have hO := ((Off.refl w.heap.size w1).setCell 0 (.int .u64 0)).setCell 1 (.slice none 0 0)
    have hD4 := HD.out.frame (fun b hb => hO.block b (hlowb b hb)) (Nat.le_of_eq hO.size.symm)
    have hC4 : Chg F F w ((w1.setCell ⟨w.heap.size, 0, none⟩ (.int .u64 0)).setCell ⟨w.heap.size, 1, none⟩ (.slice none 0 0)) :=
      ⟨hO.os.trans HC.out.os, hO.tape.trans HC.out.tape, hO.output.trans HC.out.output, by rw [hO.size]; exact HC.out.size, fun b hb hF => (hO.block b (by omega)).trans (HC.out.block b hb hF), fun b hb => .inl hb⟩
    obtain rfl : m = 11 := by
      rcases hcl with h | h
      · cases h
      · injection h
    have hrd : d.readMan = (none, .num 5, d1) := HR.out.2 (by simp)
    have HD4 := Lib.hid hD4; have HC4 := Lib.hid hC4; have HRD := Lib.hid hrd
    clear hD4 hC4 hrd hlowb hO HD HC HR hv hB HBY
    have hd : decide (Er.code (.file 11 nm) = 11) = true := rfl
    rw [hd] at HIS
    clear hd
    go_wp2_with fail
    refine HIS.out.mono ?_
    rintro e w2 ⟨rfl, rfl⟩
    go_wp2
    refine bodyPost_ret (v := .tuple #[.agg #[.int .u64 0, .slice none 0 0], errV 5]) (by simp [results, Tryz.results54, go_sem, z4, z5, errV]) rfl ⟨0, _, _, rfl, ?_, ?_, Or.inl ⟨?_, rfl, rfl, ?_, ?_⟩⟩
    · rw [HRD.out]; exact HD4.out
    · exact HC4.out
    · rw [HRD.out]
    · rw [HRD.out]; simp
    · rw [HRD.out]; exact held_num _ _ _
end Go.Proofs.YtgpbhjjajpbeeaaGreatDoor
/-
  The walk of keydirlaw.sameFiles, where they are the same.
-/
namespace Go.Proofs.YtgpbhjjajpbeeaaGreatDoor
open Go.RowKit Go.Lib Go.Maps Dk Pl

theorem FilesIs.drewN {w : World} {v : Value} {l : Fl} (h : FilesIs w v l) (n : Nat) : FilesIs (w.drewN n) v l := by
  obtain ⟨a, cap, rows, rfl, h1, h2, h3, h4, h5⟩ := h
  have hE := Ext.drewN w n
  refine ⟨a, cap, rows, rfl, h1, h2, h3, fun i p hp => ?_, fun i p q hp hq => ⟨(h5 i p q hp hq).1, (h5 i p q hp hq).2.ext hE⟩⟩
  obtain ⟨g, hg, c0, c1⟩ := h4 i p hp
  exact ⟨g, hg, hE.cell c0, hE.cell c1⟩

set_option maxRecDepth 100000 in
set_option maxHeartbeats 800000 in
theorem sameFiles_any (v u : Value) (l : Fl) (w : World) (h : FilesIs w v l) (h' : FilesIs w u l) : Calls Tryz.prog 34 #[v, u] w (BoolIs true w) := by
  have H := Lib.hid h; have H' := Lib.hid h'
  obtain ⟨a, cap, rows, rfl, hc, hc', hrl, -, -⟩ := h
  obtain ⟨a2, cap2, rows2, rfl, hd, hd', hrl2, -, -⟩ := h'
  go_enter Tryz.func34, Tryz.ntmps34
  go_wp2
  go_loopw [5] (fun i wr => ∃ k : Nat, k ≤ l.length ∧ i = .int .i64 k ∧ ∃ n, wr = w.drewN n) (fun i _ => l.length - (intOf i).toNat)
  case atStart => exact ⟨0, by omega, rfl, 0, rfl⟩
  case round =>
    obtain ⟨k, hk, rfl, n, hwn⟩ := hrel
    have h1 : FilesIs wr _ l := hwn ▸ H.out.drewN n
    have h2 : FilesIs wr _ l := hwn ▸ H'.out.drewN n
    have HWN := Lib.hid hwn; clear hwn
    by_cases hlt : k < l.length
    · obtain ⟨q, hq⟩ : ∃ q, l[k]? = some q := ⟨_, List.getElem?_eq_getElem hlt⟩
      obtain ⟨a1, c1, r1, e1, -, -, l1, cell1, by1⟩ := h1
      injection e1 with e1 _ e2; subst e1; subst e2
      obtain ⟨a3, c3, r3, e3, -, -, l3, cell3, by3⟩ := h2
      injection e3 with e3 _ e4; subst e3; subst e4
      obtain ⟨p1, hp1⟩ : ∃ p, r1[k]? = some p := ⟨_, List.getElem?_eq_getElem (by omega)⟩
      obtain ⟨p3, hp3⟩ : ∃ p, r3[k]? = some p := ⟨_, List.getElem?_eq_getElem (by omega)⟩
      obtain ⟨g1, rfl, x0, x1⟩ := cell1 k p1 hp1
      obtain ⟨g3, rfl, y0, y1⟩ := cell3 k p3 hp3
      obtain ⟨n1, b1⟩ := by1 k p1 q hp1 hq
      obtain ⟨n3, b3⟩ := by3 k p3 q hp3 hq
      rw [n1] at x0
      rw [n3] at y0
      have hb1 : ∀ n, Bytes (wr.drewN n) p1.2 q.2 := fun n => b1.ext (Ext.drewN wr n)
      have hb3 : ∀ n, Bytes (wr.drewN n) p3.2 q.2 := fun n => b3.ext (Ext.drewN wr n)
      have HB1 := Lib.hid hb1; have HB3 := Lib.hid hb3
      clear hb1 hb3 cell1 cell3 by1 by3 b1 b3 n1 n3 hp1 hp3 hq
      unfold strV at x0 y0
      go_wp2
      go_quiet ((refine Calls.quiet_of (v := .bool (decide (q.2 = q.2))) ?_; exact same_any _ _ q.2 q.2 _ (HB1.out _) (HB3.out _)))
      go_wp2
      go_quiet (fail)
      go_wp2
      go_roundw
      case rel => exact ⟨k + 1, by omega, by go_num, _, by rw [HWN.out, drewN_drewN]⟩
      case measure => simp [intOf]; omega
    · obtain rfl : k = l.length := by omega
      go_wp2
      go_ret
      exact ⟨rfl, n, HWN.out⟩
end Go.Proofs.YtgpbhjjajpbeeaaGreatDoor
