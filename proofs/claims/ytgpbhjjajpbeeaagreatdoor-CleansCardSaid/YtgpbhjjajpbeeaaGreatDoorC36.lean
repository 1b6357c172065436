/-
  The walk of keydirlaw.Cleans: true, of any directory, whatever a crash takes.
-/
import Derived.Test.YtgpbhjjajpbeeaaGreatDoorC28
import Derived.Test.YtgpbhjjajpbeeaaGreatDoorC29
import Derived.Test.YtgpbhjjajpbeeaaGreatDoorC33
import Derived.Test.YtgpbhjjajpbeeaaGreatDoorC34
import Derived.Test.YtgpbhjjajpbeeaaGreatDoorC26
import Derived.Test.YtgpbhjjajpbeeaaGreatDoorC35
set_option linter.unusedSimpArgs false
set_option linter.unusedVariables false
set_option linter.unnecessarySimpa false
namespace Go.Proofs.YtgpbhjjajpbeeaaGreatDoor
open Go.RowKit Go.Lib Go.Maps Dk Pl

theorem LaidP.held {w : World} (h : LaidP w) : Held w (fun _ => False) LaidP := by
  cases hg : Program.globalNamed Tryz.prog "internal/strconv.uint64pow10" with
  | none => unfold LaidP Lib.TabIs World.var? at h; simp [hg] at h
  | some g =>
    have h' := h
    unfold LaidP Lib.TabIs World.var? at h'
    simp only [hg, Option.bind_some] at h'
    have hlt : g < w.heap.size := by
      rcases Nat.lt_or_ge g w.heap.size with h1 | h1
      · exact h1
      · rw [Array.getElem?_eq_none h1] at h'; cases h'
    refine .of (S := fun b => b = g) (fun w' hw => ?_) fun b e => by subst e; exact ⟨hlt, id⟩
    unfold LaidP Lib.TabIs World.var?
    simp only [hg, Option.bind_some]
    rw [hw g rfl]; exact h'
theorem clean_cases {d : D} (h : d.Calm) :
    (d.file bManifest = none ∧ d.clean = (.num 5, d)) ∨ (∃ bs, d.file bManifest = some bs ∧ readMan bs = none ∧ d.clean = (.num 6, d)) ∨ (∃ bs g ids, d.file bManifest = some bs ∧ readMan bs = some (g, ids) ∧ d.clean = d.sweep ids) := by
  have hr := h.readMan
  cases hf : d.file bManifest with
  | none => rw [hf] at hr; dsimp only at hr; exact .inl ⟨rfl, by unfold D.clean; rw [hr]⟩
  | some bs =>
    rw [hf] at hr; dsimp only at hr
    cases hk : readMan bs with
    | none => rw [hk] at hr; dsimp only at hr; exact .inr (.inl ⟨bs, rfl, hk, by unfold D.clean; rw [hr]⟩)
    | some r => rw [hk] at hr; dsimp only at hr; exact .inr (.inr ⟨bs, r.1, r.2, rfl, hk, by unfold D.clean; rw [hr]⟩)

def CTrueIs (w : World) (e : Ending) (w' : World) : Prop := e = .returned (.bool true) ∧ Ext w w'
set_option maxRecDepth 100000 in
set_option maxHeartbeats 3200000 in
theorem cleans_any (v : Value) (d : Dr) (dir tail : Nat) (w : World) (h : DrAt w v d) (hf : d.Fits 281474976710656) (hL : Laid w) (hP : LaidP w) (hdir : dir < 18446744073709551616) (htail : tail < 18446744073709551616) :
    Calls Tryz.prog 6 #[v, .int .u64 dir, .int .u64 tail] w (CTrueIs w) := by
  obtain ⟨v0, v1, v3, rfl, -⟩ := id h
  obtain ⟨w0, hw0⟩ : ∃ w0, w.alloc (.cells #[v0, v1, .int .u64 d.gen, v3, .bool d.whole, .bool d.without] 27) = w0 := ⟨_, rfl⟩
  have hb0 : BoxAt w0 w.heap.size 27 #[v0, v1, .int .u64 d.gen, v3, .bool d.whole, .bool d.without] := hw0 ▸ BoxAt.new _ _ rfl
  have hEw : Ext w w0 := hw0 ▸ (Ext.refl w).new _
  have hsm := small_any _ d w0 (h.ext hEw) hf
  have b0 := (hb0.cell 0).trans (show _ = some v0 from rfl)
  have b1 := (hb0.cell 1).trans (show _ = some v1 from rfl)
  have b2 := (hb0.cell 2).trans (show _ = some (Value.int .u64 d.gen) from rfl)
  have b3 := (hb0.cell 3).trans (show _ = some v3 from rfl)
  have b4 := (hb0.cell 4).trans (show _ = some (Value.bool d.whole) from rfl)
  have b5 := (hb0.cell 5).trans (show _ = some (Value.bool d.without) from rfl)
  have HSM := Lib.hid hsm; have HW0 := Lib.hid hw0; have HEW := Lib.hid hEw; have HH := Lib.hid (h.ext hEw); have HL := Lib.hid (hL.ext hEw); have HP := Lib.hid (hP.ext hEw)
  have HB0 := Lib.hid hb0
  clear hsm hw0 hEw h hL hP hf hb0
  go_enter Tryz.func6, Tryz.ntmps6
  go_wp2_with fail
  rw [HW0.out]
  refine HSM.out.mono ?_
  rintro e w1 ⟨b, rfl, hsmall, hE1⟩
  cases b with
  | false =>
    have hfin : CTrueIs w (.returned (.bool true)) w1 := ⟨rfl, HEW.out.trans hE1⟩
    have HFN := Lib.hid hfin; clear hfin hE1 hsmall
    go_wp2
    go_ret
    exact HFN.out
  | true =>
    have c0 := hE1.cell b0
    have c1 := hE1.cell b1
    have c2 := hE1.cell b2
    have c3 := hE1.cell b3
    have c4 := hE1.cell b4
    have c5 := hE1.cell b5
    have hdk := disk_any _ d w1 (HH.out.ext hE1) (hsmall rfl) (HL.out.ext hE1)
    have HDK := Lib.hid hdk; have HE1 := Lib.hid hE1
    have HL1 := Lib.hid (HL.out.ext hE1); have HP1 := Lib.hid (LaidP.held (HP.out.ext hE1))
    clear hdk hE1 hsmall b0 b1 b2 b3 b4 b5 HH HL HP HB0 HSM
    go_wp2_with fail
    refine HDK.out.mono ?_
    rintro e w2 ⟨a, F, D, rfl, hD, hsafe, hdat, hlen, hnam, hE2, hF⟩
    have hfit : D.Fit := ⟨hdat, hlen, hnam⟩
    have hfs := files_any F a D w2 hD hsafe.calm (by omega) (fun x hx => by have := hdat x hx; omega) (fun p hp => by have := hnam p hp; unfold maxLen; omega)
    have HLOW := Lib.hid hD.low; have HFS := Lib.hid hfs; have HE2 := Lib.hid hE2; have HF := Lib.hid hF; have HFIT := Lib.hid hfit; have HSAFE := Lib.hid hsafe
    clear hfs hE2 hF hD hfit hsafe hdat hlen hnam c0 c1 c2 c3 c4 c5 HDK
    unfold nodeV at *
    go_wp2_with fail
    refine HFS.out.mono ?_
    rintro e w3 ⟨ov, rows, rfl, hR, hD3, hC3⟩
    have hold : Held w3 F (fun W => FilesIs W ov D.files) := hR.held HLOW.out
    have hE3 : Ext w1 w3 := HE2.out.trans' (hC3.below HF.out HE2.out.size)
    have hfd := findB_any ov D.files bManifest w3 hold.get
    obtain ⟨fb, hfb⟩ : ∃ fb, (aLook D.files bManifest).isSome = fb := ⟨_, rfl⟩
    have HOLD := Lib.hid hold; have HE3 := Lib.hid hE3; have HFD := Lib.hid hfd; have HFB := Lib.hid hfb; have HD3 := Lib.hid hD3
    clear hold hE3 hfd hfb hR hD3 hC3 HFS
    unfold strV bManifest at HFD
    go_wp2_with fail
    refine HFD.out.mono ?_
    rintro e w4 ⟨hw4, bv, rfl, hbv⟩
    rw [hw4]
    clear hw4 w4
    have hfb' := HFB.out
    unfold bManifest at hfb'
    rw [hfb']
    clear hfb'
    have hrm := refReadMan_any bv _ w3 hbv
    have HRM := Lib.hid hrm; clear hrm hbv HFD
    go_wp2_with fail
    refine HRM.out.mono ?_
    rintro e w5 ⟨g, iv, ok, rfl, hE5, hcase⟩
    have hE5' := HE3.out.trans hE5
    have hkc := kclean_any F a D w5 (HD3.out.ext hE5) HSAFE.out.calm HSAFE.out.nodup (HP1.out.lift hE5' HF.out) (by have := HFIT.out.len; omega) (by rw [HSAFE.out.moves]; simp) (by rw [HSAFE.out.moves]; simp) HFIT.out.names (fun x hx => by have := HFIT.out.data x hx; omega)
    have hsz3 : ∀ b, F b → b < w3.heap.size := HD3.out.low
    have HOLD5 := Lib.hid (HOLD.out.ext hE5); have HE5 := Lib.hid hE5'; have HKC := Lib.hid hkc; have HCASE := Lib.hid hcase; have HSZ3 := Lib.hid hsz3
    clear hE5 hE5' hkc hcase hsz3 HOLD HE3 HD3 HRM
    unfold nodeV at HKC
    go_wp2_with fail
    refine HKC.out.mono ?_
    rintro e w6 ⟨kv, F6, rfl, hkv, hD6, hC6, -⟩
    have hE6 : Ext w1 w6 := HE5.out.trans' (hC6.below HF.out HE5.out.size)
    have hF6 : ∀ b, F6 b → w1.heap.size ≤ b := fun b hb => by
      rcases hC6.grow b hb with h | h
      · exact HF.out b h
      · have := HE5.out.size; omega
    have herr : ErrAt w6 kv D.clean.1 := by
      rcases hkv with ⟨h1, h2⟩ | ⟨n, h1, h2⟩
      · rw [h1]; exact h2
      · rw [h1]; exact h2
    have htl := tell_any _ kv w6 herr (HL1.out.ext hE6)
    obtain ⟨cd, hcd⟩ : ∃ cd, D.clean.1.code = cd := ⟨_, rfl⟩
    obtain ⟨nm, hnm⟩ : ∃ nm, strV D.clean.1.name = nm := ⟨_, rfl⟩
    rw [hcd, hnm] at htl
    have HTL := Lib.hid htl; have HOLD6 := Lib.hid (HOLD5.out.step hC6); have HE6 := Lib.hid hE6; have HF6 := Lib.hid hF6; have HD6 := Lib.hid hD6; have HC6 := Lib.hid hC6; have HCD := Lib.hid hcd
    clear htl hE6 hF6 hD6 hC6 hcd herr hkv hnm HOLD5 HKC
    go_wp2_with fail
    refine HTL.out.mono ?_
    rintro e w7 ⟨rfl, hE7⟩
    have HE7 := Lib.hid hE7; clear hE7 HTL
    rcases clean_cases HSAFE.out.calm with ⟨hfn, hcl⟩ | ⟨bs, hfn, hrd, hcl⟩ | ⟨bs, gn, ids, hfn, hrd, hcl⟩
    · have e1 := HFB.out
      rw [files_look, hfn] at e1
      have e2 := HCD.out
      rw [hcl] at e2
      obtain rfl : fb = false := e1.symm
      obtain rfl : cd = 5 := e2.symm
      clear e1 e2 hfn
      have hD7 : DiskAt w7 F6 a D := by
        have := HD6.out
        rw [hcl] at this
        exact this.ext HE7.out
      have hfs8 := files_any F6 a D w7 hD7 HSAFE.out.calm (by have := HFIT.out.len; omega) (fun x hx => by have := HFIT.out.data x hx; omega) (fun p hp => by have := HFIT.out.names p hp; unfold maxLen; omega)
      have HFS8 := Lib.hid hfs8
      clear hfs8 hD7 hcl HCD HFB HCASE HD6 HC6
      unfold nodeV at HFS8
      go_wp2_with fail
      refine HFS8.out.mono ?_
      rintro e w8 ⟨nv, rows8, rfl, hR8, hD8, hC8⟩
      have hold8 : FilesIs w8 ov D.files := ((HOLD6.out.ext HE7.out).step hC8).get
      have hsf := sameFiles_any nv ov D.files w8 hR8.files hold8
      have hE67 := HE6.out.trans HE7.out
      have hE8 : Ext w1 w8 := hE67.trans' (hC8.below HF6.out hE67.size)
      have HSF := Lib.hid hsf; have HE8 := Lib.hid ((HEW.out.trans HE1.out).trans hE8)
      clear hsf hE8 hE67 hold8 hR8 hD8 hC8 HFS8
      go_wp2_with fail
      refine HSF.out.mono ?_
      rintro e w9 ⟨rfl, n, hw9⟩
      rw [hw9]
      have hfin : CTrueIs w (.returned (.bool true)) (w8.drewN n) := ⟨rfl, HE8.out.trans (Ext.drewN _ _)⟩
      have HFN := Lib.hid hfin; clear hfin hw9 w9
      go_wp2
      go_ret
      exact HFN.out
    · have e1 := HFB.out
      rw [files_look, hfn] at e1
      have e2 := HCD.out
      rw [hcl] at e2
      obtain rfl : fb = true := e1.symm
      obtain rfl : cd = 6 := e2.symm
      have e3 := HCASE.out
      rw [files_look, show D.file [109, 97, 110, 105, 102, 101, 115, 116] = some bs from hfn] at e3
      obtain rfl : ok = false := by
        rcases e3 with ⟨-, -, -, h⟩ | ⟨gen, ids, h, -⟩
        · exact h
        · rw [show (some bs).getD [] = bs from rfl, hrd] at h; cases h
      clear e1 e2 e3 hfn hrd
      have hD7 : DiskAt w7 F6 a D := by
        have := HD6.out
        rw [hcl] at this
        exact this.ext HE7.out
      have hfs8 := files_any F6 a D w7 hD7 HSAFE.out.calm (by have := HFIT.out.len; omega) (fun x hx => by have := HFIT.out.data x hx; omega) (fun p hp => by have := HFIT.out.names p hp; unfold maxLen; omega)
      have HFS8 := Lib.hid hfs8
      clear hfs8 hD7 hcl HCD HFB HCASE HD6 HC6
      unfold nodeV at HFS8
      go_wp2_with fail
      refine HFS8.out.mono ?_
      rintro e w8 ⟨nv, rows8, rfl, hR8, hD8, hC8⟩
      have hold8 : FilesIs w8 ov D.files := ((HOLD6.out.ext HE7.out).step hC8).get
      have hsf := sameFiles_any nv ov D.files w8 hR8.files hold8
      have hE67 := HE6.out.trans HE7.out
      have hE8 : Ext w1 w8 := hE67.trans' (hC8.below HF6.out hE67.size)
      have HSF := Lib.hid hsf; have HE8 := Lib.hid ((HEW.out.trans HE1.out).trans hE8)
      clear hsf hE8 hE67 hold8 hR8 hD8 hC8 HFS8
      go_wp2_with fail
      refine HSF.out.mono ?_
      rintro e w9 ⟨rfl, n, hw9⟩
      rw [hw9]
      have hfin : CTrueIs w (.returned (.bool true)) (w8.drewN n) := ⟨rfl, HE8.out.trans (Ext.drewN _ _)⟩
      have HFN := Lib.hid hfin; clear hfin hw9 w9
      go_wp2
      go_ret
      exact HFN.out
    · obtain ⟨E, hE, hes, hef, hei, her, hen⟩ := HSAFE.out.sweep ids
      have e1 := HFB.out
      rw [files_look, hfn] at e1
      have e2 := HCD.out
      rw [hcl, hE] at e2
      obtain rfl : fb = true := e1.symm
      obtain rfl : cd = 0 := e2.symm
      have e3 := HCASE.out
      rw [files_look, show D.file [109, 97, 110, 105, 102, 101, 115, 116] = some bs from hfn] at e3
      obtain ⟨rfl, hown⟩ : ok = true ∧ OwnI w5 w3.heap.size iv ids := by
        rcases e3 with ⟨h, -⟩ | ⟨gen, ids', h, -, h2, h3⟩
        · rw [show (some bs).getD [] = bs from rfl, hrd] at h; cases h
        · rw [show (some bs).getD [] = bs from rfl, hrd] at h
          injection h with h; injection h with _ h; subst h
          exact ⟨h2, h3⟩
      have hfitE : E.Fit := by have := HFIT.out.sweep HSAFE.out ids; rw [hE] at this; exact this
      have hD7 : DiskAt w7 F6 a E := by
        have := HD6.out
        rw [hcl, hE] at this
        exact this.ext HE7.out
      have hids : Held w5 F (fun W => Ints W iv ids) := (Held.of (Dep.row hown) fun b hb => ⟨(World.ownsRow.lt hown b hb).2, fun hF => by
          have := (World.ownsRow.lt hown b hb).1; have := HSZ3.out b hF; omega⟩).mono fun W hW => OwnI.ints hW
      have HIDS7 := Lib.hid ((hids.step HC6.out).ext HE7.out)
      have hin := idsIn_of hrd
      have hcb := cleaned_of (ids := ids) HSAFE.out.nodup hef
      have hfs8 := files_any F6 a E w7 hD7 hes.calm (by have := hfitE.len; omega) (fun x hx => by have := hfitE.data x hx; omega) (fun p hp => by have := hfitE.names p hp; unfold maxLen; omega)
      have HFS8 := Lib.hid hfs8; have HIN := Lib.hid hin; have HCB := Lib.hid hcb; have HES := Lib.hid hes; have HFE := Lib.hid hfitE; have HOLD7 := Lib.hid (HOLD6.out.ext HE7.out)
      have hno : ∀ p ∈ D.files, p.1.length ≤ 1000000 := fun p hp => by
        have h1 : p.1 ∈ D.list := by rw [← files_names]; exact List.mem_map_of_mem hp
        rw [list_mem] at h1
        obtain ⟨q, hq, e⟩ := List.mem_map.1 h1
        rw [← e]; exact HFIT.out.names q hq
      have hne : ∀ p ∈ E.files, p.1.length ≤ 1000000 := fun p hp => by
        have h1 : p.1 ∈ E.list := by rw [← files_names]; exact List.mem_map_of_mem hp
        rw [list_mem] at h1
        obtain ⟨q, hq, e⟩ := List.mem_map.1 h1
        rw [← e]; exact hfitE.names q hq
      have HNO := Lib.hid hno; have HNE := Lib.hid hne
      clear hfs8 hin hcb hes hfitE hno hne hids hD7 hcl hE hef hei her hen e1 e2 e3 hfn hrd hown HCD HFB HCASE HD6 HC6 HOLD6
      unfold nodeV at HFS8
      go_wp2_with fail
      refine HFS8.out.mono ?_
      rintro e w8 ⟨nv, rows8, rfl, hR8, hD8, hC8⟩
      have hE67 := HE6.out.trans HE7.out
      have hE8 : Ext w1 w8 := hE67.trans' (hC8.below HF6.out hE67.size)
      have hold8 := HOLD7.out.step hC8
      have hids8 := HIDS7.out.step hC8
      have hcn := cleaned_any ov nv iv D.files E.files ids w8 hold8.get hR8.files hids8.get HIN.out HNO.out HNE.out HCB.out
      have HCN := Lib.hid hcn; have HE8 := Lib.hid hE8; have HOLD8 := Lib.hid hold8; have HIDS8 := Lib.hid hids8; have HD8 := Lib.hid hD8
      clear hcn hE8 hE67 hold8 hids8 hR8 hD8 hC8 HFS8 HOLD7 HIDS7
      go_wp2_with fail
      refine HCN.out.mono ?_
      rintro e w9 ⟨rfl, hE9⟩
      have hcr := crash_any F6 a E dir tail w9 (HD8.out.ext hE9) (by rw [HES.out.moves]; simp) (by rw [HES.out.moves]; simp) (fun p hp => by rw [HES.out.stepped] at hp; have := HES.out.safeNames HFE.out p hp; unfold maxLen; omega) (fun x hx => by have := HFE.out.data x hx; omega) hdir htail
      have HCR := Lib.hid hcr; have HE9 := Lib.hid hE9; clear hcr hE9 HCN
      unfold nodeV at HCR
      go_wp2_with fail
      refine HCR.out.mono ?_
      rintro e w10 ⟨rfl, F10, vis, hvis, hD10, hC10, -⟩
      obtain ⟨hs10, hf10⟩ := HES.out.crashed dir tail hvis
      have hfit10 := HFE.out.crashed HES.out dir tail hvis
      have hfe : (E.crashed dir tail vis).files = E.files := files_eq hs10.nodup HES.out.nodup hf10
      have hE89 := HE8.out.trans HE9.out
      have hE10 : Ext w1 w10 := hE89.trans' (hC10.below HF6.out hE89.size)
      have hF10 : ∀ b, F10 b → w1.heap.size ≤ b := fun b hb => by
        rcases hC10.grow b hb with h | h
        · exact HF6.out b h
        · have := hE89.size; omega
      have hfs11 := files_any F10 a _ w10 hD10 hs10.calm (by have := hfit10.len; omega) (fun x hx => by have := hfit10.data x hx; omega) (fun p hp => by have := hfit10.names p hp; unfold maxLen; omega)
      have HFS11 := Lib.hid hfs11; have HE10 := Lib.hid hE10; have HF10 := Lib.hid hF10; have HFE2 := Lib.hid hfe
      have HOLD10 := Lib.hid ((HOLD8.out.ext HE9.out).step hC10); have HIDS10 := Lib.hid ((HIDS8.out.ext HE9.out).step hC10)
      clear hfs11 hE10 hF10 hfe hE89 hD10 hC10 hs10 hf10 hfit10 hvis HCR
      unfold nodeV at HFS11
      go_wp2_with fail
      refine HFS11.out.mono ?_
      rintro e w11 ⟨nv2, rows11, rfl, hR11, hD11, hC11⟩
      rw [HFE2.out] at hR11
      have hE11 : Ext w1 w11 := HE10.out.trans' (hC11.below HF10.out HE10.out.size)
      have hcn := cleaned_any ov nv2 iv D.files E.files ids w11 (HOLD10.out.step hC11).get hR11.files (HIDS10.out.step hC11).get HIN.out HNO.out HNE.out HCB.out
      have HCN := Lib.hid hcn; have HE11 := Lib.hid ((HEW.out.trans HE1.out).trans hE11)
      clear hcn hE11 hR11 hD11 hC11 HFS11
      go_wp2_with fail
      refine HCN.out.mono ?_
      rintro e w12 ⟨rfl, hE12⟩
      have hfin : CTrueIs w (.returned (.bool true)) w12 := ⟨rfl, HE11.out.trans hE12⟩
      have HFN := Lib.hid hfin; clear hfin hE12
      go_wp2
      go_ret
      exact HFN.out
end Go.Proofs.YtgpbhjjajpbeeaaGreatDoor
