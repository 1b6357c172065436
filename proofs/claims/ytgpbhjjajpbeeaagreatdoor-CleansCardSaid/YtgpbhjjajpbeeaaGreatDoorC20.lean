/-
  The walks of the laws' id, file; what Tell answers at any error.
-/
import Derived.Test.YtgpbhjjajpbeeaaGreatDoorC18
import Derived.Test.YtgpbhjjajpbeeaaGreatDoorC19
import Derived.Test.YtgpbhjjajpbeeaaGreatDoorC15
import Derived.Test.YtgpbhjjajpbeeaaGreatDoorC16
set_option linter.unusedSimpArgs false
set_option linter.unusedVariables false
set_option linter.unnecessarySimpa false
namespace Go.Proofs.YtgpbhjjajpbeeaaGreatDoor
open Go.RowKit Go.Lib Go.Maps Dk Pl

theorem tell_any (er : Er) (v : Value) (w : World) (h : ErrAt w v er) (hl : Laid w) :
    Calls Tryz.prog 15 #[v] w fun e w' => e = .returned (.tuple #[.int .i64 er.code, strV er.name]) ∧ Ext w w' := by
  cases er with
  | ok => subst h; exact tell_nil w
  | num n => subst h; exact tell_num n w hl
  | file n nm =>
    obtain ⟨b, rfl, hb⟩ := h
    exact tell_file ⟨b, 0, none⟩ ⟨nm.toArray⟩ n w hl ((hb.cell 0).trans rfl) ((hb.cell 1).trans rfl)

set_option maxHeartbeats 400000 in
theorem id_any (n : Int) (w : World) : Calls Tryz.prog 47 #[.int .i64 n] w fun e w' => ∃ k : Nat, e = .returned (.int .i64 k) ∧ 1 ≤ k ∧ k ≤ 999999 ∧ w' = w := by
  go_enter Tryz.func47, Tryz.ntmps47
  go_wp2
  obtain ⟨m, hm⟩ : ∃ m, IntKind.u64.wrap (wrap64 (n - 1)) = m := ⟨_, rfl⟩
  have hm0 : 0 ≤ m := by rw [← hm]; exact Int.emod_nonneg _ (by decide)
  have hmod : m.tmod 999999 = m % 999999 := Int.tmod_eq_emod_of_nonneg hm0
  have h1 : 0 ≤ m % 999999 := Int.emod_nonneg _ (by decide)
  have h2 : m % 999999 < 999999 := Int.emod_lt_of_pos _ (by decide)
  have h3 : wrap64 (m % 999999) = m % 999999 := by unfold wrap64; omega
  have h4 : wrap64 (1 + m % 999999) = ((1 + (m % 999999).toNat : Nat) : Int) := by unfold wrap64; omega
  rw [hm, hmod, h3, h4]
  go_ret
  exact ⟨_, rfl, by omega, by omega, rfl⟩

/-- what the law's file leaves -/
def FileIs (F : Nat → Prop) (a : Nat) (k : Nat) (w : World) (e : Ending) (w' : World) : Prop :=
  e = .returned (.tuple #[]) ∧ ∃ F' d, DiskAt w' F' a d ∧ d.Built k ∧ Chg F F' w w' ∧ ∀ b, F b → F' b

set_option maxRecDepth 100000 in
set_option maxHeartbeats 1600000 in
theorem file_any (F : Nat → Prop) (a : Nat) (d : D) (k : Nat) (name : Nm) (u : Value) (l : List UInt8) (w : World) (h : DiskAt w F a d) (hb : d.Built k) (hk : k ≤ 32000) (hn : name.length ≤ 1000000)
    (hu : Held w F (fun W => Bytes W u l)) (hl : l.length ≤ 35184372088832) (hL : Held w F Laid) :
    Calls Tryz.prog 50 #[nodeV a, strV name, u] w (FileIs F a (k + 1) w) := by
  have hcr := create_any F a d name w h (by unfold maxLen; omega) (by have := hb.mlen; omega)
  obtain ⟨ua, uc, rfl, huc, huc', -⟩ := hu.get.open
  have HCR := Lib.hid hcr; have HB := Lib.hid hb; have HU := Lib.hid hu; have HL := Lib.hid hL
  clear hcr hb hu hL h
  unfold nodeV strV at *
  go_enter Tryz.func50, Tryz.ntmps50
  go_wp2_with fail
  refine HCR.out.mono ?_
  rintro e w1 ⟨x, hx, F1, v1, rfl, hv1, hD1, hC1, hF1⟩
  have hb1 := HB.out.create hx hn
  have hL1 := HL.out.step hC1
  have htell := tell_any _ v1 w1 hv1.get hL1.get
  obtain ⟨d1, hd1⟩ : ∃ d1, (d.create name x).2 = d1 := ⟨_, rfl⟩
  obtain ⟨er, her⟩ : ∃ er, (d.create name x).1 = er := ⟨_, rfl⟩
  rw [hd1] at hb1 hD1
  rw [her] at htell
  have HT := Lib.hid htell; have HB1 := Lib.hid hb1; have HC1 := Lib.hid hC1; have HF1 := Lib.hid hF1; have HD1 := Lib.hid hD1; have HU1 := Lib.hid (HU.out.step hC1)
  clear htell hb1 hC1 hF1 hv1 hL1 hd1 her hx hD1 HCR HL
  unfold strV at HT
  go_wp2_with fail
  refine HT.out.mono ?_
  rintro e w2 ⟨rfl, hE2⟩
  have HE2 := Lib.hid hE2; clear hE2
  by_cases hc : er.code = 0
  · have hap := append_any F1 a d1 name (.slice ua l.length uc) l w2 (HD1.out.ext HE2.out) (HU1.out.ext HE2.out) (by unfold maxLen; omega) hl (fun x hx => by have := HB1.out.bound x hx; omega) (by have := HB1.out.len; omega)
    have HAP := Lib.hid hap; clear hap
    unfold nodeV strV at HAP
    go_wp2_with fail
    refine HAP.out.mono ?_
    rintro e w3 ⟨F3, v3, rfl, hv3, hD3, hC3, hF3⟩
    have hsy := sync_any F3 a _ name w3 hD3 (by unfold maxLen; omega)
    have HSY := Lib.hid hsy; have HC3 := Lib.hid hC3; have HF3 := Lib.hid hF3; clear hsy hC3 hF3 hv3 hD3 HAP
    unfold nodeV strV at HSY
    go_wp2_with fail
    refine HSY.out.mono ?_
    rintro e w4 ⟨F4, v4, rfl, hv4, hD4, hC4, hF4⟩
    have hfin : FileIs F a (k + 1) w (.returned (.tuple #[])) w4 := ⟨rfl, F4, _, hD4, HB1.out.appendSync name l, ((HC1.out.trans (Chg.ext HE2.out)).trans HC3.out).trans hC4, fun b hb => hF4 b (HF3.out b (HF1.out b hb))⟩
    have HF := Lib.hid hfin; clear hfin hD4 hC4 hF4 hv4
    go_wp2
    go_end0
    exact HF.out
  · have hfin : FileIs F a (k + 1) w (.returned (.tuple #[])) w2 := ⟨rfl, F1, d1, HD1.out.ext HE2.out, HB1.out, HC1.out.trans (Chg.ext HE2.out), HF1.out⟩
    have HF := Lib.hid hfin; clear hfin
    go_wp2
    go_end0
    exact HF.out
end Go.Proofs.YtgpbhjjajpbeeaaGreatDoor
