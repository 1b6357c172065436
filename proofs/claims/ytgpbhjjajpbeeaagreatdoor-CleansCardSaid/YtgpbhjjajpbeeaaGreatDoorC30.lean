/-
  The walks of keydirref.IsName, keydirlaw.sameFiles.
-/
import Derived.Test.YtgpbhjjajpbeeaaGreatDoorC27
import Derived.Test.YtgpbhjjajpbeeaaGreatDoorC21
import Derived.Shelf.Strings.SlTrimAscii
import Derived.Test.YtgpbhjjajpbeeaaGreatDoorC19
import Derived.Test.YtgpbhjjajpbeeaaGreatDoorC12
set_option linter.unusedSimpArgs false
set_option linter.unusedVariables false
set_option linter.unnecessarySimpa false
namespace Go.Proofs.YtgpbhjjajpbeeaaGreatDoor
open Go.RowKit Go.Lib Go.Maps Dk Pl

theorem str_extract (a : Nm) (k : Nat) : (⟨a.toArray⟩ : ByteArray).extract 0 k = ⟨(a.take k).toArray⟩ := by
  apply ByteArray.ext
  simp [ByteArray.data_extract]

set_option maxRecDepth 100000 in
set_option maxHeartbeats 800000 in
theorem isName_any (kind n : Nm) (w : World) (hk : kind.length ≤ 1000) (hn : n.length ≤ 1000000) :
    Calls Tryz.prog 135 #[strV kind, strV n] w fun e w' => e = .returned (.bool (isNm kind n)) ∧ w' = w := by
  unfold strV
  by_cases h1 : n.length = kind.length + 6
  · have hx := str_extract n kind.length
    by_cases h2 : n.take kind.length = kind
    · have h2' : (n.take kind.length == kind) = true := beq_iff_eq.2 h2
      have hall : isNm kind n = (n.drop kind.length).all isDig := by
        unfold isNm; rw [decide_eq_true h1, decide_eq_true h2]; rfl
      have HALL := Lib.hid hall; have H2 := Lib.hid h2; clear hall h2
      go_enter Tryz.func135, Tryz.ntmps135
      go_wp2
      go_loopw [5] (fun i wr => ∃ k : Nat, k ≤ 6 ∧ i = .int .i64 ((kind.length + k : Nat)) ∧ ((n.drop kind.length).take k).all isDig = true ∧ wr = w) (fun i _ => kind.length + 6 - (intOf i).toNat)
      case atStart => exact ⟨0, by omega, by simp, by simp, rfl⟩
      case round =>
        obtain ⟨k, hk6, rfl, hdig, rfl⟩ := hrel
        by_cases hlt : k < 6
        · have hkl : kind.length + k < n.length := by omega
          obtain ⟨b, hb⟩ : ∃ b, n[kind.length + k] = b := ⟨_, rfl⟩
          have hs : kind.length + k < (⟨n.toArray⟩ : ByteArray).size := by show _ < n.toArray.size; simpa using hkl
          have hidx : (⟨n.toArray⟩ : ByteArray)[kind.length + k] = b := by rw [← hb]; rfl
          have hb8 := u8_lt b
          have hstep : ((n.drop kind.length).take (k + 1)).all isDig = isDig b := by
            rw [List.take_add_one, List.all_append, hdig, List.getElem?_drop, List.getElem?_eq_getElem hkl, hb]
            simp
          have HS := Lib.hid hstep; have HB := Lib.hid hb; have HD := Lib.hid hdig; clear hstep hb hdig
          by_cases hd : 48 ≤ b.toNat ∧ b.toNat ≤ 57
          · have hdd : isDig b = true := by unfold isDig; exact decide_eq_true hd
            have HDD := Lib.hid hdd; clear hdd
            go_wp2
            go_roundw
            case rel => exact ⟨k + 1, by omega, by go_num, by rw [HS.out, HDD.out], by trivial⟩
            case measure => simp [intOf]; omega
          · have hdd : isDig b = false := by unfold isDig; exact decide_eq_false hd
            have hr : isNm kind n = false := by
              rw [HALL.out]
              refine Bool.eq_false_iff.2 fun hall => ?_
              rw [List.all_eq_true] at hall
              have := hall b (by
                rw [← HB.out]
                refine List.mem_of_getElem? (i := k) ?_
                rw [List.getElem?_drop, List.getElem?_eq_getElem hkl])
              rw [hdd] at this; cases this
            have HR := Lib.hid hr; clear hr hdd
            have hd' : b.toNat < 48 ∨ 57 < b.toNat := by omega
            clear hd
            rcases hd' with hd' | hd'
            · go_wp2
              go_ret
              exact ⟨by rw [HR.out]; rfl, rfl⟩
            · go_wp2
              go_ret
              exact ⟨by rw [HR.out]; rfl, rfl⟩
        · obtain rfl : k = 6 := by omega
          have hr : isNm kind n = true := by
            rw [HALL.out, ← hdig, List.take_of_length_le]; simp; omega
          have HR := Lib.hid hr; clear hr hdig
          go_wp2
          go_ret
          exact ⟨by rw [HR.out]; rfl, rfl⟩
    · have h2' : (n.take kind.length == kind) = false := beq_eq_false_iff_ne.2 h2
      have hr : isNm kind n = false := by unfold isNm; rw [decide_eq_false h2]; simp
      have HR := Lib.hid hr; clear hr h2
      go_enter Tryz.func135, Tryz.ntmps135
      go_wp2
      go_ret
      exact ⟨by rw [HR.out]; rfl, rfl⟩
  · have hr : isNm kind n = false := by unfold isNm; rw [decide_eq_false h1]; rfl
    have HR := Lib.hid hr; clear hr
    go_enter Tryz.func135, Tryz.ntmps135
    go_wp2
    go_ret
    exact ⟨by rw [HR.out]; rfl, rfl⟩
end Go.Proofs.YtgpbhjjajpbeeaaGreatDoor
/-
  The walks of keydir.name, isHint.
-/
namespace Go.Proofs.YtgpbhjjajpbeeaaGreatDoor
open Go.RowKit Go.Lib Go.Maps Dk Pl

theorem decDigits_small {u : Nat} (h : u < 10) : Lib.decDigits u = [digit u] := by
  rw [Lib.decDigits, dif_pos h]
  unfold digit
  rw [Nat.mod_eq_of_lt h]
theorem decDigits_big {u : Nat} (h : ¬ u < 10) : Lib.decDigits u = Lib.decDigits (u / 10) ++ [digit u] := by
  rw [Lib.decDigits, dif_neg h]
  rfl
theorem sfx_snoc (u : Nat) : ∀ k, sfx u (k + 1) = sfx (u / 10) k ++ [digit u] := by
  intro k
  induction k with
  | zero => simp [sfx]
  | succ k ih =>
    have e1 : sfx u (k + 1 + 1) = digit (u / 10 ^ (k + 1)) :: sfx u (k + 1) := rfl
    have e2 : sfx (u / 10) (k + 1) = digit (u / 10 / 10 ^ k) :: sfx (u / 10) k := rfl
    rw [e1, e2, ih, Nat.div_div_eq_div_mul, Nat.pow_succ, Nat.mul_comm]; rfl
theorem sfx_zero : ∀ m, sfx 0 m = Lib.repeatL [48] m := by
  intro m
  induction m with
  | zero => rfl
  | succ m ih =>
    have e1 : sfx 0 (m + 1) = digit (0 / 10 ^ m) :: sfx 0 m := rfl
    rw [e1, ih, Nat.zero_div]; rfl
/-- zeros ahead of the digits: the name's digits -/
theorem pad_sfx : ∀ (k u : Nat), u < 10 ^ (k + 1) → ∃ j, (Lib.decDigits u).length + j = k + 1 ∧ Lib.repeatL [48] j ++ Lib.decDigits u = sfx u (k + 1) := by
  intro k
  induction k with
  | zero =>
    intro u h
    have h' : u < 10 := by simpa using h
    exact ⟨0, by rw [decDigits_small h']; rfl, by rw [decDigits_small h']; simp [sfx, Lib.repeatL]⟩
  | succ k ih =>
    intro u h
    by_cases h' : u < 10
    · refine ⟨k + 1, by rw [decDigits_small h']; simp; omega, ?_⟩
      rw [decDigits_small h', sfx_snoc u (k + 1), show u / 10 = 0 by omega, sfx_zero]
    · obtain ⟨j, h1, h2⟩ := ih (u / 10) (by rw [Nat.pow_succ] at h; omega)
      refine ⟨j, by rw [decDigits_big h']; simp; omega, ?_⟩
      rw [decDigits_big h', sfx_snoc u (k + 1), ← h2, List.append_assoc]

def bDigits : Nm := [48, 49, 50, 51, 52, 53, 54, 55, 56, 57]
set_option maxRecDepth 20000 in
theorem isDig_contains (b : UInt8) : bDigits.contains b = isDig b := by
  have : ∀ n : Fin 256, bDigits.contains (UInt8.ofNat n.val) = isDig (UInt8.ofNat n.val) := by decide
  have h := this ⟨b.toNat, b.toNat_lt⟩
  simpa using h
theorem dropWhile_nil {α : Type} (p : α → Bool) (l : List α) : l.dropWhile p = [] ↔ ∀ x ∈ l, p x = true := by
  induction l with
  | nil => simp
  | cons x l ih =>
    rw [List.dropWhile_cons]
    by_cases h : p x = true
    · rw [if_pos h, ih]; simp [h]
    · rw [if_neg h]; simp [h]
theorem dropWhile_head {α : Type} (p : α → Bool) (l : List α) (x : α) (k : List α) (h : l.dropWhile p = x :: k) : p x = false := by
  induction l with
  | nil => simp at h
  | cons y l ih =>
    rw [List.dropWhile_cons] at h
    by_cases hy : p y = true
    · rw [if_pos hy] at h; exact ih h
    · rw [if_neg hy] at h
      injection h with h1 h2
      rw [← h1]; simpa using hy
theorem trimS_nil (l cs : List UInt8) : Lib.trimS l cs = [] ↔ ∀ b ∈ l, cs.contains b = true := by
  unfold Lib.trimS Lib.trimLeftS Lib.trimRightS
  rw [dropWhile_nil]
  constructor
  · intro h
    cases e : l.reverse.dropWhile (cs.contains ·) with
    | nil =>
      rw [dropWhile_nil] at e
      intro b hb
      exact e b (List.mem_reverse.2 hb)
    | cons x k =>
      have h1 := dropWhile_head _ _ _ _ e
      have h2 := h x (by rw [e]; simp)
      rw [h1] at h2; cases h2
  · intro h b hb
    have := List.mem_reverse.1 hb
    exact h b (List.mem_reverse.1 ((List.dropWhile_sublist _).subset this))
theorem isNm_trim (kind n : Nm) : isNm kind n = (Lib.hasPrefix n kind && (decide ((Lib.trimPrefix n kind).length = 6) && decide (Lib.trimS (Lib.trimPrefix n kind) bDigits = []))) := by
  have hd : decide (Lib.trimS (n.drop kind.length) bDigits = []) = (n.drop kind.length).all isDig := by
    rw [Bool.eq_iff_iff, decide_eq_true_iff, trimS_nil, List.all_eq_true]
    exact ⟨fun h b hb => by rw [← isDig_contains]; exact h b hb, fun h b hb => by rw [isDig_contains]; exact h b hb⟩
  unfold isNm Lib.trimPrefix
  by_cases hp : Lib.hasPrefix n kind = true
  · rw [if_pos hp, hp, hd]
    unfold Lib.hasPrefix at hp
    rw [List.isPrefixOf_iff_prefix] at hp
    obtain ⟨t, rfl⟩ := hp
    simp
  · have hp' : Lib.hasPrefix n kind = false := by simpa using hp
    rw [hp']
    have : ¬ n.take kind.length = kind := by
      intro h
      apply hp
      unfold Lib.hasPrefix
      rw [List.isPrefixOf_iff_prefix]
      exact ⟨n.drop kind.length, by conv => lhs; lhs; rw [← h]
                                    exact List.take_append_drop _ _⟩
    rw [decide_eq_false this]; simp

def LaidP (w : World) : Prop := Lib.TabIs Tryz.prog w "internal/strconv.uint64pow10" .u64 Lib.pow10Tab
theorem LaidP.ext {w w' : World} (h : LaidP w) (hE : Ext w w') : LaidP w' := by
  unfold LaidP Lib.TabIs World.var? at *
  cases hg : Program.globalNamed Tryz.prog "internal/strconv.uint64pow10" with
  | none => simp [hg] at h
  | some g =>
    simp only [hg, Option.bind_some] at h ⊢
    have hlt : g < w.heap.size := by
      rcases Nat.lt_or_ge g w.heap.size with h' | h'
      · exact h'
      · rw [Array.getElem?_eq_none h'] at h; cases h
    rw [hE.block g hlt]; exact h
theorem ext_grow (w : World) (k : Nat) (os : Array Obj) : Ext w (Go.Sort.grow (w.drewN k) os) := by
  have h := Ext.drewN w k
  refine ⟨h.os, h.tape, h.output, ?_, fun b hb => ?_⟩
  · show w.heap.size ≤ ((w.drewN k).heap ++ os).size
    have := h.size
    simp only [Array.size_append]; omega
  · show ((w.drewN k).heap ++ os)[b]? = _
    rw [Array.getElem?_append_left (by have := h.size; omega)]
    exact h.block b hb

set_option maxRecDepth 100000 in
set_option maxHeartbeats 800000 in
theorem kname_any (kind : Nm) (id : Nat) (w : World) (hk : kind.length ≤ 1000) (hid : id ≤ 999999) (hl : LaidP w) :
    Calls Tryz.prog 56 #[strV kind, .int .i64 id] w fun e w' => e = .returned (strV (segName kind id)) ∧ Ext w w' := by
  obtain ⟨j, hj, hpad⟩ := pad_sfx 5 id (by omega)
  have hit : Lib.itoa (id : Int) = Lib.decDigits id := by unfold Lib.itoa; rw [if_neg (by omega)]; rfl
  have hi := Tryz.strconv_Itoa (id : Int) (by omega) (by omega) w hl
  rw [hit] at hi
  obtain ⟨ds, hds⟩ : ∃ ds, Lib.decDigits id = ds := ⟨_, rfl⟩
  rw [hds] at hi hj hpad
  have HI := Lib.hid hi; have HP := Lib.hid hpad; clear hi hpad hit hds hl
  unfold strV
  go_enter Tryz.func56, Tryz.ntmps56
  go_wp2_with fail
  refine HI.out.mono ?_
  rintro e w1 ⟨rfl, kd, os, rfl⟩
  have hE1 := ext_grow w kd os
  have hr := Tryz.strings_Repeat ⟨#[48]⟩ j (Go.Sort.grow (w.drewN kd) os) (by omega) (by show 1 * j ≤ _; omega)
  have hsub : (6 : Int) - (ds.length : Int) = (j : Int) := by omega
  have HE := Lib.hid hE1; have HR := Lib.hid hr; clear hE1 hr
  have hdl : ds.length ≤ 6 := by omega
  have hrl : (Lib.repeatL [48] j).length = j := by rw [Lib.repeatL_length]; simp
  obtain ⟨zs, hzs⟩ : ∃ zs, Lib.repeatL [48] j = zs := ⟨_, rfl⟩
  rw [hzs] at hrl
  have hjl : zs.length ≤ 6 := by omega
  have HZ := Lib.hid hzs; clear hzs hrl
  go_wp2_with fail
  refine HR.out.mono ?_
  rintro e w2 ⟨rfl, hE2⟩
  have hE3 := Ext.trans HE.out hE2
  have HE3 := Lib.hid hE3; clear hE3 hE2
  rw [show Lib.repeatL (⟨#[48]⟩ : ByteArray).data.toList j = zs from HZ.out]
  go_wp2
  go_ret
  refine ⟨?_, HE3.out⟩
  rw [segName_sfx, ← HP.out, HZ.out, ← List.append_assoc, ← str_app, ← str_app]
  rfl

set_option maxRecDepth 100000 in
set_option maxHeartbeats 800000 in
theorem isHint_any (n : Nm) (w : World) (hn : n.length ≤ 1000000) :
    Calls Tryz.prog 133 #[strV n] w fun e w' => e = .returned (.bool (isNm bHint n)) ∧ Ext w w' := by
  have hr := isNm_trim bHint n
  have hcut := Tryz.strings_CutPrefix ⟨n.toArray⟩ ⟨bHint.toArray⟩ w
  simp only [List.toList_toArray] at hcut
  obtain ⟨s, hs⟩ : ∃ s, Lib.trimPrefix n bHint = s := ⟨_, rfl⟩
  rw [hs] at hcut hr
  have HC := Lib.hid hcut; have HR := Lib.hid hr; clear hcut hr hs
  unfold strV
  unfold bHint at HC
  go_enter Tryz.func133, Tryz.ntmps133
  go_wp2_with fail
  refine HC.out.mono ?_
  rintro e w1 ⟨rfl, rfl⟩
  cases hp : Lib.hasPrefix n [104, 105, 110, 116, 45] with
  | false =>
    go_wp2
    go_ret
    refine ⟨?_, Ext.refl _⟩
    rw [HR.out, show Lib.hasPrefix n bHint = false from hp]; rfl
  | true =>
    by_cases h6 : s.length = 6
    · have ht := Any.strings_Trim_laid Tryz.lays160 (by kernel_rfl) ⟨s.toArray⟩ ⟨bDigits.toArray⟩ w1 (by show s.toArray.size ≤ _; simp; omega) (by decide) (by
        intro j b hb
        have : b ∈ bDigits := List.mem_of_getElem? hb
        simp [bDigits] at this
        rcases this with h | h | h | h | h | h | h | h | h | h <;> rw [h] <;> decide)
      have HT := Lib.hid ht; clear ht
      unfold bDigits at HT
      go_wp2_with fail
      refine HT.out.mono ?_
      rintro e w2 ⟨rfl, hE2⟩
      have HE2 := Lib.hid hE2; clear hE2
      obtain ⟨t, ht⟩ : ∃ t, Lib.trimS s bDigits = t := ⟨_, rfl⟩
      rw [show Lib.trimS (⟨s.toArray⟩ : ByteArray).data.toList (⟨#[48, 49, 50, 51, 52, 53, 54, 55, 56, 57]⟩ : ByteArray).data.toList = t from ht]
      have hh : isNm bHint n = decide (t = []) := by
        rw [HR.out, show Lib.hasPrefix n bHint = true from hp, decide_eq_true h6, ht]; rfl
      have HH := Lib.hid hh; clear hh hp
      cases t with
      | nil =>
        go_wp2
        go_ret
        exact ⟨by rw [HH.out]; rfl, HE2.out⟩
      | cons x t =>
        go_wp2
        go_ret
        exact ⟨by rw [HH.out]; rfl, HE2.out⟩
    · go_wp2
      go_ret
      refine ⟨?_, Ext.refl _⟩
      rw [HR.out, decide_eq_false h6]; simp
end Go.Proofs.YtgpbhjjajpbeeaaGreatDoor
/-
  The walk of errors.Is against one of the program's numbers.
-/
namespace Go.Proofs.YtgpbhjjajpbeeaaGreatDoor
open Go.RowKit Go.Lib Go.Maps Dk Go.Extern

theorem methodComparable (h : Value) (w : World) : (Go.method 495 275 (.agg #[h]) "Comparable").run Tryz.prog w = .ok (260, .agg #[h]) w := by kernel_rfl
theorem methodUnwrap (h : Value) (w : World) : (Go.method 495 132 h "Unwrap").run Tryz.prog w = .ok (253, h) w := by kernel_rfl
theorem compEN (w : World) : ((ReflectliteType.method fun t => do Rtype.noPackHeld "Comparable" t; (fun a : TypeInfo => Value.bool a.comparable) <$> typeInfo t) #[.agg #[.pointer (some ⟨7, 37, none⟩)]]).run Tryz.prog w = .ok (.bool true) w := by kernel_rfl

theorem eqNil (v : Value) (w : World) : (binOp .eql 34 .nilIface (.iface 37 v)).run Tryz.prog w = .ok (.bool false) w := by kernel_rfl
theorem eqFile (p : Option Addr) (n : Int) (w : World) : (binOp .eql 34 (.iface 132 (.pointer p)) (.iface 37 (.int .i64 n))).run Tryz.prog w = .ok (.bool false) w := by kernel_rfl
theorem eqNum (m n : Int) (w : World) : (binOp .eql 34 (.iface 37 (.int .i64 m)) (.iface 37 (.int .i64 n))).run Tryz.prog w = .ok (.bool (m == n)) w := by kernel_rfl
set_option maxRecDepth 100000 in
set_option maxHeartbeats 800000 in
theorem is_nil (n : Int) (w : World) : Calls Tryz.prog 57 #[.nilIface, errV n] w fun e w' => e = .returned (.bool false) ∧ w' = w := by
  unfold errV
  have q1 := eqNil
  have q2 := eqNum
  go_enter Tryz.func57, Tryz.ntmps57
  go_wp2
  go_ret
  exact ⟨rfl, rfl⟩
set_option maxRecDepth 100000 in
set_option maxHeartbeats 1600000 in
theorem is_num (m n : Int) (w : World) : Calls Tryz.prog 57 #[errV m, errV n] w fun e w' => e = .returned (.bool (decide (m = n))) ∧ w' = w := by
  unfold errV
  have h7 := @run_callFunc_extern Tryz.prog 97 _ ReflectliteType.typeOf Tryz.func97 (by kernel_rfl) (by kernel_rfl) (by kernel_rfl) (by kernel_rfl)
  have h8 := @run_callFunc_extern Tryz.prog 260 _ (ReflectliteType.method fun t => do Rtype.noPackHeld "Comparable" t; pure (.bool (← typeInfo t).comparable)) Tryz.func260 (by kernel_rfl) (by kernel_rfl) (by kernel_rfl) (by kernel_rfl)
  have tO := typeOfEN
  have mC := methodComparable
  have cE := compEN
  have mU := methodUnwrap
  have q1 := eqNil
  have q2 := eqNum
  have q3 := eqFile
  have tA1 := run_typeAssert_lacksB (P := Tryz.prog) (z := .nilIface) (t := 37) (asserted := 277) rfl (by kernel_rfl) (by kernel_rfl)
  have tA2 := run_typeAssert_lacksB (P := Tryz.prog) (z := .nilIface) (t := 37) (asserted := 280) rfl (by kernel_rfl) (by kernel_rfl)
  have tA3 := run_typeAssert_lacksB (P := Tryz.prog) (z := .nilIface) (t := 37) (asserted := 281) rfl (by kernel_rfl) (by kernel_rfl)
  have tA4 := run_typeAssert_lacksB (P := Tryz.prog) (z := .nilIface) (t := 132) (asserted := 277) rfl (by kernel_rfl) (by kernel_rfl)
  have tA5 := run_typeAssert_hasB (P := Tryz.prog) (t := 132) (asserted := 280) rfl (by kernel_rfl)
  by_cases hmn : m = n
  · have hb : (m == n) = true := beq_iff_eq.2 hmn
    have hd : decide (m = n) = true := decide_eq_true hmn
    have HD := Lib.hid hd; clear hd hmn
    go_enter Tryz.func57, Tryz.ntmps57
    go_wp2
    refine wp_loop_rounds 1 ?_
    rw [rounds_succ]
    go_wp2
    go_ret
    exact ⟨by rw [HD.out]; rfl, rfl⟩
  · have hb : (m == n) = false := beq_eq_false_iff_ne.2 hmn
    have hd : decide (m = n) = false := decide_eq_false hmn
    have HD := Lib.hid hd; clear hd hmn
    go_enter Tryz.func57, Tryz.ntmps57
    go_wp2
    refine wp_loop_rounds 1 ?_
    rw [rounds_succ]
    go_wp2
    go_ret
    exact ⟨by rw [HD.out]; rfl, rfl⟩
set_option maxRecDepth 100000 in
set_option maxHeartbeats 1600000 in
theorem is_file (b : Nat) (name : Nm) (m n : Int) (w : World) (hb : BoxAt w b 134 #[strV name, .int .i64 m]) :
    Calls Tryz.prog 57 #[.iface 132 (.pointer (some ⟨b, 0, none⟩)), errV n] w fun e w' => e = .returned (.bool (decide (m = n))) ∧ w' = w := by
  unfold errV
  have c1 := (hb.cell 1).trans (show _ = some (Value.int .i64 m) from rfl)
  clear hb
  have h7 := @run_callFunc_extern Tryz.prog 97 _ ReflectliteType.typeOf Tryz.func97 (by kernel_rfl) (by kernel_rfl) (by kernel_rfl) (by kernel_rfl)
  have h8 := @run_callFunc_extern Tryz.prog 260 _ (ReflectliteType.method fun t => do Rtype.noPackHeld "Comparable" t; pure (.bool (← typeInfo t).comparable)) Tryz.func260 (by kernel_rfl) (by kernel_rfl) (by kernel_rfl) (by kernel_rfl)
  have tO := typeOfEN
  have mC := methodComparable
  have cE := compEN
  have mU := methodUnwrap
  have q1 := eqNil
  have q2 := eqNum
  have q3 := eqFile
  have tA1 := run_typeAssert_lacksB (P := Tryz.prog) (z := .nilIface) (t := 37) (asserted := 277) rfl (by kernel_rfl) (by kernel_rfl)
  have tA2 := run_typeAssert_lacksB (P := Tryz.prog) (z := .nilIface) (t := 37) (asserted := 280) rfl (by kernel_rfl) (by kernel_rfl)
  have tA3 := run_typeAssert_lacksB (P := Tryz.prog) (z := .nilIface) (t := 37) (asserted := 281) rfl (by kernel_rfl) (by kernel_rfl)
  have tA4 := run_typeAssert_lacksB (P := Tryz.prog) (z := .nilIface) (t := 132) (asserted := 277) rfl (by kernel_rfl) (by kernel_rfl)
  have tA5 := run_typeAssert_hasB (P := Tryz.prog) (t := 132) (asserted := 280) rfl (by kernel_rfl)
  by_cases hmn : m = n
  · have hb : (m == n) = true := beq_iff_eq.2 hmn
    have hd : decide (m = n) = true := decide_eq_true hmn
    have HD := Lib.hid hd; clear hd hmn
    go_enter Tryz.func57, Tryz.ntmps57
    go_wp2
    refine wp_loop_rounds 2 ?_
    rw [rounds_succ]
    go_wp2
    all_goals (try rw [rounds_succ])
    all_goals go_wp2
    go_ret
    exact ⟨by rw [HD.out]; rfl, rfl⟩
  · have hb : (m == n) = false := beq_eq_false_iff_ne.2 hmn
    have hd : decide (m = n) = false := decide_eq_false hmn
    have HD := Lib.hid hd; clear hd hmn
    go_enter Tryz.func57, Tryz.ntmps57
    go_wp2
    refine wp_loop_rounds 2 ?_
    rw [rounds_succ]
    go_wp2
    all_goals (try rw [rounds_succ])
    all_goals go_wp2
    go_ret
    exact ⟨by rw [HD.out]; rfl, rfl⟩
/-- Is, of whatever error of the disk's -/
theorem is_any (er : Er) (v : Value) (n : Int) (w : World) (h : ErrAt w v er) (hn : n ≠ 0) : Calls Tryz.prog 57 #[v, errV n] w fun e w' => e = .returned (.bool (decide (er.code = n))) ∧ w' = w := by
  cases er with
  | ok =>
    obtain rfl : v = .nilIface := h
    have e : decide (Er.code .ok = n) = false := decide_eq_false (fun h => hn h.symm)
    rw [e]; exact is_nil n w
  | num m =>
    obtain rfl : v = errV m := h
    exact is_num m n w
  | file m name =>
    obtain ⟨b, rfl, hb⟩ := h
    exact is_file b name m n w hb
end Go.Proofs.YtgpbhjjajpbeeaaGreatDoor
