/-
  What a law's directory is in memory.
-/
import Derived.Test.YtgpbhjjajpbeeaaGreatDoorC20
import Derived.Test.YtgpbhjjajpbeeaaGreatDoorC26
import Derived.Test.YtgpbhjjajpbeeaaGreatDoorC25
import Derived.Test.YtgpbhjjajpbeeaaGreatDoorC23
import Derived.Test.YtgpbhjjajpbeeaaGreatDoorC09
import Derived.Deep.QuietTactic
import Derived.BigQuiet
import Derived.Test.YtgpbhjjajpbeeaaGreatDoorC10
import Derived.Test.YtgpbhjjajpbeeaaGreatDoorC22
import Derived.Test.YtgpbhjjajpbeeaaGreatDoorC24
set_option linter.unusedSimpArgs false
set_option linter.unusedVariables false
set_option linter.unnecessarySimpa false
namespace Go.Proofs.YtgpbhjjajpbeeaaGreatDoor
open Go.RowKit Go.Lib Go.Maps Dk Pl

structure Rc where
  seq : Nat
  key : ByteArray
  val : ByteArray
  del : Bool
structure Sg where
  id : Int
  recs : List Rc
  tail : List UInt8
  listed : Bool
  gone : Bool
structure Ot where
  name : ByteArray
  hint : Int
  bytes : List UInt8
structure Dr where
  segs : List Sg
  others : List Ot
  gen : Nat
  spoilt : List UInt8
  whole : Bool
  without : Bool
/-- a slice of elements of so many cells each -/
def RowOf {α : Type} (w : World) (v : Value) (l : List α) (sz : Nat) (at_ : World → Addr → α → Prop) : Prop :=
  ∃ a cap, v = .slice a l.length cap ∧ l.length ≤ cap ∧ cap ≤ 9223372036854775807 ∧ ∀ i x, l[i]? = some x → ∃ b, a = some b ∧ at_ w (b.add (i * sz)) x
def RcAt (w : World) (b : Addr) (r : Rc) : Prop :=
  w.cell? b = some (.int .u64 r.seq) ∧ w.cell? ⟨b.block, b.off + 1, none⟩ = some (.string r.key) ∧ w.cell? ⟨b.block, b.off + 2, none⟩ = some (.string r.val) ∧ w.cell? ⟨b.block, b.off + 3, none⟩ = some (.bool r.del)
def SgAt (w : World) (b : Addr) (s : Sg) : Prop :=
  ∃ v1 v2, w.cell? b = some (.int .i64 s.id) ∧ w.cell? ⟨b.block, b.off + 1, none⟩ = some v1 ∧ w.cell? ⟨b.block, b.off + 2, none⟩ = some v2 ∧ w.cell? ⟨b.block, b.off + 3, none⟩ = some (.bool s.listed) ∧ w.cell? ⟨b.block, b.off + 4, none⟩ = some (.bool s.gone) ∧
    RowOf w v1 s.recs 4 RcAt ∧ Bytes w v2 s.tail
def OtAt (w : World) (b : Addr) (s : Ot) : Prop :=
  ∃ v2, w.cell? b = some (.string s.name) ∧ w.cell? ⟨b.block, b.off + 1, none⟩ = some (.int .i64 s.hint) ∧ w.cell? ⟨b.block, b.off + 2, none⟩ = some v2 ∧ Bytes w v2 s.bytes
/-- a directory's value -/
def DrAt (w : World) (v : Value) (d : Dr) : Prop :=
  ∃ v0 v1 v3, v = .agg #[v0, v1, .int .u64 d.gen, v3, .bool d.whole, .bool d.without] ∧ RowOf w v0 d.segs 5 SgAt ∧ RowOf w v1 d.others 3 OtAt ∧ Bytes w v3 d.spoilt
theorem RowOf.ext {α : Type} {w w' : World} {v : Value} {l : List α} {sz : Nat} {at_ : World → Addr → α → Prop} (h : RowOf w v l sz at_) (hat : ∀ b x, at_ w b x → at_ w' b x) : RowOf w' v l sz at_ := by
  obtain ⟨a, cap, rfl, h1, h2, h3⟩ := h
  refine ⟨a, cap, rfl, h1, h2, fun i x hx => ?_⟩
  obtain ⟨b, rfl, hb⟩ := h3 i x hx
  exact ⟨b, rfl, hat _ _ hb⟩
theorem RcAt.ext {w w' : World} {b : Addr} {r : Rc} (hE : Ext w w') (h : RcAt w b r) : RcAt w' b r := ⟨hE.cell h.1, hE.cell h.2.1, hE.cell h.2.2.1, hE.cell h.2.2.2⟩
theorem SgAt.ext {w w' : World} {b : Addr} {r : Sg} (hE : Ext w w') (h : SgAt w b r) : SgAt w' b r := by
  obtain ⟨v1, v2, h0, h1, h2, h3, h4, h5, h6⟩ := h
  exact ⟨v1, v2, hE.cell h0, hE.cell h1, hE.cell h2, hE.cell h3, hE.cell h4, h5.ext fun _ _ => RcAt.ext hE, h6.ext hE⟩
theorem OtAt.ext {w w' : World} {b : Addr} {r : Ot} (hE : Ext w w') (h : OtAt w b r) : OtAt w' b r := by
  obtain ⟨v2, h0, h1, h2, h3⟩ := h
  exact ⟨v2, hE.cell h0, hE.cell h1, hE.cell h2, h3.ext hE⟩
theorem DrAt.ext {w w' : World} {v : Value} {d : Dr} (h : DrAt w v d) (hE : Ext w w') : DrAt w' v d := by
  obtain ⟨v0, v1, v3, rfl, h0, h1, h3⟩ := h
  exact ⟨v0, v1, v3, rfl, h0.ext fun _ _ => SgAt.ext hE, h1.ext fun _ _ => OtAt.ext hE, h3.ext hE⟩
theorem RowOf.form {α : Type} {w : World} {v : Value} {l : List α} {sz : Nat} {at_ : World → Addr → α → Prop} (h : RowOf w v l sz at_) : ∃ a cap, v = .slice a l.length cap ∧ l.length ≤ cap ∧ cap ≤ 9223372036854775807 := by
  obtain ⟨a, cap, rfl, h1, h2, _⟩ := h
  exact ⟨a, cap, rfl, h1, h2⟩
theorem RowOf.at {α : Type} {w : World} {a : Option Addr} {cap : Nat} {l : List α} {sz : Nat} {at_ : World → Addr → α → Prop} (h : RowOf w (.slice a l.length cap) l sz at_) {i : Nat} {x : α} (hx : l[i]? = some x) : ∃ b, a = some b ∧ at_ w (b.add (i * sz)) x := by
  obtain ⟨a', cap', e, _, _, h3⟩ := h
  injection e with e1; subst e1
  exact h3 i x hx

/-- what small asks -/
structure Dr.Small (d : Dr) : Prop where
  segs : d.segs.length ≤ 60
  others : d.others.length ≤ 300
  spoilt : d.spoilt.length ≤ 40000
  tail : ∀ s ∈ d.segs, s.tail.length ≤ 40000
  recs : ∀ s ∈ d.segs, s.recs.length ≤ 2000 ∧ ∀ r ∈ s.recs, r.key.size ≤ 40000 ∧ r.val.size ≤ 40000
  other : ∀ s ∈ d.others, s.name.size ≤ 40000 ∧ s.bytes.length ≤ 40000
/-- what is known of any: its parts' lengths -/
structure Dr.Fits (d : Dr) (B : Nat) : Prop where
  tail : ∀ s ∈ d.segs, s.tail.length ≤ B
  recs : ∀ s ∈ d.segs, ∀ r ∈ s.recs, r.key.size ≤ B ∧ r.val.size ≤ B
  other : ∀ s ∈ d.others, s.name.size ≤ B ∧ s.bytes.length ≤ B
end Go.Proofs.YtgpbhjjajpbeeaaGreatDoor
/-
  What keydirref.Encode answers at any record: a row of at most 200 bytes.
-/
namespace Go.Proofs.YtgpbhjjajpbeeaaGreatDoor
open Go.RowKit Go.Lib Pl

theorem summed_body_len (seq : Nat) (k v : List UInt8) (d : Bool) (hk : k.length ≤ 16) (hv : v.length ≤ 64) : (summed (body seq k v d)).length ≤ 200 := by
  unfold summed body; simp [be_length]; omega
def RefEncB (w : World) (e : Ending) (w' : World) : Prop :=
  ∃ (x : Value) (n : Int) (l : List UInt8), e = .returned (.tuple #[x, .int .i64 n]) ∧ Ext w w' ∧ OwnB w' w.heap.size x l ∧ l.length ≤ 200
theorem ownB_nil (w : World) (B : Nat) : OwnB w B (.slice none 0 0) [] := ⟨rfl, .inl ⟨rfl, rfl⟩⟩
theorem refenc_any (seq : Nat) (k v : ByteArray) (d : Bool) (sz : Int) (w : World) :
    Calls Tryz.prog 49 #[refV seq k v d sz] w (RefEncB w) := by
  by_cases h1 : k.size < 1 ∨ 16 < k.size
  · refine (refencode_key seq k v d sz w h1).mono ?_
    rintro e w' ⟨rfl, hE⟩
    exact ⟨_, _, [], rfl, hE, ownB_nil _ _, by simp⟩
  by_cases h2 : 64 < v.size ∨ (v.size ≤ 64 ∧ d = true ∧ 0 < v.size)
  · refine (refencode_val seq k v d sz w (by omega) (by omega) h2).mono ?_
    rintro e w' ⟨rfl, hE⟩
    exact ⟨_, _, [], rfl, hE, ownB_nil _ _, by simp⟩
  · refine (refencode_ok seq k v d sz w (by omega) (by omega) (by omega) ?_).mono ?_
    · cases d
      · exact .inl rfl
      · right
        rcases Nat.eq_zero_or_pos v.size with h | h
        · exact h
        · exact absurd (.inr ⟨by omega, rfl, h⟩) h2
    · rintro e w' ⟨x, rfl, hO, hE⟩
      exact ⟨_, _, _, rfl, hE, hO, summed_body_len _ _ _ _ (by rw [size_data]; omega) (by rw [size_data]; omega)⟩
end Go.Proofs.YtgpbhjjajpbeeaaGreatDoor
/-
  The walk of keydirref.checkIDs: the same as record.checked answers.
-/
namespace Go.Proofs.YtgpbhjjajpbeeaaGreatDoor
open Go.RowKit Go.Lib Pl

theorem drewN_add (w : World) (a b : Nat) : (w.drewN a).drewN b = w.drewN (a + b) := by
  induction b with
  | zero => rfl
  | succ b ih => show ((w.drewN a).drewN b).drew = (w.drewN (a + b)).drew; rw [ih]
theorem Ints.at {w w' : World} {a : Option Addr} {cap : Nat} {l : List Int} (h : Ints w (.slice a l.length cap) l) (hE : Ext w w') {k : Nat} (hk : k < l.length) : ∃ b, a = some b ∧ w'.cell? (b.add k) = some (.int .i64 (l[k])) := by
  obtain ⟨a', c', e, _, _, hf⟩ := (h.ext hE).open
  injection e with e1; subst e1; exact hf k hk
set_option maxRecDepth 100000 in
set_option maxHeartbeats 800000 in
theorem checkIDs_any (v : Value) (l : List Int) (w : World) (h : Ints w v l) :
    Calls Tryz.prog 77 #[v] w fun e w' => e = .returned (.bool (idsOK l)) ∧ ∃ n, w' = w.drewN n := by
  obtain ⟨a, cap, rfl, hc, hc', -⟩ := h.open
  have HI := Lib.hid h; clear h
  by_cases h60 : 60 < l.length
  · have hd : idsOK l = false := by unfold idsOK; rw [decide_eq_false (by omega)]; rfl
    go_enter Tryz.func77, Tryz.ntmps77
    go_wp2
    go_ret
    exact ⟨by first | rfl | (rw [hd]; rfl), 0, rfl⟩
  have H60 : Hid (l.length ≤ 60) := by
    have : l.length ≤ 60 := by omega
    exact this
  go_enter Tryz.func77, Tryz.ntmps77
  go_wp2
  go_loopw [3, 4] (fun i _ wr => ∃ k : Nat, k ≤ l.length ∧ i = .int .i64 k ∧ goodTo l k ∧ ∃ n, wr = w.drewN n) (fun i _ _ => l.length - (intOf i).toNat)
  case atStart => exact ⟨0, Nat.zero_le _, rfl, ⟨rfl, List.nodup_nil⟩, 0, rfl⟩
  case round =>
    obtain ⟨k, hk, rfl, hg, n, rfl⟩ := hrel
    by_cases hlt : k < l.length
    · obtain ⟨b, rfl, hb⟩ := HI.out.at (Ext.drewN w n) hlt
      have HG := Lib.hid hg; clear hg
      by_cases h1 : l[k] < 1
      · have hf := notOK_range (x := l[k]) hlt rfl (by unfold inRange; rw [decide_eq_false (by omega)]; rfl)
        go_wp2
        go_ret
        exact ⟨by first | rfl | (rw [hf]; rfl), n, rfl⟩
      by_cases h2 : 999999 < l[k]
      · have hf := notOK_range (x := l[k]) hlt rfl (by unfold inRange; rw [decide_eq_false (show ¬ l[k] ≤ 999999 by omega)]; simp)
        go_wp2
        go_ret
        exact ⟨by first | rfl | (rw [hf]; rfl), n, rfl⟩
      go_wp2
      go_loopw [4] (fun j wr => ∃ m : Nat, m ≤ k ∧ j = .int .i64 m ∧ l[k] ∉ l.take m ∧ ∃ n, wr = w.drewN n) (fun j _ => k - (intOf j).toNat)
      case atStart => exact ⟨0, Nat.zero_le _, rfl, by simp, n, rfl⟩
      case round =>
        obtain ⟨m, hm, rfl, hne, n', rfl⟩ := hrel
        by_cases hmk : m < k
        · obtain ⟨b', eb, hb1⟩ := HI.out.at (Ext.drewN w n') (k := m) (by omega)
          injection eb with eb; subst eb
          obtain ⟨b', eb, hb2⟩ := HI.out.at (Ext.drewN w n') hlt
          injection eb with eb; subst eb
          have HN := Lib.hid hne; clear hne
          clear hb
          generalize hwn : w.drewN n' = wn at *
          have hml : m < l.length := by omega
          by_cases he : l[m] = l[k]
          · have he' : ((l[m] : Int) == l[k]) = true := beq_iff_eq.2 he
            have hf := notOK_dup (x := l[k]) hlt rfl (by rw [← he]; exact List.mem_take_iff_getElem.2 ⟨m, by omega, rfl⟩)
            clear he
            go_wp2
            go_quiet (fail)
            go_wp2
            go_ret
            exact ⟨by first | rfl | (rw [hf]; rfl), n' + nq, by rw [← hwn, drewN_add]⟩
          · have he' : ((l[m] : Int) == l[k]) = false := beq_eq_false_iff_ne.2 he
            have HM : Hid (l[k] ∉ l.take (m + 1)) := by
              have : l[k] ∉ l.take (m + 1) := by
                rw [take_snoc l m hml, List.mem_append]
                rintro (h | h)
                · exact HN.out h
                · simp at h; exact he h.symm
              exact this
            clear he
            go_wp2
            go_quiet (fail)
            go_wp2
            go_roundw
            case rel => exact ⟨m + 1, by omega, by go_num, HM.out, n' + nq, by rw [← hwn, drewN_add]⟩
            case measure => simp [intOf]; omega
        · obtain rfl : m = k := by omega
          have HN := Lib.hid hne; clear hne
          go_wp2
          go_roundw
          case rel => exact ⟨m + 1, by omega, by go_num, goodTo_step HG.out hlt rfl (by unfold inRange; rw [decide_eq_true (show 1 ≤ l[m] by omega), decide_eq_true (show l[m] ≤ 999999 by omega)]; rfl) HN.out, n', rfl⟩
          case measure => simp [intOf]; omega
    · go_wp2
      go_ret
      obtain rfl : k = l.length := by omega
      unfold goodTo at hg
      rw [List.take_length] at hg
      refine ⟨?_, n, rfl⟩
      unfold idsOK
      rw [hg.1, decide_eq_true hg.2, decide_eq_true H60.out]
      rfl
end Go.Proofs.YtgpbhjjajpbeeaaGreatDoor
/-
  The walk of keydirref.WriteManifest.
-/
namespace Go.Proofs.YtgpbhjjajpbeeaaGreatDoor
open Go.RowKit Go.Lib Pl

/-- what the reference's WriteManifest answers -/
def RefManIs (gen : Nat) (l : List Int) (w : World) (e : Ending) (w' : World) : Prop :=
  ∃ x, e = .returned (.tuple #[x, .int .i64 (if idsOK l = true then 0 else 4)]) ∧ Ext w w' ∧
    ((idsOK l = true ∧ OwnB w' w.heap.size x (summed (manBody gen l))) ∨ (idsOK l = false ∧ x = .slice none 0 0))

set_option maxRecDepth 100000 in
set_option maxHeartbeats 1600000 in
theorem refWriteMan_any (gen : Nat) (v : Value) (l : List Int) (w : World) (h : Ints w v l) :
    Calls Tryz.prog 52 #[.int .u64 gen, v] w (RefManIs gen l w) := by
  obtain ⟨a, cap, rfl, hc, hc', -⟩ := h.open
  obtain ⟨i0, hi, hz0, hz1, hz2⟩ := info_parts info_u8
  have HI := Lib.hid h; clear h
  go_enter Tryz.func52, Tryz.ntmps52
  go_wp2_with fail
  refine (checkIDs_any _ l w HI.out).mono ?_
  rintro e w1 ⟨rfl, q, hq⟩
  have hE1 : Ext w w1 := by rw [hq]; exact Ext.drewN w q
  clear hq
  cases hok : idsOK l with
  | false =>
    go_wp2
    go_ret2
    exact ⟨_, by rw [hok]; rfl, hE1, Or.inr ⟨hok, rfl⟩⟩
  | true =>
    have hl60 : l.length ≤ 60 := by
      have := hok
      unfold idsOK at this
      exact of_decide_eq_true (Bool.and_eq_true_iff.1 this).1
    have hO1 : OwnB w1 w.heap.size (.slice none 0 0) [] := ⟨rfl, Or.inl ⟨rfl, rfl⟩⟩
    go_wp2_with fail
    refine (fixed_any _ w.heap.size [] gen 8 w1 hO1 (by omega) (by simp) hE1.size).mono ?_
    rintro e w2 ⟨v2, rfl, hO2, hb2⟩
    have hE2 := Below.trans hE1 hb2
    clear hE1 hb2 hO1
    have hwl : IntKind.u64.wrap (l.length : Int) = (l.length : Int) := by rw [IntKind.wrap_u64]; omega
    go_wp2_with fail
    refine (fixed_any _ w.heap.size _ l.length 2 w2 hO2 (by omega) (by simp [be_length]) hE2.size).mono ?_
    rintro e w3 ⟨v3, rfl, hO3, hb3⟩
    have hE3 := Below.trans hE2 hb3
    clear hE2 hb3 hO2
    have hin : ∀ n ∈ l, inRange n = true := by
      have := hok
      unfold idsOK at this
      exact List.all_eq_true.1 (Bool.and_eq_true_iff.1 (Bool.and_eq_true_iff.1 this).2).1
    go_wp2
    go_loopw [7, 8] (fun u i wr => ∃ k : Nat, k ≤ l.length ∧ i = .int .i64 k ∧ OwnB wr w.heap.size u ([] ++ be gen 8 ++ be l.length 2 ++ idBytes (l.take k)) ∧ Ext w wr) (fun _ i _ => l.length - (intOf i).toNat)
    case atStart => exact ⟨0, Nat.zero_le _, rfl, by simpa [idBytes] using hO3, hE3⟩
    case round =>
      clear hO3 hE3
      obtain ⟨k, hk, rfl, hO, hE⟩ := hrel
      have hlb := idBytes_length (l.take k)
      rw [List.length_take] at hlb
      by_cases hlt : k < l.length
      · obtain ⟨b, rfl, hb⟩ : ∃ b, a = some b ∧ wr.cell? (b.add k) = some (.int .i64 (l[k])) := by
          obtain ⟨a', c', e, _, _, hf⟩ := (HI.out.ext hE).open
          injection e with e1; subst e1; exact hf k hlt
        have hir := hin _ (List.getElem_mem hlt)
        unfold inRange at hir
        have hi1 := of_decide_eq_true (Bool.and_eq_true_iff.1 hir).1
        have hi2 := of_decide_eq_true (Bool.and_eq_true_iff.1 hir).2
        have hsn : idBytes (l.take (k + 1)) = idBytes (l.take k) ++ be (l[k]).toNat 4 := by rw [take_snoc l k hlt, idBytes_snoc]
        have HS := Lib.hid hsn; clear hsn hir
        generalize l[k] = x at *
        obtain ⟨x, rfl⟩ := Int.eq_ofNat_of_zero_le (show 0 ≤ x by omega)
        have hwx : IntKind.u64.wrap (x : Int) = (x : Int) := by rw [IntKind.wrap_u64]; omega
        have hcall := fixed_any _ w.heap.size _ x 4 _ hO (by omega) (by simp [be_length]; omega) hE.size
        have HE := Lib.hid hE; clear hE hO
        go_wp2_with fail
        refine hcall.mono ?_
        rintro e w5 ⟨v5, rfl, hO5, hb5⟩
        have hE5 : Ext w w5 := Below.trans HE.out hb5
        clear hcall hb5 HE
        go_wp2
        go_roundw
        case rel => exact ⟨k + 1, by omega, by go_num, by rw [HS.out]; simpa using hO5, hE5⟩
        case measure => simp [intOf]; omega
      · obtain rfl : k = l.length := by omega
        rw [List.take_length] at hO
        have hd : [] ++ be gen 8 ++ be l.length 2 ++ idBytes l = manBody gen l := by unfold manBody; simp
        rw [hd] at hO
        have hml : (manBody gen l).length ≤ 300 := by unfold manBody; simp [be_length, idBytes_length]; omega
        have hdecl : ∃ m, m = manBody gen l := ⟨_, rfl⟩
        have HE := Lib.hid hE; have HO := Lib.hid hO; clear hE hO hd hdecl
        go_wp2_with fail
        refine (refsum_any _ (manBody gen l) _ HO.out.bytes).mono ?_
        rintro e w5 ⟨rfl, rfl⟩
        have hown : OwnB wr w.heap.size u7 (manBody gen l) := HO.out
        have hE : Ext w wr := HE.out
        clear HO HE
        generalize hI : manBody gen l = I at *
        have hwc : IntKind.u64.wrap ((crc I : Nat) : Int) = ((crc I : Nat) : Int) := by rw [IntKind.wrap_u64]; have := crc_lt I; omega
        have HO := Lib.hid hown; have HE := Lib.hid hE; clear hown hE
        go_wp2_with fail
        refine (fixed_any _ wr.heap.size [] (crc I) 4 _ (World.ownsRow_nil _ _ _ _) (by omega) (by simp) (Nat.le_refl _)).mono ?_
        rintro e w9 ⟨v9, rfl, hown9, hb9⟩
        rw [List.nil_append] at hown9
        generalize hC : be (crc I) 4 = C at *
        have hCl : C.length = 4 := by rw [← hC, be_length]
        have HC := Lib.hid hC; clear hC
        have HCl := Lib.hid hCl; clear hCl
        clear hwc
        go_wp2_with (at_builtin; go_must (refine wpList_append_src rfl _ _ 25 rfl wr.heap.size 5 i0 (.int .u8 0) 1 1 Tryz.underlying25 hi hz0 hz1 hz2 rfl (by omega) v9 C.length _ rfl hown9 u7 I.length (I.map byteV) rfl (HO.out.bytes.ext hb9) (by simp) (byteV_one _) (by rw [HCl.out]; unfold maxLen; omega) (by rw [HCl.out]; omega) hb9.size ?_); intro b10 c10 w10 hown10 hgrow10 hat10; clear hat10)
        go_ret2
        refine ⟨_, by rw [if_pos hok]; rfl, ?_, Or.inl ⟨hok, ?_⟩⟩
        · exact (Below.trans HE.out (hb9.mono HE.out.size)).grown hgrow10 (Nat.le_trans HE.out.size hb9.size) (fun r hr => by have := (hown9.lt r hr).1; have := HE.out.size; omega)
        · have e1 : (summed I).map byteV = C.map byteV ++ I.map byteV := by rw [← List.map_append, summed, HC.out]
          have e2 : (summed I).length = C.length + I.length := by rw [summed, HC.out, List.length_append]
          unfold OwnB
          rw [hI, e1, e2]
          exact ownsRow_mono hown10 HE.out.size
end Go.Proofs.YtgpbhjjajpbeeaaGreatDoor
/-
  The walk of keydirref.Name.
-/
namespace Go.Proofs.YtgpbhjjajpbeeaaGreatDoor
open Go.RowKit Go.Lib Go.Maps Dk Pl

/-- the last digits -/
def sfx (id : Nat) : Nat → Nm
  | 0 => []
  | k + 1 => digit (id / 10 ^ k) :: sfx id k
theorem segName_sfx (kind : Nm) (id : Nat) : segName kind id = kind ++ sfx id 6 := by
  simp [segName, sfx]
theorem sfx_len (id : Nat) : ∀ k, (sfx id k).length = k := by
  intro k
  induction k with
  | zero => rfl
  | succ k ih => simp [sfx, ih]
theorem str_app (a b : Nm) : (⟨a.toArray⟩ : ByteArray) ++ (⟨b.toArray⟩ : ByteArray) = ⟨(a ++ b).toArray⟩ := by
  apply ByteArray.ext
  simp
theorem digit_val (n : Nat) : (digit n).toNat = 48 + n % 10 := by
  unfold digit
  rw [UInt8.toNat_ofNat']
  omega
theorem digit_byte (n : Nat) : Value.int .u8 (((48 + n % 10 : Nat)) : Int) = byteV (digit n) := by
  unfold byteV; rw [digit_val]

set_option maxRecDepth 100000 in
set_option maxHeartbeats 800000 in
theorem refName_any (kind : Nm) (id : Nat) (w : World) (hk : kind.length ≤ 1000) (hid : id ≤ 999999) :
    Calls Tryz.prog 20 #[strV kind, .int .i64 id] w fun e w' => e = .returned (strV (segName kind id)) ∧ Ext w w' := by
  unfold strV
  go_enter Tryz.func20, Tryz.ntmps20
  go_wp2
  go_loopw [1, 5, 6] (fun x s i wr => ∃ k : Nat, k ≤ 6 ∧ i = .int .i64 k ∧ x = .int .i64 ((id / 10 ^ k : Nat)) ∧ s = .string ⟨(sfx id k).toArray⟩ ∧ Ext w wr) (fun _ _ i _ => 6 - (intOf i).toNat)
  case atStart => exact ⟨0, by omega, rfl, by simp, rfl, Ext.refl w⟩
  case round =>
    obtain ⟨k, hk6, rfl, rfl, rfl, hE⟩ := hrel
    by_cases hlt : k < 6
    · obtain ⟨y, hy⟩ : ∃ y, id / 10 ^ k = y := ⟨_, rfl⟩
      have hyl : y ≤ 999999 := by rw [← hy]; exact Nat.le_trans (Nat.div_le_self _ _) hid
      have hy2 : id / 10 ^ (k + 1) = y / 10 := by rw [← hy, Nat.pow_succ, Nat.div_div_eq_div_mul]
      have hm : ((y : Int).tmod 10) = ((y % 10 : Nat) : Int) := by
        have := Int.ofNat_tmod y 10
        simpa using this.symm
      have hd : ((y : Int).tdiv 10) = ((y / 10 : Nat) : Int) := by
        have := Int.ofNat_tdiv y 10
        simpa using this.symm
      rw [hy]
      have HY := Lib.hid hy; have HY2 := Lib.hid hy2; have HE := Lib.hid hE; clear hy hy2 hE
      have hnews : Bytes (wr.alloc (.cells #[.int .u8 (48 + (y : Int) % 10)] 5)) (.slice (some ⟨wr.heap.size, 0, none⟩) 1 1) [digit y] := by
        have e : Value.int .u8 (48 + (y : Int) % 10) = byteV (digit y) := by rw [← digit_byte]; simp
        rw [e]
        exact ⟨_, _, rfl, by simp, ⟨by omega, fun h => by cases h⟩, fun _ => ⟨_, rfl, World.news_of_block (cs := #[byteV (digit y)]) (t := 5) (fr := (0, 0)) (heap_alloc_new wr _)⟩⟩
      have hq := run_string_of hnews
      have HQ := Lib.hid hnews; clear hnews
      have hsl : (sfx id k).length ≤ 6 := by rw [sfx_len]; omega
      go_wp2
      go_roundw
      case rel =>
        refine ⟨k + 1, by omega, by go_num, ?_, ?_, HE.out.new _⟩
        · rw [HY2.out]; simp
        · show Value.string (⟨([digit y] : Nm).toArray⟩ ++ ⟨(sfx id k).toArray⟩) = _
          rw [str_app, show sfx id (k + 1) = digit (id / 10 ^ k) :: sfx id k from rfl, HY.out]; rfl
      case measure => simp [intOf]; omega
    · obtain rfl : k = 6 := by omega
      have HE := Lib.hid hE; clear hE
      have hsl : (sfx id 6).length = 6 := sfx_len _ _
      go_wp2
      go_ret
      refine ⟨?_, HE.out⟩
      rw [segName_sfx, ← str_app]; rfl
end Go.Proofs.YtgpbhjjajpbeeaaGreatDoor
