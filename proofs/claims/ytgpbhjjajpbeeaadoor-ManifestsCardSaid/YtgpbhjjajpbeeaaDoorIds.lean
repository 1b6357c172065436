/-
  The walk of record.checked: at most sixty numbers, each of 1 .. 999999, no two alike.
-/
import Derived.Test.YtgpbhjjajpbeeaaDoorMem
import Derived.WalkKit
import Derived.Maps.OwnOps
import Derived.Maps.Views
namespace Go.Proofs.YtgpbhjjajpbeeaaDoor
open Go.RowKit Go.Lib Pl Go.Maps

def inRange (n : Int) : Bool := decide (1 ≤ n) && decide (n ≤ 999999)
def idsOK (l : List Int) : Bool := decide (l.length ≤ 60) && (l.all inRange && decide l.Nodup)
theorem lawInt : Keyed Tryd.prog 3 := int_keyed Tryd.underlying3
theorem zeroInt (w : World) : (zeroValue 3).run Tryd.prog w = .ok (.int .i64 0) w := by kernel_rfl
def seen {H : Type} (D : DataW H) (l : List Int) (k : Nat) : Prop := ∀ x : Int, D.atKey (.int .i64 x) (.lit (.int .i64 0)) = .lit (.int .i64 (if x ∈ l.take k then 1 else 0))
def goodTo (l : List Int) (k : Nat) : Prop := (l.take k).all inRange = true ∧ (l.take k).Nodup

theorem wrap64_small {n : Int} (h1 : -1000 ≤ n) (h2 : n ≤ 1000) : wrap64 n = n := by unfold wrap64; omega
theorem put_one {H : Type} {D : DataW H} {l : List Int} {k : Nat} {x c c2 : Int} (hm : IsMap D) (hs : seen D l k) (hat : D.atKey (.int .i64 x) (.lit (.int .i64 0)) = .lit (.int .i64 c))
    (hat2 : (D.put (.int .i64 x) (.lit (.int .i64 (wrap64 (c + 1))))).atKey (.int .i64 x) (.lit (.int .i64 0)) = .lit (.int .i64 c2)) :
    c = (if x ∈ l.take k then 1 else 0) ∧ c2 = c + 1 := by
  have h1 := (hs x).symm.trans hat
  injection h1 with h1; injection h1 with _ h1
  rw [atKey_put_same hm (by simp [WideAt.IsKeyLit])] at hat2
  injection hat2 with h2; injection h2 with _ h2
  refine ⟨h1.symm, ?_⟩
  rw [← h2]
  have : c = 0 ∨ c = 1 := by rw [← h1]; split <;> simp
  rcases this with rfl | rfl
  · exact wrap64_small (by omega) (by omega)
  · exact wrap64_small (by omega) (by omega)
theorem seen_step {H : Type} {D : DataW H} {l : List Int} {k : Nat} {x : Int} (hm : IsMap D) (hs : seen D l k) (hk : k < l.length) (hx : l[k] = x) (h0 : x ∉ l.take k) :
    seen (D.put (.int .i64 x) (.lit (.int .i64 1))) l (k + 1) := by
  intro y
  rw [take_snoc l k hk, hx]
  by_cases hy : y = x
  · subst hy
    rw [atKey_put_same hm (by simp [WideAt.IsKeyLit])]; simp
  · rw [atKey_put_other (by intro e; injection e with _ e; exact hy e), hs y]
    simp [hy]
theorem goodTo_step {l : List Int} {k : Nat} {x : Int} (hg : goodTo l k) (hk : k < l.length) (hx : l[k] = x) (hr : inRange x = true) (h0 : x ∉ l.take k) : goodTo l (k + 1) := by
  unfold goodTo at *
  rw [take_snoc l k hk, hx]
  refine ⟨by simp [hg.1, hr], ?_⟩
  rw [List.nodup_append]
  exact ⟨hg.2, by simp, fun a ha b hb => by simp at hb; subst hb; exact fun e => h0 (e ▸ ha)⟩
theorem notOK_range {l : List Int} {k : Nat} {x : Int} (hk : k < l.length) (hx : l[k] = x) (hr : inRange x = false) : idsOK l = false := by
  have : l.all inRange = false := by
    rw [List.all_eq_false]; exact ⟨x, hx ▸ List.getElem_mem hk, by simp [hr]⟩
  unfold idsOK; rw [this]; simp
theorem notOK_dup {l : List Int} {k : Nat} {x : Int} (hk : k < l.length) (hx : l[k] = x) (h0 : x ∈ l.take k) : idsOK l = false := by
  have : ¬ l.Nodup := by
    intro hn
    have h1 : (l.take (k + 1)).Nodup := hn.sublist (List.take_sublist _ _)
    rw [take_snoc l k hk, hx, List.nodup_append] at h1
    exact h1.2.2 x h0 x (by simp) rfl
  unfold idsOK; rw [decide_eq_false this]; simp

set_option maxRecDepth 100000 in
set_option maxHeartbeats 800000 in
theorem checked_any {H : Type} (v : Value) (l : List Int) (w : World) (h : Ints w v l) (hw : ∀ n ∈ l, (Lit.int .i64 n).wf = true) :
    Calls Tryd.prog 28 #[v] w fun e w' => e = .returned (.bool (idsOK l)) ∧ Ext w w' := by
  obtain ⟨a, cap, rfl, hc, hc', -⟩ := h.open
  have HI := Lib.hid h; clear h
  have hmm := @run_makeMap Tryd.prog
  go_enter Tryd.func28, Tryd.ntmps28
  go_wp2
  go_loopw [9] (fun i wr => ∃ k : Nat, k ≤ l.length ∧ i = .int .i64 k ∧ goodTo l k ∧ (∃ D : DataW H, wr.ownsMap Tryd.prog 3 (plainElem Tryd.prog 3) w.heap.size k D ∧ seen D l k) ∧ Ext w wr) (fun i _ => l.length - (intOf i).toNat)
  case atStart => exact ⟨0, Nat.zero_le _, rfl, ⟨rfl, List.nodup_nil⟩, ⟨.map [], World.ownsMap_made _ _ _ _, fun x => by simp [DataW.atKey]⟩, (Ext.refl w).new _⟩
  case round =>
    obtain ⟨k, hk, rfl, hg, ⟨D, hown, hseen⟩, hE⟩ := hrel
    by_cases hlt : k < l.length
    · obtain ⟨b, rfl, hb⟩ : ∃ b, a = some b ∧ wr.cell? (b.add k) = some (.int .i64 (l[k])) := by
        obtain ⟨a', c', e, _, _, hf⟩ := (HI.out.ext hE).open
        injection e with e1; subst e1; exact hf k hlt
      have hwx := hw _ (List.getElem_mem hlt)
      have hkey : keyOf Tryd.prog 3 (.int .i64 l[k]) = some (.int .i64 l[k]) := keyOf_int_mk Tryd.underlying3 hwx
      have HG := Lib.hid hg; have HS := Lib.hid hseen; have HE := Lib.hid hE; clear hg hseen hE
      generalize hx : l[k] = x at *
      obtain ⟨c, hc01, hcx⟩ : ∃ c : Int, (c = 0 ∨ c = 1) ∧ c = (if x ∈ l.take k then 1 else 0) := ⟨_, by split <;> simp, rfl⟩
      by_cases hr : 1 ≤ x ∧ x ≤ 999999
      · have hr1 : ¬ x < 1 := by omega
        have hr2 : ¬ 999999 < x := by omega
        go_wp2_with (first | (at_lookup; refine wpList_lookup_own_int _ rfl _ _ 87 rfl 3 3 .i64 lawInt Tryd.underlying87 Tryd.underlying3 (zeroInt _) w.heap.size _ _ rfl hown _ _ rfl hkey ?_; intro c' hat hwc) | (at_mapUpdate; refine wpList_mapUpdate_own _ rfl _ _ _ 87 rfl 3 3 lawInt Tryd.underlying87 _ w.heap.size k _ rfl hown (by unfold maxLen; omega) _ _ _ rfl rfl hkey _ [] (plainElem_int Tryd.underlying3 (wrap64_wf _)) ?_; intro w1 hown1 hgrow1; obtain ⟨c2, hrun2, hat2, hwc2⟩ := hown1.lookup_int lawInt Tryd.underlying87 Tryd.underlying3 (zeroInt _) hkey) | go_in)
        · obtain ⟨e1, e2⟩ := put_one hown.isMap HS.out hat hat2
          have hmem : x ∈ l.take k := by
            by_cases hm : x ∈ l.take k
            · exact hm
            · rw [if_neg hm] at e1; omega
          go_ret
          exact ⟨by rw [notOK_dup hlt hx hmem]; rfl, HE.out.grown hgrow1 HE.out.size (fun j hj => by cases hj; exact Nat.le_refl _)⟩
        · obtain ⟨e1, e2⟩ := put_one hown.isMap HS.out hat hat2
          have hmem : x ∉ l.take k := by
            intro hm; rw [if_pos hm] at e1; omega
          obtain rfl : c' = 0 := by rw [if_neg hmem] at e1; exact e1
          rw [show wrap64 (0 + 1) = 1 from wrap64_small (by omega) (by omega)] at hown1
          go_roundw
          case rel => exact ⟨k + 1, by omega, by go_num, goodTo_step HG.out hlt hx (by unfold inRange; rw [decide_eq_true hr.1, decide_eq_true hr.2]; rfl) hmem, ⟨_, hown1, seen_step hown.isMap HS.out hlt hx hmem⟩, HE.out.grown hgrow1 HE.out.size (fun j hj => by cases hj; exact Nat.le_refl _)⟩
          case measure => simp [intOf]; omega
      · have hrf : inRange x = false := by
          unfold inRange
          by_cases h1 : 1 ≤ x
          · rw [decide_eq_false (show ¬ x ≤ 999999 from fun h2 => hr ⟨h1, h2⟩)]; simp
          · rw [decide_eq_false h1]; rfl
        by_cases h1 : x < 1
        · go_wp2_with (first | (at_lookup; refine wpList_lookup_own_int _ rfl _ _ 87 rfl 3 3 .i64 lawInt Tryd.underlying87 Tryd.underlying3 (zeroInt _) w.heap.size _ _ rfl hown _ _ rfl hkey ?_; intro c' hat hwc) | (at_mapUpdate; refine wpList_mapUpdate_own _ rfl _ _ _ 87 rfl 3 3 lawInt Tryd.underlying87 _ w.heap.size k _ rfl hown (by unfold maxLen; omega) _ _ _ rfl rfl hkey _ [] (plainElem_int Tryd.underlying3 (wrap64_wf _)) ?_; intro w1 hown1 hgrow1) | go_in)
          go_ret
          exact ⟨by rw [notOK_range hlt hx hrf]; rfl, HE.out.grown hgrow1 HE.out.size (fun j hj => by cases hj; exact Nat.le_refl _)⟩
        · have h2 : 999999 < x := by omega
          go_wp2_with (first | (at_lookup; refine wpList_lookup_own_int _ rfl _ _ 87 rfl 3 3 .i64 lawInt Tryd.underlying87 Tryd.underlying3 (zeroInt _) w.heap.size _ _ rfl hown _ _ rfl hkey ?_; intro c' hat hwc) | (at_mapUpdate; refine wpList_mapUpdate_own _ rfl _ _ _ 87 rfl 3 3 lawInt Tryd.underlying87 _ w.heap.size k _ rfl hown (by unfold maxLen; omega) _ _ _ rfl rfl hkey _ [] (plainElem_int Tryd.underlying3 (wrap64_wf _)) ?_; intro w1 hown1 hgrow1) | go_in)
          go_ret
          exact ⟨by rw [notOK_range hlt hx hrf]; rfl, HE.out.grown hgrow1 HE.out.size (fun j hj => by cases hj; exact Nat.le_refl _)⟩
    · go_wp2
      go_ret
      obtain rfl : k = l.length := by omega
      unfold goodTo at hg
      rw [List.take_length] at hg
      refine ⟨?_, hE⟩
      unfold idsOK
      rw [hg.1, decide_eq_true hg.2, Bool.and_self, Bool.and_true]
      simp
      omega
end Go.Proofs.YtgpbhjjajpbeeaaDoor
