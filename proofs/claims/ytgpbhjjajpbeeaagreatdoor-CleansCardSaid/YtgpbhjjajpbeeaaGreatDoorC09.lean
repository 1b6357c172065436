/-
  Footprints: what may turn (Chg), and facts that hang on blocks that do not (Held).
-/
import Derived.Test.YtgpbhjjajpbeeaaGreatDoorC08
import Derived.Test.YtgpbhjjajpbeeaaGreatDoorC02
import Derived.WalkKit
import Derived.Maps.OwnOps
import Derived.Maps.Views
set_option linter.unusedSimpArgs false
set_option linter.unusedVariables false
set_option linter.unnecessarySimpa false
namespace Go.Proofs.YtgpbhjjajpbeeaaGreatDoor
open Go.RowKit Go.Lib

/-- of the old blocks only those in F may have turned; F' is F and new blocks -/
structure Chg (F F' : Nat → Prop) (w w' : World) : Prop where
  os : w'.os = w.os
  tape : w'.tape = w.tape
  output : w'.output = w.output
  size : w.heap.size ≤ w'.heap.size
  block : ∀ b, b < w.heap.size → ¬ F b → w'.heap[b]? = w.heap[b]?
  grow : ∀ b, F' b → F b ∨ w.heap.size ≤ b
theorem Chg.refl (F : Nat → Prop) (w : World) : Chg F F w w := ⟨rfl, rfl, rfl, Nat.le_refl _, fun _ _ _ => rfl, fun _ h => .inl h⟩
theorem Chg.trans {F F' F'' : Nat → Prop} {a b c : World} (h : Chg F F' a b) (k : Chg F' F'' b c) : Chg F F'' a c :=
  ⟨k.os.trans h.os, k.tape.trans h.tape, k.output.trans h.output, Nat.le_trans h.size k.size,
   fun x hx hF => (k.block x (Nat.lt_of_lt_of_le hx h.size) (fun hF' => (h.grow x hF').elim hF (by omega))).trans (h.block x hx hF),
   fun x hx => (k.grow x hx).elim (h.grow x) (fun e => .inr (Nat.le_trans h.size e))⟩
theorem Chg.ext {F : Nat → Prop} {w w' : World} (h : Ext w w') : Chg F F w w' :=
  ⟨h.os, h.tape, h.output, h.size, fun b hb _ => h.block b hb, fun _ h => .inl h⟩
theorem Chg.off {F : Nat → Prop} {g : Nat} {w w' : World} (h : Off g w w') (hg : F g) : Chg F F w w' :=
  ⟨h.os, h.tape, h.output, Nat.le_of_eq h.size.symm, fun b _ hF => h.block b (fun e => hF (e ▸ hg)), fun _ h => .inl h⟩
/-- where nothing was in F nothing old has turned -/
theorem Chg.toExt {F F' : Nat → Prop} {w w' : World} (h : Chg F F' w w') (hF : ∀ b, F b → w.heap.size ≤ b) : Ext w w' :=
  ⟨h.os, h.tape, h.output, h.size, fun b hb => h.block b hb (fun hb' => by have := hF b hb'; omega)⟩
theorem Chg.below {F F' : Nat → Prop} {w w' : World} {B : Nat} (h : Chg F F' w w') (hF : ∀ b, F b → B ≤ b) (hB : B ≤ w.heap.size) : Below B w w' :=
  ⟨h.os, h.tape, h.output, h.size, fun b hb => h.block b (by omega) (fun hb' => by have := hF b hb'; omega)⟩

/-- Φ hangs on the blocks of S alone -/
def Dep (S : Nat → Prop) (Φ : World → Prop) (w : World) : Prop := ∀ w' : World, (∀ b, S b → w'.heap[b]? = w.heap[b]?) → Φ w'
/-- Φ hangs on blocks that are there and are not in F -/
def Held (w : World) (F : Nat → Prop) (Φ : World → Prop) : Prop := ∃ S : Nat → Prop, (∀ b, S b → b < w.heap.size ∧ ¬ F b) ∧ Dep S Φ w
theorem Held.get {w : World} {F : Nat → Prop} {Φ : World → Prop} (h : Held w F Φ) : Φ w := let ⟨_, _, h2⟩ := h; h2 w fun _ _ => rfl
theorem Held.mono {w : World} {F : Nat → Prop} {Φ Ψ : World → Prop} (h : Held w F Φ) (k : ∀ w, Φ w → Ψ w) : Held w F Ψ :=
  let ⟨S, h1, h2⟩ := h; ⟨S, h1, fun w' hw => k w' (h2 w' hw)⟩
theorem Held.and {w : World} {F : Nat → Prop} {Φ Ψ : World → Prop} (h : Held w F Φ) (k : Held w F Ψ) : Held w F (fun w => Φ w ∧ Ψ w) := by
  obtain ⟨S, h1, h2⟩ := h
  obtain ⟨T, k1, k2⟩ := k
  exact ⟨fun b => S b ∨ T b, fun b hb => hb.elim (h1 b) (k1 b), fun w' hw => ⟨h2 w' fun b hb => hw b (.inl hb), k2 w' fun b hb => hw b (.inr hb)⟩⟩
theorem Held.true (w : World) (F : Nat → Prop) : Held w F (fun _ => True) := ⟨fun _ => False, fun _ h => h.elim, fun _ _ => trivial⟩
theorem Held.step {w w' : World} {F F' : Nat → Prop} {Φ : World → Prop} (h : Held w F Φ) (c : Chg F F' w w') : Held w' F' Φ := by
  obtain ⟨S, h1, h2⟩ := h
  refine ⟨S, fun b hb => ⟨Nat.lt_of_lt_of_le (h1 b hb).1 c.size, fun hF => ?_⟩, fun w'' hw => h2 w'' fun b hb => (hw b hb).trans (c.block b (h1 b hb).1 (h1 b hb).2)⟩
  rcases c.grow b hF with h | h
  · exact (h1 b hb).2 h
  · have := (h1 b hb).1; omega
theorem Held.ext {w w' : World} {F : Nat → Prop} {Φ : World → Prop} (h : Held w F Φ) (hE : Ext w w') : Held w' F Φ := h.step (Chg.ext hE)
theorem Held.of {w : World} {F S : Nat → Prop} {Φ : World → Prop} (h : Dep S Φ w) (hS : ∀ b, S b → b < w.heap.size ∧ ¬ F b) : Held w F Φ := ⟨S, hS, h⟩
/-- what hangs on nothing in F may be kept beside more -/
theorem Held.less {w : World} {F G : Nat → Prop} {Φ : World → Prop} (h : Held w F Φ) (hG : ∀ b, G b → F b) : Held w G Φ :=
  let ⟨S, h1, h2⟩ := h; ⟨S, fun b hb => ⟨(h1 b hb).1, fun hg => (h1 b hb).2 (hG b hg)⟩, h2⟩

theorem Dep.box {w : World} {n : Nat} {t : TypeId} {cs : Array Value} (h : BoxAt w n t cs) : Dep (fun b => b = n) (fun w => BoxAt w n t cs) w :=
  fun w' hw => (hw n rfl).trans h
theorem Dep.map {α β : Type} {P : Program} {k : TypeId} {kf : α → Value} {vf : β → Value} {w : World} {r : Nat} {l : List (α × β)} (h : MapOf P k kf vf w r l) : Dep (fun b => b = r) (fun w => MapOf P k kf vf w r l) w :=
  fun w' hw => h.block (hw r rfl)
theorem Dep.row {w : World} {B : Nat} {e : TypeId} {size : Nat} {v : Value} {n : Nat} {xs : List Value} (h : w.ownsRow B e size v n xs) : Dep (fun b => v.ownBlock = some b) (fun w => w.ownsRow B e size v n xs) w := by
  intro w' hw
  obtain ⟨h1, h2⟩ := h
  refine ⟨h1, ?_⟩
  rcases h2 with h2 | ⟨g, cap, cur, rfl, hg, hh, r⟩
  · exact Or.inl h2
  · exact Or.inr ⟨g, cap, cur, rfl, hg, (hw g rfl).trans hh, r⟩
theorem Dep.ownB {w : World} {B : Nat} {v : Value} {l : List UInt8} (h : OwnB w B v l) : Dep (fun b => v.ownBlock = some b) (fun w => OwnB w B v l) w := Dep.row h
theorem Dep.slice {w : World} {v : Value} {n : Nat} {xs : List Value} (h : SliceIs w v n xs) : Dep (fun b => xs ≠ [] ∧ ∃ a n c, v = .slice (some a) n c ∧ a.block = b) (fun w => SliceIs w v n xs) w := by
  intro w' hw
  obtain ⟨a, cap, rfl, h1, h2, h3⟩ := h
  refine ⟨a, cap, rfl, h1, h2, fun hx => ?_⟩
  obtain ⟨b, rfl, hc⟩ := h3 hx
  refine ⟨b, rfl, fun i x hi => ?_⟩
  have e : (b.add i).block = b.block := by unfold Addr.add; split <;> rfl
  rw [← hc i x hi]
  exact World.cell?_of_block (w := w) (by rw [e]; exact hw b.block ⟨hx, _, _, _, rfl, rfl⟩)
theorem Dep.mono {S T : Nat → Prop} {Φ : World → Prop} {w : World} (h : Dep S Φ w) (hS : ∀ b, S b → T b) : Dep T Φ w := fun w' hw => h w' fun b hb => hw b (hS b hb)
theorem Dep.and {S T : Nat → Prop} {Φ Ψ : World → Prop} {w : World} (h : Dep S Φ w) (k : Dep T Ψ w) : Dep (fun b => S b ∨ T b) (fun w => Φ w ∧ Ψ w) w :=
  fun w' hw => ⟨h w' fun b hb => hw b (.inl hb), k w' fun b hb => hw b (.inr hb)⟩
theorem BoxAt.lt {w : World} {n : Nat} {t : TypeId} {cs : Array Value} (h : BoxAt w n t cs) : n < w.heap.size := lt_of_block h
/-- an owned row's block is there -/
theorem row_lt {w : World} {B : Nat} {e : TypeId} {size : Nat} {v : Value} {n : Nat} {xs : List Value} (h : w.ownsRow B e size v n xs) {b : Nat} (hb : v.ownBlock = some b) : b < w.heap.size := (h.lt b hb).2
theorem Held.box {w : World} {F : Nat → Prop} {n : Nat} {t : TypeId} {cs : Array Value} (h : BoxAt w n t cs) (hF : ¬ F n) : Held w F (fun w => BoxAt w n t cs) :=
  .of (.box h) fun b e => by subst e; exact ⟨h.lt, hF⟩
theorem Held.ownB {w : World} {F : Nat → Prop} {B : Nat} {v : Value} {l : List UInt8} (h : OwnB w B v l) (hF : ∀ b, v.ownBlock = some b → ¬ F b) : Held w F (fun w => OwnB w B v l) :=
  .of (.ownB h) fun b e => ⟨row_lt h e, hF b e⟩
/-- bytes that were there ahead of all that F holds -/
theorem Held.bytes {w : World} {F : Nat → Prop} {v : Value} {l : List UInt8} (h : Bytes w v l) (hF : ∀ a n c, v = .slice (some a) n c → ¬ F a.block) : Held w F (fun w => Bytes w v l) := by
  refine .of (.slice h) fun b ⟨hx, a, n, c, hv, hb⟩ => ?_
  subst hb
  refine ⟨?_, hF a n c hv⟩
  obtain ⟨a', cap, hv', h1, h2, h3⟩ := h
  obtain ⟨b, hb, hc⟩ := h3 hx
  rw [hv] at hv'; injection hv' with e1; rw [← e1] at hb; injection hb with hb; subst hb
  cases hl : l.map byteV with
  | nil => exact absurd hl hx
  | cons x xs =>
    have := World.block_lt_of_cell? w _ (hc 0 x (by rw [hl]; rfl))
    have e : (a.add 0).block = a.block := by unfold Addr.add; split <;> rfl
    rw [e] at this; exact this
end Go.Proofs.YtgpbhjjajpbeeaaGreatDoor
/-
  The walk of record.checked: at most sixty numbers, each of 1 .. 999999, no two alike.
-/
namespace Go.Proofs.YtgpbhjjajpbeeaaGreatDoor
open Go.RowKit Go.Lib Pl Go.Maps

def inRange (n : Int) : Bool := decide (1 ≤ n) && decide (n ≤ 999999)
def idsOK (l : List Int) : Bool := decide (l.length ≤ 60) && (l.all inRange && decide l.Nodup)
theorem lawInt : Keyed Tryz.prog 3 := int_keyed Tryz.underlying3
theorem zeroInt (w : World) : (zeroValue 3).run Tryz.prog w = .ok (.int .i64 0) w := by kernel_rfl
def seen {H : Type} (D : DataW H) (l : List Int) (k : Nat) : Prop := ∀ x : Int, D.atKey (.int .i64 x) (.lit (.int .i64 0)) = .lit (.int .i64 (if x ∈ l.take k then 1 else 0))
def goodTo (l : List Int) (k : Nat) : Prop := (l.take k).all inRange = true ∧ (l.take k).Nodup

theorem wrap64_small {n : Int} (h1 : -1000 ≤ n) (h2 : n ≤ 1000) : wrap64 n = n := by unfold wrap64; omega
theorem put_one {H : Type} {D : DataW H} {l : List Int} {k : Nat} {x c c2 : Int} (hm : IsMap D) (hs : seen D l k) (hat : D.atKey (.int .i64 x) (.lit (.int .i64 0)) = .lit (.int .i64 c))
    (hat2 : (D.put (.int .i64 x) (.lit (.int .i64 (wrap64 (c + 1))))).atKey (.int .i64 x) (.lit (.int .i64 0)) = .lit (.int .i64 c2)) :
    c = (if x ∈ l.take k then 1 else 0) ∧ c2 = c + 1 := by
  have h1 := (hs x).symm.trans hat
  injection h1 with h1; injection h1 with _ h1
  rw [atKey_put_same hm (by simp [WideAt.IsKeyLit])] at hat2
  injection hat2 with h2; injection h2 with _ h2
  refine ⟨h1.symm, ?_⟩
  rw [← h2]
  have : c = 0 ∨ c = 1 := by rw [← h1]; split <;> simp
  rcases this with rfl | rfl
  · exact wrap64_small (by omega) (by omega)
  · exact wrap64_small (by omega) (by omega)
theorem seen_step {H : Type} {D : DataW H} {l : List Int} {k : Nat} {x : Int} (hm : IsMap D) (hs : seen D l k) (hk : k < l.length) (hx : l[k] = x) (h0 : x ∉ l.take k) :
    seen (D.put (.int .i64 x) (.lit (.int .i64 1))) l (k + 1) := by
  intro y
  rw [take_snoc l k hk, hx]
  by_cases hy : y = x
  · subst hy
    rw [atKey_put_same hm (by simp [WideAt.IsKeyLit])]; simp
  · rw [atKey_put_other (by intro e; injection e with _ e; exact hy e), hs y]
    simp [hy]
theorem goodTo_step {l : List Int} {k : Nat} {x : Int} (hg : goodTo l k) (hk : k < l.length) (hx : l[k] = x) (hr : inRange x = true) (h0 : x ∉ l.take k) : goodTo l (k + 1) := by
  unfold goodTo at *
  rw [take_snoc l k hk, hx]
  refine ⟨by simp [hg.1, hr], ?_⟩
  rw [List.nodup_append]
  exact ⟨hg.2, by simp, fun a ha b hb => by simp at hb; subst hb; exact fun e => h0 (e ▸ ha)⟩
theorem notOK_range {l : List Int} {k : Nat} {x : Int} (hk : k < l.length) (hx : l[k] = x) (hr : inRange x = false) : idsOK l = false := by
  have : l.all inRange = false := by
    rw [List.all_eq_false]; exact ⟨x, hx ▸ List.getElem_mem hk, by simp [hr]⟩
  unfold idsOK; rw [this]; simp
theorem notOK_dup {l : List Int} {k : Nat} {x : Int} (hk : k < l.length) (hx : l[k] = x) (h0 : x ∈ l.take k) : idsOK l = false := by
  have : ¬ l.Nodup := by
    intro hn
    have h1 : (l.take (k + 1)).Nodup := hn.sublist (List.take_sublist _ _)
    rw [take_snoc l k hk, hx, List.nodup_append] at h1
    exact h1.2.2 x h0 x (by simp) rfl
  unfold idsOK; rw [decide_eq_false this]; simp

set_option maxRecDepth 100000 in
set_option maxHeartbeats 800000 in
theorem checked_any {H : Type} (v : Value) (l : List Int) (w : World) (h : Ints w v l) (hw : ∀ n ∈ l, (Lit.int .i64 n).wf = true) :
    Calls Tryz.prog 149 #[v] w fun e w' => e = .returned (.bool (idsOK l)) ∧ Ext w w' := by
  obtain ⟨a, cap, rfl, hc, hc', -⟩ := h.open
  have HI := Lib.hid h; clear h
  have hmm := @run_makeMap Tryz.prog
  go_enter Tryz.func149, Tryz.ntmps149
  go_wp2
  go_loopw [9] (fun i wr => ∃ k : Nat, k ≤ l.length ∧ i = .int .i64 k ∧ goodTo l k ∧ (∃ D : DataW H, wr.ownsMap Tryz.prog 3 (plainElem Tryz.prog 3) w.heap.size k D ∧ seen D l k) ∧ Ext w wr) (fun i _ => l.length - (intOf i).toNat)
  case atStart => exact ⟨0, Nat.zero_le _, rfl, ⟨rfl, List.nodup_nil⟩, ⟨.map [], World.ownsMap_made _ _ _ _, fun x => by simp [DataW.atKey]⟩, (Ext.refl w).new _⟩
  case round =>
    obtain ⟨k, hk, rfl, hg, ⟨D, hown, hseen⟩, hE⟩ := hrel
    by_cases hlt : k < l.length
    · obtain ⟨b, rfl, hb⟩ : ∃ b, a = some b ∧ wr.cell? (b.add k) = some (.int .i64 (l[k])) := by
        obtain ⟨a', c', e, _, _, hf⟩ := (HI.out.ext hE).open
        injection e with e1; subst e1; exact hf k hlt
      have hwx := hw _ (List.getElem_mem hlt)
      have hkey : keyOf Tryz.prog 3 (.int .i64 l[k]) = some (.int .i64 l[k]) := keyOf_int_mk Tryz.underlying3 hwx
      have HG := Lib.hid hg; have HS := Lib.hid hseen; have HE := Lib.hid hE; clear hg hseen hE
      generalize hx : l[k] = x at *
      obtain ⟨c, hc01, hcx⟩ : ∃ c : Int, (c = 0 ∨ c = 1) ∧ c = (if x ∈ l.take k then 1 else 0) := ⟨_, by split <;> simp, rfl⟩
      by_cases hr : 1 ≤ x ∧ x ≤ 999999
      · have hr1 : ¬ x < 1 := by omega
        have hr2 : ¬ 999999 < x := by omega
        go_wp2_with (first | (at_lookup; refine wpList_lookup_own_int _ rfl _ _ 312 rfl 3 3 .i64 lawInt Tryz.underlying312 Tryz.underlying3 (zeroInt _) w.heap.size _ _ rfl hown _ _ rfl hkey ?_; intro c' hat hwc) | (at_mapUpdate; refine wpList_mapUpdate_own _ rfl _ _ _ 312 rfl 3 3 lawInt Tryz.underlying312 _ w.heap.size k _ rfl hown (by unfold maxLen; omega) _ _ _ rfl rfl hkey _ [] (plainElem_int Tryz.underlying3 (wrap64_wf _)) ?_; intro w1 hown1 hgrow1; obtain ⟨c2, hrun2, hat2, hwc2⟩ := hown1.lookup_int lawInt Tryz.underlying312 Tryz.underlying3 (zeroInt _) hkey) | go_in)
        · obtain ⟨e1, e2⟩ := put_one hown.isMap HS.out hat hat2
          have hmem : x ∈ l.take k := by
            by_cases hm : x ∈ l.take k
            · exact hm
            · rw [if_neg hm] at e1; omega
          go_ret
          exact ⟨by rw [notOK_dup hlt hx hmem]; rfl, HE.out.grown hgrow1 HE.out.size (fun j hj => by cases hj; exact Nat.le_refl _)⟩
        · obtain ⟨e1, e2⟩ := put_one hown.isMap HS.out hat hat2
          have hmem : x ∉ l.take k := by
            intro hm; rw [if_pos hm] at e1; omega
          obtain rfl : c' = 0 := by rw [if_neg hmem] at e1; exact e1
          rw [show wrap64 (0 + 1) = 1 from wrap64_small (by omega) (by omega)] at hown1
          go_roundw
          case rel => exact ⟨k + 1, by omega, by go_num, goodTo_step HG.out hlt hx (by unfold inRange; rw [decide_eq_true hr.1, decide_eq_true hr.2]; rfl) hmem, ⟨_, hown1, seen_step hown.isMap HS.out hlt hx hmem⟩, HE.out.grown hgrow1 HE.out.size (fun j hj => by cases hj; exact Nat.le_refl _)⟩
          case measure => simp [intOf]; omega
      · have hrf : inRange x = false := by
          unfold inRange
          by_cases h1 : 1 ≤ x
          · rw [decide_eq_false (show ¬ x ≤ 999999 from fun h2 => hr ⟨h1, h2⟩)]; simp
          · rw [decide_eq_false h1]; rfl
        by_cases h1 : x < 1
        · go_wp2_with (first | (at_lookup; refine wpList_lookup_own_int _ rfl _ _ 312 rfl 3 3 .i64 lawInt Tryz.underlying312 Tryz.underlying3 (zeroInt _) w.heap.size _ _ rfl hown _ _ rfl hkey ?_; intro c' hat hwc) | (at_mapUpdate; refine wpList_mapUpdate_own _ rfl _ _ _ 312 rfl 3 3 lawInt Tryz.underlying312 _ w.heap.size k _ rfl hown (by unfold maxLen; omega) _ _ _ rfl rfl hkey _ [] (plainElem_int Tryz.underlying3 (wrap64_wf _)) ?_; intro w1 hown1 hgrow1) | go_in)
          go_ret
          exact ⟨by rw [notOK_range hlt hx hrf]; rfl, HE.out.grown hgrow1 HE.out.size (fun j hj => by cases hj; exact Nat.le_refl _)⟩
        · have h2 : 999999 < x := by omega
          go_wp2_with (first | (at_lookup; refine wpList_lookup_own_int _ rfl _ _ 312 rfl 3 3 .i64 lawInt Tryz.underlying312 Tryz.underlying3 (zeroInt _) w.heap.size _ _ rfl hown _ _ rfl hkey ?_; intro c' hat hwc) | (at_mapUpdate; refine wpList_mapUpdate_own _ rfl _ _ _ 312 rfl 3 3 lawInt Tryz.underlying312 _ w.heap.size k _ rfl hown (by unfold maxLen; omega) _ _ _ rfl rfl hkey _ [] (plainElem_int Tryz.underlying3 (wrap64_wf _)) ?_; intro w1 hown1 hgrow1) | go_in)
          go_ret
          exact ⟨by rw [notOK_range hlt hx hrf]; rfl, HE.out.grown hgrow1 HE.out.size (fun j hj => by cases hj; exact Nat.le_refl _)⟩
    · go_wp2
      go_ret
      obtain rfl : k = l.length := by omega
      unfold goodTo at hg
      rw [List.take_length] at hg
      refine ⟨?_, hE⟩
      unfold idsOK
      rw [hg.1, decide_eq_true hg.2, Bool.and_self, Bool.and_true]
      simp
      omega
end Go.Proofs.YtgpbhjjajpbeeaaGreatDoor
