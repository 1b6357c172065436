/-
  The walk of a directory's small: what it asks is met.
-/
import Derived.Test.YtgpbhjjajpbeeaaGreatDoorC27
import Derived.Test.YtgpbhjjajpbeeaaGreatDoorC17
import Derived.Test.YtgpbhjjajpbeeaaGreatDoorC18
set_option linter.unusedSimpArgs false
set_option linter.unusedVariables false
set_option linter.unnecessarySimpa false
namespace Go.Proofs.YtgpbhjjajpbeeaaGreatDoor
open Go.RowKit Go.Lib Go.Maps Dk Pl

def segOK (n : Int) (s : Sg) : Prop := (s.tail.length : Int) ≤ n ∧ 20 * (s.recs.length : Int) ≤ n ∧ ∀ r ∈ s.recs, (r.key.size : Int) ≤ n ∧ (r.val.size : Int) ≤ n
def segTo (n : Int) (s : Sg) (j : Nat) : Prop := (s.tail.length : Int) ≤ n ∧ 20 * (j : Int) ≤ n ∧ ∀ r ∈ s.recs.take j, (r.key.size : Int) ≤ n ∧ (r.val.size : Int) ≤ n
def othOK (n : Int) (s : Ot) : Prop := (s.name.size : Int) ≤ n ∧ (s.bytes.length : Int) ≤ n
theorem segOK.mono {n m : Int} {s : Sg} (h : segOK n s) (k : n ≤ m) : segOK m s :=
  ⟨by have := h.1; omega, by have := h.2.1; omega, fun r hr => by have := h.2.2 r hr; omega⟩
theorem segTo.step {n m : Int} {s : Sg} {j : Nat} {r : Rc} (h : segTo n s j) (hr : s.recs[j]? = some r) (hm : m = n + 20 + r.key.size + r.val.size) (hn : 0 ≤ n) : segTo m s (j + 1) := by
  refine ⟨by have := h.1; omega, by have := h.2.1; omega, fun x hx => ?_⟩
  rw [List.take_add_one, hr] at hx
  rcases List.mem_append.1 hx with hx | hx
  · have := h.2.2 x hx; omega
  · simp at hx; subst hx; omega
theorem segTo.all {n : Int} {s : Sg} (h : segTo n s s.recs.length) : segOK n s := ⟨h.1, h.2.1, fun r hr => h.2.2 r (by rw [List.take_length]; exact hr)⟩
theorem take_step {α : Type} {p : α → Prop} {l : List α} {i : Nat} {x : α} (h : ∀ s ∈ l.take i, p s) (hx : l[i]? = some x) (hp : p x) : ∀ s ∈ l.take (i + 1), p s := by
  intro s hs
  rw [List.take_add_one, hx] at hs
  rcases List.mem_append.1 hs with hs | hs
  · exact h s hs
  · simp at hs; subst hs; exact hp
/-- what small answers -/
def SmallIs (d : Dr) (w : World) (e : Ending) (w' : World) : Prop := ∃ b : Bool, e = .returned (.bool b) ∧ (b = true → d.Small) ∧ Ext w w'
theorem SmallIs.no {d : Dr} {w w' : World} (h : Ext w w') : SmallIs d w (.returned (.bool false)) w' := ⟨false, rfl, ⟨fun h => (by cases h), h⟩⟩

set_option maxRecDepth 100000 in
set_option maxHeartbeats 1600000 in
theorem small_any (v : Value) (d : Dr) (w : World) (h : DrAt w v d) (hf : d.Fits 281474976710656) :
    Calls Tryz.prog 12 #[v] w (SmallIs d w) := by
  obtain ⟨v0, v1, v3, rfl, h0, h1, h3⟩ := h
  obtain ⟨a0, c0, rfl, hl0, hm0⟩ := h0.form
  obtain ⟨a1, c1, rfl, hl1, hm1⟩ := h1.form
  obtain ⟨a3, c3, rfl, hl3, hm3, -⟩ := h3.open
  have hE0 : ∀ o, Ext w (w.alloc o) := fun o => (Ext.refl w).new o
  have H0 := Lib.hid h0; have H1 := Lib.hid h1; have HF := Lib.hid hf; have HE0 := Lib.hid hE0; clear h0 h1 h3 hf hE0
  by_cases k0 : 60 < d.segs.length
  · go_enter Tryz.func12, Tryz.ntmps12
    go_wp2
    go_ret
    exact SmallIs.no (HE0.out _)
  by_cases k1 : 300 < d.others.length
  · go_enter Tryz.func12, Tryz.ntmps12
    go_wp2
    go_ret
    exact SmallIs.no (HE0.out _)
  by_cases k2 : 40000 < d.spoilt.length
  · go_enter Tryz.func12, Tryz.ntmps12
    go_wp2
    go_ret
    exact SmallIs.no (HE0.out _)
  obtain ⟨w0, hw0⟩ : ∃ w0, w.alloc (.cells #[.slice a0 d.segs.length c0, .slice a1 d.others.length c1, .int .u64 d.gen, .slice a3 d.spoilt.length c3, .bool d.whole, .bool d.without] 27) = w0 := ⟨_, rfl⟩
  have hb0 : BoxAt w0 w.heap.size 27 #[.slice a0 d.segs.length c0, .slice a1 d.others.length c1, .int .u64 d.gen, .slice a3 d.spoilt.length c3, .bool d.whole, .bool d.without] := hw0 ▸ BoxAt.new _ _ rfl
  have hEw : Ext w w0 := hw0 ▸ HE0.out _
  have b0 := (hb0.cell 0).trans (show _ = some (Value.slice a0 d.segs.length c0) from rfl)
  have b1 := (hb0.cell 1).trans (show _ = some (Value.slice a1 d.others.length c1) from rfl)
  have HEW := Lib.hid hEw; have HW0 := Lib.hid hw0; clear hEw HE0 hw0 hb0
  have HB0 := Lib.hid b0; have HB1 := Lib.hid b1
  go_enter Tryz.func12, Tryz.ntmps12
  go_wp2
  rw [HW0.out]
  go_loopw [3, 4] (fun n i wr => ∃ (k : Nat) (z : Int), k ≤ d.segs.length ∧ i = .int .i64 k ∧ n = .int .i64 z ∧ 0 ≤ z ∧ z ≤ 40000 + k * 281474976710656 ∧ (∀ s ∈ d.segs.take k, segOK z s) ∧ Ext w0 wr) (fun _ i _ => d.segs.length - (intOf i).toNat)
  case atStart => exact ⟨0, 0, by omega, rfl, rfl, by omega, by omega, by simp, Ext.refl w0⟩
  case round =>
    obtain ⟨k, z, hk, rfl, rfl, hz0, hz1, hseg, hE⟩ := hrel
    have e0 := hE.cell b0
    have e1 := hE.cell b1
    have hEw := HEW.out.trans hE
    clear b0 b1
    have HSEG := Lib.hid hseg; have HE := Lib.hid hE; have HEWR := Lib.hid hEw; clear hseg hE hEw
    by_cases hlt : k < d.segs.length
    · obtain ⟨s, hs⟩ : ∃ s, d.segs[k]? = some s := ⟨_, List.getElem?_eq_getElem hlt⟩
      have hsm := List.mem_of_getElem? hs
      have hft := HF.out.tail s hsm
      have hfr := HF.out.recs s hsm
      obtain ⟨b, rfl, u1, u2, -, s1, s2, -, -, hrec, htail⟩ := (H0.out.ext fun _ _ => SgAt.ext HEWR.out).at hs
      obtain ⟨ra, rc, rfl, hrc, hrc'⟩ := hrec.form
      obtain ⟨ta, tc, rfl, htc, htc', -⟩ := htail.open
      have HREC := Lib.hid hrec; have HS1 := Lib.hid s1; have HS := Lib.hid hs; have HFR := Lib.hid hfr
      clear hrec htail hs hsm hfr
      go_wp2
      go_loopw [3, 5] (fun n i wq => ∃ (j : Nat) (y : Int), j ≤ s.recs.length ∧ i = .int .i64 j ∧ n = .int .i64 y ∧ z ≤ y ∧ (y ≤ 40000 ∨ y ≤ z + 281474976710656) ∧ segTo y s j ∧ Ext wr wq) (fun _ i _ => s.recs.length - (intOf i).toNat)
      case atStart => exact ⟨0, z + s.tail.length, by omega, rfl, by go_num, by omega, by omega, ⟨by omega, by omega, by simp⟩, Ext.refl _⟩
      case round =>
        obtain ⟨j, y, hj, rfl, rfl, hy0, hy1, hto, hEq⟩ := hrel
        have d0 := hEq.cell e0
        have d1 := hEq.cell e1
        have t1 := hEq.cell s1
        have hEw := HEWR.out.trans hEq
        clear e0 e1 s1 s2
        have HTO := Lib.hid hto; have HEQ := Lib.hid hEq; have HEWQ := Lib.hid hEw; clear hto hEq hEw
        by_cases hjl : j < s.recs.length
        · obtain ⟨r, hr⟩ : ∃ r, s.recs[j]? = some r := ⟨_, List.getElem?_eq_getElem hjl⟩
          obtain ⟨hk1, hv1⟩ := HFR.out r (List.mem_of_getElem? hr)
          obtain ⟨bb, rfl, -, r1, r2, -⟩ := (HREC.out.ext fun _ _ => RcAt.ext HEQ.out).at hr
          have HR := Lib.hid hr; clear hr
          obtain ⟨y2, hy2⟩ : ∃ y2, y + 20 + r.key.size + r.val.size = y2 := ⟨_, rfl⟩
          have hst := HTO.out.step HR.out hy2.symm (by omega)
          have HST := Lib.hid hst; clear hst
          go_wp2_with fail
          go_quiet (fail)
          by_cases hbig : 40000 < y2
          · go_wp2
            go_ret
            exact SmallIs.no (HEWQ.out.trans (Ext.drewN _ nq))
          · go_wp2
            go_roundw
            case rel => exact ⟨j + 1, y2, by omega, by go_num, by go_num, by omega, by omega, HST.out, HEQ.out.trans (Ext.drewN _ nq)⟩
            case measure => simp [intOf]; omega
        · obtain rfl : j = s.recs.length := by omega
          have hall := take_step (fun s hs => (HSEG.out s hs).mono hy0) HS.out HTO.out.all
          have HALL := Lib.hid hall; clear hall
          go_wp2
          go_roundw
          case rel => exact ⟨k + 1, y, by omega, by go_num, rfl, by omega, by omega, HALL.out, HE.out.trans HEQ.out⟩
          case measure => simp [intOf]; omega
    · obtain rfl : k = d.segs.length := by omega
      have hsegs : ∀ s ∈ d.segs, segOK z s := by have := HSEG.out; rwa [List.take_length] at this
      have HSG := Lib.hid hsegs; clear hsegs
      go_wp2
      go_loopw [3, 6] (fun n i wq => ∃ (k : Nat) (y : Int), k ≤ d.others.length ∧ i = .int .i64 k ∧ n = .int .i64 y ∧ z ≤ y ∧ (y ≤ 40000 ∨ y = z) ∧ (∀ s ∈ d.others.take k, othOK y s) ∧ Ext wr wq) (fun _ i _ => d.others.length - (intOf i).toNat)
      case atStart => exact ⟨0, z, by omega, rfl, rfl, by omega, by omega, by simp, Ext.refl _⟩
      case round =>
        obtain ⟨k, y, hk, rfl, rfl, hy0, hy1, hoth, hEq⟩ := hrel
        have d1 := hEq.cell e1
        have hEw := HEWR.out.trans hEq
        clear e0 e1
        have HOT := Lib.hid hoth; have HEQ := Lib.hid hEq; have HEWQ := Lib.hid hEw; clear hoth hEq hEw
        by_cases hlt : k < d.others.length
        · obtain ⟨s, hs⟩ : ∃ s, d.others[k]? = some s := ⟨_, List.getElem?_eq_getElem hlt⟩
          have hsm := List.mem_of_getElem? hs
          obtain ⟨hf1, hf2⟩ := HF.out.other s hsm
          obtain ⟨b, rfl, u2, o0, -, o2, hby⟩ := (H1.out.ext fun _ _ => OtAt.ext HEWQ.out).at hs
          obtain ⟨ta, tc, rfl, htc, htc', -⟩ := hby.open
          obtain ⟨y2, hy2⟩ : ∃ y2, y + s.bytes.length + s.name.size = y2 := ⟨_, rfl⟩
          have hst := take_step (p := othOK y2) (fun s hs => ⟨by have := (HOT.out s hs).1; omega, by have := (HOT.out s hs).2; omega⟩) hs ⟨by omega, by omega⟩
          have HST := Lib.hid hst
          clear hst hs hsm hby
          go_wp2_with fail
          go_quiet (fail)
          by_cases hbig : 40000 < y2
          · go_wp2
            go_ret
            exact SmallIs.no (HEWQ.out.trans (Ext.drewN _ nq))
          · go_wp2
            go_roundw
            case rel => exact ⟨k + 1, y2, by omega, by go_num, by go_num, by omega, by omega, HST.out, HEQ.out.trans (Ext.drewN _ nq)⟩
            case measure => simp [intOf]; omega
        · obtain rfl : k = d.others.length := by omega
          have hother : ∀ s ∈ d.others, othOK y s := by have := HOT.out; rwa [List.take_length] at this
          have hfin : SmallIs d w (.returned (.bool (decide (y ≤ 40000)))) wr := by
            refine ⟨_, rfl, fun h => ?_, HEWQ.out⟩
            have hyl := of_decide_eq_true h
            refine ⟨by omega, by omega, by omega, fun s hs => ?_, fun s hs => ?_, fun s hs => ?_⟩
            · have := (HSG.out s hs).1; omega
            · have h1 := HSG.out s hs
              refine ⟨by have := h1.2.1; omega, fun r hr => ?_⟩
              have := h1.2.2 r hr; omega
            · have := hother s hs
              unfold othOK at this; omega
          have HFN := Lib.hid hfin; clear hfin hother
          go_wp2
          go_ret
          exact HFN.out
end Go.Proofs.YtgpbhjjajpbeeaaGreatDoor
/-
  What sweep keeps, as plain mathematics. No program in sight.
-/
namespace Go.Proofs.YtgpbhjjajpbeeaaGreatDoor
open Go.RowKit Go.Lib Go.Maps Dk
--PURE2
namespace Dk
/-- the map of what is kept -/
def keepL (ids : List Int) : List (Nm × Int) := ids.foldl (fun l k => aPut l (segName bData k.toNat) 1) [(bManifest, 1)]
theorem keepL_snoc (ids : List Int) (x : Int) : keepL (ids ++ [x]) = aPut (keepL ids) (segName bData x.toNat) 1 := by unfold keepL; rw [List.foldl_append]; rfl
theorem listedB_snoc' (ids : List Int) (x : Int) (n : Nm) : listedB (ids ++ [x]) n = (listedB ids n || decide (segName bData x.toNat = n)) := by
  unfold listedB; rw [List.any_append]; simp
theorem snocInd {α : Type} {p : List α → Prop} (h0 : p []) (h1 : ∀ l x, p l → p (l ++ [x])) (l : List α) : p l := by
  have : ∀ k : List α, p k.reverse := by
    intro k
    induction k with
    | nil => exact h0
    | cons x k ih => rw [List.reverse_cons]; exact h1 _ _ ih
  have := this l.reverse
  rwa [List.reverse_reverse] at this
theorem keepL_look (ids : List Int) (n : Nm) : aLook (keepL ids) n = if (decide (n = bManifest) || listedB ids n) = true then some 1 else none := by
  induction ids using snocInd with
  | h0 =>
    show aLook [(bManifest, 1)] n = _
    rw [aLook_cons, aLook_nil]
    by_cases h : n = bManifest
    · subst h; simp
    · rw [if_neg (Ne.symm h), decide_eq_false h]; simp [listedB]
  | h1 l x ih =>
    rw [keepL_snoc, aLook_put, ih, listedB_snoc']
    by_cases h : n = segName bData x.toNat
    · rw [if_pos h, decide_eq_true h.symm]; simp
    · rw [if_neg h, decide_eq_false (Ne.symm h), Bool.or_false]
/-- the disk once the first k names have been gone through -/
def D.swept (d : D) (ids : List Int) (k : Nat) : D := (d.removeAll ((d.list.take k).filter fun n => !keepB ids n)).2
theorem D.swept_zero (d : D) (ids : List Int) : d.swept ids 0 = d := by unfold D.swept; rfl
structure Sw (d : D) (ids : List Int) (k : Nat) : Prop where
  ok : d.removeAll ((d.list.take k).filter fun n => !keepB ids n) = (.ok, d.swept ids k)
  now : (d.swept ids k).now = setMoves d.now (((d.list.take k).filter fun n => !keepB ids n).map fun n => (n, none))
  moves : (d.swept ids k).moves = d.moves ++ ((d.list.take k).filter fun n => !keepB ids n).map fun n => [(n, none)]
  calm : (d.swept ids k).Calm
theorem D.Calm.sw {d : D} (h : d.Calm) (hn : (d.now.map (·.1)).Nodup) (ids : List Int) (k : Nat) : Sw d ids k := by
  have hr := h.removeAll ((d.list.take k).filter fun n => !keepB ids n) (((list_nodup hn).sublist (List.take_sublist _ _)).filter _) (fun n hm => by
    have := List.mem_of_mem_take (List.mem_filter.1 hm).1
    rwa [list_mem] at this)
  have e : d.swept ids k = { d with now := setMoves d.now (((d.list.take k).filter fun n => !keepB ids n).map fun n => (n, none)), moves := d.moves ++ ((d.list.take k).filter fun n => !keepB ids n).map fun n => [(n, none)] } := by
    unfold D.swept; rw [hr]
  exact ⟨by rw [hr, e], by rw [e], by rw [e], by rw [e]; exact h⟩
theorem removeAll_snoc (d : D) (l : List Nm) (n : Nm) (h : (d.removeAll l).1 = .ok) : d.removeAll (l ++ [n]) = match (d.removeAll l).2.remove n with | (.ok, d1) => (.ok, d1) | (e, d1) => (e, d1) := by
  induction l generalizing d with
  | nil =>
    show d.removeAll [n] = match d.remove n with | (.ok, d1) => (.ok, d1) | (e, d1) => (e, d1)
    unfold D.removeAll
    rcases d.remove n with ⟨e, d1⟩
    cases e <;> rfl
  | cons m l ih =>
    have e1 : ∀ (d : D) (k : List Nm), d.removeAll (m :: k) = match d.remove m with | (.ok, d1) => d1.removeAll k | (e, d1) => (e, d1) := fun _ _ => rfl
    rw [List.cons_append, e1, e1]
    rw [e1] at h
    rcases hr : d.remove m with ⟨e, d1⟩
    rw [hr] at h
    cases e with
    | ok => exact ih d1 h
    | num _ => cases h
    | file _ _ => cases h
theorem swept_keep {d : D} {ids : List Int} {k : Nat} {n : Nm} (hn : d.list[k]? = some n) (hk : keepB ids n = true) : d.swept ids (k + 1) = d.swept ids k := by
  unfold D.swept
  rw [List.take_add_one, hn]
  show (d.removeAll (List.filter _ (d.list.take k ++ [n]))).2 = _
  rw [List.filter_append, List.filter_cons_of_neg (by rw [hk]; decide), List.filter_nil, List.append_nil]
theorem swept_drop {d : D} {ids : List Int} {k : Nat} {n : Nm} (h : d.Calm) (hnd : (d.now.map (·.1)).Nodup) (hn : d.list[k]? = some n) (hk : keepB ids n = false) : (d.swept ids k).remove n = (.ok, d.swept ids (k + 1)) := by
  have s0 := h.sw hnd ids k
  have s1 := h.sw hnd ids (k + 1)
  have e : (d.list.take (k + 1)).filter (fun n => !keepB ids n) = (d.list.take k).filter (fun n => !keepB ids n) ++ [n] := by
    rw [List.take_add_one, hn]
    show List.filter _ (d.list.take k ++ [n]) = _
    rw [List.filter_append, List.filter_cons_of_pos (by rw [hk]; decide), List.filter_nil]
  have h1 := s1.ok
  rw [e, removeAll_snoc _ _ _ (by rw [s0.ok]), s0.ok] at h1
  dsimp only at h1
  rcases hr : (d.swept ids k).remove n with ⟨er, d1⟩
  rw [hr] at h1
  cases er with
  | ok => exact h1
  | num _ => injection h1 with h1 _; cases h1
  | file _ _ => injection h1 with h1 _; cases h1
theorem swept_all {d : D} (h : d.Calm) (hnd : (d.now.map (·.1)).Nodup) (ids : List Int) : d.sweep ids = (d.swept ids d.list.length).syncDir := by
  have s := h.sw hnd ids d.list.length
  have h1 := s.ok
  rw [List.take_length] at h1
  unfold D.sweep
  rw [h1]
end Dk
--END2
end Go.Proofs.YtgpbhjjajpbeeaaGreatDoor
/-
  What is known of a disk behind Clean, behind a crash: plain mathematics. No program in sight.
-/
namespace Go.Proofs.YtgpbhjjajpbeeaaGreatDoor
open Go.RowKit Go.Lib Go.Maps Dk
--PURE2
namespace Dk
/-- few files, short names, no great file -/
structure D.Fit (d : D) : Prop where
  data : ∀ x ∈ d.ids, (d.node x).data.length ≤ 1099511627776
  len : d.now.length ≤ 400
  names : ∀ p ∈ d.now, p.1.length ≤ 1000000
theorem drop_len (l : List (Nm × Nat)) (ns : List Nm) : (setMoves l (ns.map fun n => (n, none))).length ≤ l.length := by
  induction ns generalizing l with
  | nil => exact Nat.le_refl _
  | cons n ns ih => exact Nat.le_trans (ih (aDel l n)) (List.length_filter_le _ _)
theorem D.Fit.sweep {d : D} (h : d.Fit) (hs : d.Safe) (ids : List Int) : (d.sweep ids).2.Fit := by
  obtain ⟨e, he, -, -, hids, -, hnode⟩ := hs.sweep ids
  have hnow : (d.sweep ids).2.now = setMoves d.now (((d.list.take d.list.length).filter fun n => !keepB ids n).map fun n => (n, none)) := by
    have hsw := hs.calm.sw hs.nodup ids d.list.length
    rw [swept_all hs.calm hs.nodup ids, hsw.calm.syncDir]
    exact hsw.now
  refine ⟨fun x hx => ?_, ?_, fun p hp => ?_⟩
  · rw [he] at hx ⊢
    dsimp only at hx ⊢
    rw [hids] at hx; rw [hnode]; exact h.data x hx
  · rw [hnow]; exact Nat.le_trans (drop_len _ _) h.len
  · rw [hnow] at hp
    rcases mem_setMoves hp with hp | ⟨x, hx, e⟩
    · exact h.names p hp
    · obtain ⟨n, -, rfl⟩ := List.mem_map.1 hx; cases e
theorem D.Safe.stepped {d : D} (h : d.Safe) (dir : Nat) : d.stepped dir = d.safe := by unfold D.stepped; rw [h.moves]; simp
theorem D.Safe.safeNames {d : D} (h : d.Safe) (f : d.Fit) : ∀ p ∈ d.safe, p.1.length ≤ 1000000 := by
  intro p hp
  have e := aLook_of_mem h.nodup' hp
  rw [h.same] at e
  exact f.names _ (aLook_mem e)
theorem cutAt_le (d : D) (tail : Nat) (vis : List (Nm × Nat)) (x : Nat) : (d.cutAt tail vis x).data.length ≤ (d.node x).data.length := by
  unfold D.cutAt
  split
  · unfold Dk.cut
    dsimp only
    rw [List.length_take]; exact Nat.min_le_right _ _
  · exact Nat.le_refl _
theorem D.Fit.crashed {d : D} (f : d.Fit) (h : d.Safe) (dir tail : Nat) {vis : List (Nm × Nat)} (hv : vis.Perm (d.stepped dir)) : (d.crashed dir tail vis).Fit := by
  rw [h.stepped] at hv
  refine ⟨fun x hx => Nat.le_trans (cutAt_le d tail vis x) (f.data x hx), ?_, fun p hp => h.safeNames f p (hv.mem_iff.1 hp)⟩
  have hk := (h.same.keys h.nodup' h.nodup).length_eq
  simp only [List.length_map] at hk
  show vis.length ≤ 400
  rw [hv.length_eq, hk]; exact f.len
end Dk
--END2
end Go.Proofs.YtgpbhjjajpbeeaaGreatDoor
