/-
  A directory that came in as an argument: opened.
-/
import Derived.Test.YtgpbhjjajpbeeaaGreatDoorC37
import Derived.Test.YtgpbhjjajpbeeaaGreatDoorC27
set_option linter.unusedSimpArgs false
set_option linter.unusedVariables false
set_option linter.unnecessarySimpa false
namespace Go.Proofs.YtgpbhjjajpbeeaaGreatDoor
open Go.ChangeShapes Go.WideShapes Go.ChangeAt Go.RowKit Go.Joins Go.Lib Pl Go.Deep

namespace zopen
variable {H : Type} {enc : TypeId × Value → H} {W : World}
noncomputable abbrev Rd (enc : TypeId × Value → H) (W : World) (n : Nat) (t : TypeId) (cs : List Value) : Option (DataW H × List MemPlace) := DataW.trod enc Tryz.prog W 0 (fun _ => true) true n t cs
/-- all its weights are at most B -/
def Wt (d : DataW H) (t : TypeId) (B : Nat) : Prop := ∀ n ∈ d.weights Tryz.prog t, n ≤ B

theorem bytes_in {n : Nat} {v : Value} {y : DataW H × List MemPlace} (h : Rd enc W n 25 [v] = some y) : ∃ l : List UInt8, Bytes W v l ∧ ∀ B, Wt y.1 25 B → l.length ≤ B := by
  rcases open_ints Tryz.underlying25 Tryz.underlying5 (by kernel_rfl) h with ⟨hcs, hx⟩ | ⟨a, len, cap, zs, hcs, hb, hl, hm, hz, hx, hcell, hwz⟩
  · simp only [List.cons.injEq, and_true] at hcs
    subst hcs
    exact ⟨[], ⟨none, 0, rfl, Nat.le_refl _, ⟨by omega, fun _ => rfl⟩, fun h => absurd rfl h⟩, fun B _ => by simp⟩
  · simp only [List.cons.injEq, and_true] at hcs
    subst hcs
    simp only [if_true] at hz
    have hlen : (zs.take len).length = len := by rw [List.length_take]; omega
    have hmap : ((zs.take len).map fun n => UInt8.ofNat n.toNat).map byteV = (zs.take len).map (Value.int .u8) := by
      rw [List.map_map]
      apply List.map_congr_left
      intro n hn
      have := hwz n (List.mem_of_mem_take hn)
      simp only [Lit.wf, Bool.and_eq_true, decide_eq_true_eq] at this
      have h0 : (0 : Int) ≤ n := this.1
      have h1 : n ≤ 255 := this.2
      simp only [Function.comp, byteV, Value.int.injEq, true_and]
      rw [UInt8.toNat_ofNat_of_lt' (by show n.toNat < 256; omega)]; omega
    refine ⟨(zs.take len).map fun n => UInt8.ofNat n.toNat, ?_, fun B hB => ?_⟩
    · unfold Bytes
      rw [hmap, List.length_map, hlen]
      refine ⟨_, _, rfl, hl, ⟨hm, fun h => by cases h⟩, fun _ => ⟨a, rfl, fun i x hi => ?_⟩⟩
      rw [List.getElem?_map, List.getElem?_take] at hi
      split at hi
      · have hil : i < zs.length := by omega
        have hce := hcell i hil
        rw [List.getD_eq_getElem?_getD] at hce
        rw [List.getElem?_eq_getElem hil] at hi hce
        injection hi with hi
        rw [← hi]; exact hce
      · cases hi
    · rw [List.length_map, hlen]
      subst hx
      have e2 := hB (((lits (H := H) .u8 (zs.take len)).length + (lits (H := H) .u8 (zs.drop len)).length) * Tryz.prog.bytesOf 5) (by simp [DataW.weights, Tryz.underlying25])
      have e3 : (lits (H := H) .u8 (zs.take len)).length = len := by rw [← hlen]; simp [lits]
      rw [e3, show Tryz.prog.bytesOf 5 = 1 by kernel_rfl] at e2
      omega
theorem wt_all {e : TypeId} : ∀ {l : List (DataW H)} {d : DataW H}, d ∈ l → ∀ n ∈ d.weights Tryz.prog e, n ∈ DataW.weightsAll Tryz.prog e l
  | x :: l, d, hd, n, hn => by
    rcases List.mem_cons.1 hd with rfl | hd
    · exact List.mem_append.2 (.inl hn)
    · exact List.mem_append.2 (.inr (wt_all hd n hn))
/-- a slice, its elements opened -/
theorem row_in {α : Type} [Inhabited α] {t e : TypeId} {sz : Nat} (ht : Tryz.prog.underlying t = some (.slice e)) (hsz : Tryz.prog.cellsOf e = sz) (at_ : World → Addr → α → Prop) (fits : α → Nat → Prop)
    (hel : ∀ (b : Addr) (n : Nat) (cs : List Value) (y : DataW H × List MemPlace), W.cells? 0 b sz = some cs → Rd enc W n e cs = some y → ∃ x, at_ W b x ∧ ∀ B, Wt y.1 e B → fits x B)
    {n : Nat} {v : Value} {y : DataW H × List MemPlace} (h : Rd enc W n t [v] = some y) : ∃ l : List α, RowOf W v l sz at_ ∧ ∀ B, Wt y.1 t B → ∀ x ∈ l, fits x B := by
  rcases open_slice ht h with ⟨hcs, hx⟩ | ⟨a, len, cap, m, k, D, Pl, hcs, hb, hl, hm, hmm, hy, hi⟩
  · simp only [List.cons.injEq, and_true] at hcs
    subst hcs
    exact ⟨[], ⟨none, 0, rfl, Nat.le_refl _, by omega, fun i x hx => by cases hx⟩, fun B _ x hx => by cases hx⟩
  · simp only [List.cons.injEq, and_true] at hcs
    subst hcs
    simp only [if_true] at hmm
    rw [hsz] at hi
    obtain ⟨f, hf⟩ := choose_lt (p := fun i x => at_ W (a.add (i * sz)) x ∧ ∀ B, Wt (D i) e B → fits x B) (fun i hil => by
      obtain ⟨cs, h1, h2⟩ := hi i hil
      exact hel _ _ _ _ h1 h2)
    have hml : maxLen ≤ 9223372036854775807 := by unfold maxLen; omega
    refine ⟨(List.range len).map f, ⟨some a, cap, by simp, by simpa using hl, by omega, fun i x hx => ?_⟩, fun B hB x hx => ?_⟩
    · rw [List.getElem?_map] at hx
      obtain ⟨j, hj, rfl⟩ := Option.map_eq_some_iff.1 hx
      rw [List.getElem?_range] at hj
      · injection hj with hj; subst hj
        exact ⟨a, rfl, (hf i (by
          have : i < len := by
            rcases Nat.lt_or_ge i len with h | h
            · exact h
            · rw [List.getElem?_eq_none (by simpa using h)] at hx; cases hx
          omega)).1⟩
      · rcases Nat.lt_or_ge i len with h | h
        · exact h
        · rw [List.getElem?_eq_none (by simpa using h)] at hx; cases hx
    · obtain ⟨i, hil, rfl⟩ := List.mem_map.1 hx
      have hil' : i < len := List.mem_range.1 hil
      refine (hf i (by omega)).2 B fun n hn => hB n ?_
      subst hy
      have : n ∈ DataW.weightsAll Tryz.prog e ((List.range len).map D) := wt_all (List.mem_map.2 ⟨i, hil, rfl⟩) n hn
      unfold DataW.weights
      rw [ht]
      exact List.mem_cons.2 (.inr (List.mem_append.2 (.inl this)))
theorem list3 {cs : List Value} (h : cs.length = 3) : ∃ c0 c1 c2, cs = [c0, c1, c2] := by
  match cs, h with
  | [c0, c1, c2], _ => exact ⟨c0, c1, c2, rfl⟩
theorem list4 {cs : List Value} (h : cs.length = 4) : ∃ c0 c1 c2 c3, cs = [c0, c1, c2, c3] := by
  match cs, h with
  | [c0, c1, c2, c3], _ => exact ⟨c0, c1, c2, c3, rfl⟩
theorem list5 {cs : List Value} (h : cs.length = 5) : ∃ c0 c1 c2 c3 c4, cs = [c0, c1, c2, c3, c4] := by
  match cs, h with
  | [c0, c1, c2, c3, c4], _ => exact ⟨c0, c1, c2, c3, c4, rfl⟩
theorem list6 {cs : List Value} (h : cs.length = 6) : ∃ c0 c1 c2 c3 c4 c5, cs = [c0, c1, c2, c3, c4, c5] := by
  match cs, h with
  | [c0, c1, c2, c3, c4, c5], _ => exact ⟨c0, c1, c2, c3, c4, c5, rfl⟩
theorem c1_4 : Tryz.prog.cellsOf 4 = 1 := by kernel_rfl
theorem c1_3 : Tryz.prog.cellsOf 3 = 1 := by kernel_rfl
theorem c1_9 : Tryz.prog.cellsOf 9 = 1 := by kernel_rfl
theorem c1_22 : Tryz.prog.cellsOf 22 = 1 := by kernel_rfl
theorem c1_23 : Tryz.prog.cellsOf 23 = 1 := by kernel_rfl
theorem c1_24 : Tryz.prog.cellsOf 24 = 1 := by kernel_rfl
theorem c1_25 : Tryz.prog.cellsOf 25 = 1 := by kernel_rfl
theorem c1_92 : Tryz.prog.cellsOf 92 = 1 := by kernel_rfl
theorem add_pos (b : Addr) {n : Nat} (h : n ≠ 0) : b.add n = ⟨b.block, b.off + n, none⟩ := by unfold Addr.add; rw [if_neg h]
theorem add_zero (b : Addr) : b.add 0 = b := rfl

theorem rc_in (b : Addr) (n : Nat) (cs : List Value) (y : DataW H × List MemPlace) (hc : W.cells? 0 b 4 = some cs) (h : Rd enc W n 111 cs = some y) : ∃ r, RcAt W b r ∧ ∀ B, Wt y.1 111 B → r.key.size ≤ B ∧ r.val.size ≤ B := by
  obtain ⟨-, hl, hcell⟩ := World.cells?_some hc
  obtain ⟨c0, c1, c2, c3, rfl⟩ := list4 hl
  obtain ⟨y0, y1, y2, y3, k, rfl, -, h0, h1, h2, h3⟩ := trod_struct4 Tryz.underlying111 h
  simp only [c1_24, c1_9, c1_4, List.drop_succ_cons, List.drop_zero, List.take_succ_cons, List.take_zero] at h0 h1 h2 h3
  obtain ⟨a, e0, rfl, wa⟩ := DataW.trod_int Tryz.underlying24 h0
  obtain ⟨ky, e1, rfl, hk⟩ := DataW.trod_string Tryz.underlying9 h1
  obtain ⟨v, e2, rfl, hv⟩ := DataW.trod_string Tryz.underlying9 h2
  obtain ⟨d, e3, rfl⟩ := DataW.trod_bool Tryz.underlying4 h3
  simp only [List.cons.injEq, and_true] at e0 e1 e2 e3
  subst e0; subst e1; subst e2; subst e3
  have wa0 : 0 ≤ a := by
    have := wa
    simp only [Lit.wf, Bool.and_eq_true, decide_eq_true_eq] at this
    exact this.1
  obtain ⟨seq, rfl⟩ := Int.eq_ofNat_of_zero_le wa0
  refine ⟨⟨seq, ky, v, d⟩, ⟨hcell 0 (by omega), (add_pos b (n := 1) (by omega)) ▸ hcell 1 (by omega), (add_pos b (n := 2) (by omega)) ▸ hcell 2 (by omega), (add_pos b (n := 3) (by omega)) ▸ hcell 3 (by omega)⟩, fun B hB => ?_⟩
  have m0 := hB ky.size (by simp [DataW.weights, DataW.weightsEach, Tryz.underlying111, size_data])
  have m1 := hB v.size (by simp [DataW.weights, DataW.weightsEach, Tryz.underlying111, size_data])
  exact ⟨m0, m1⟩
instance : Inhabited Rc := ⟨⟨0, .empty, .empty, false⟩⟩
instance : Inhabited Sg := ⟨⟨0, [], [], false, false⟩⟩
instance : Inhabited Ot := ⟨⟨.empty, 0, []⟩⟩

theorem ot_in (b : Addr) (n : Nat) (cs : List Value) (y : DataW H × List MemPlace) (hc : W.cells? 0 b 3 = some cs) (h : Rd enc W n 113 cs = some y) : ∃ r, OtAt W b r ∧ ∀ B, Wt y.1 113 B → r.name.size ≤ B ∧ r.bytes.length ≤ B := by
  obtain ⟨-, hl, hcell⟩ := World.cells?_some hc
  obtain ⟨c0, c1, c2, rfl⟩ := list3 hl
  obtain ⟨y0, y1, y2, k, rfl, -, h0, h1, h2⟩ := trod_struct3 Tryz.underlying113 h
  simp only [c1_3, c1_9, c1_25, List.drop_succ_cons, List.drop_zero, List.take_succ_cons, List.take_zero] at h0 h1 h2
  obtain ⟨ky, e0, rfl, hk⟩ := DataW.trod_string Tryz.underlying9 h0
  obtain ⟨a, e1, rfl, wa⟩ := DataW.trod_int Tryz.underlying3 h1
  obtain ⟨l, hb, hw⟩ := bytes_in h2
  simp only [List.cons.injEq, and_true] at e0 e1
  subst e0; subst e1
  refine ⟨⟨ky, a, l⟩, ⟨c2, hcell 0 (by omega), (add_pos b (n := 1) (by omega)) ▸ hcell 1 (by omega), (add_pos b (n := 2) (by omega)) ▸ hcell 2 (by omega), hb⟩, fun B hB => ⟨?_, ?_⟩⟩
  · exact hB ky.size (by simp [DataW.weights, DataW.weightsEach, Tryz.underlying113, size_data])
  · exact hw B fun n hn => hB n (by
      unfold DataW.weights
      rw [Tryz.underlying113]
      exact DataW.weights_mem_each (j := 2) (t := 25) rfl rfl n hn)
theorem trod_struct5 {t : TypeId} {f0 f1 f2 f3 f4 : Field} {fuel : Nat} {cs : List Value} {x : DataW H × List MemPlace} (ht : Tryz.prog.underlying t = some (.struct #[f0, f1, f2, f3, f4])) (h : Rd enc W fuel t cs = some x) :
    ∃ y0 y1 y2 y3 y4 n, x.1 = .agg [y0.1, y1.1, y2.1, y3.1, y4.1] ∧ Rd enc W n f0.type ((cs.drop f0.offset).take (Tryz.prog.cellsOf f0.type)) = some y0 ∧
      Rd enc W n f1.type ((cs.drop f1.offset).take (Tryz.prog.cellsOf f1.type)) = some y1 ∧ Rd enc W n f2.type ((cs.drop f2.offset).take (Tryz.prog.cellsOf f2.type)) = some y2 ∧
      Rd enc W n f3.type ((cs.drop f3.offset).take (Tryz.prog.cellsOf f3.type)) = some y3 ∧ Rd enc W n f4.type ((cs.drop f4.offset).take (Tryz.prog.cellsOf f4.type)) = some y4 := by
  obtain ⟨xs, n, _, rfl, hl, hlen, hf⟩ := DataW.trod_struct ht h
  match xs, hlen with
  | [y0, y1, y2, y3, y4], _ => exact ⟨y0, y1, y2, y3, y4, n, by simp, by simpa using hf 0 f0 rfl, by simpa using hf 1 f1 rfl, by simpa using hf 2 f2 rfl, by simpa using hf 3 f3 rfl, by simpa using hf 4 f4 rfl⟩
theorem trod_struct6 {t : TypeId} {f0 f1 f2 f3 f4 f5 : Field} {fuel : Nat} {cs : List Value} {x : DataW H × List MemPlace} (ht : Tryz.prog.underlying t = some (.struct #[f0, f1, f2, f3, f4, f5])) (h : Rd enc W fuel t cs = some x) :
    ∃ y0 y1 y2 y3 y4 y5 n, x.1 = .agg [y0.1, y1.1, y2.1, y3.1, y4.1, y5.1] ∧ Rd enc W n f0.type ((cs.drop f0.offset).take (Tryz.prog.cellsOf f0.type)) = some y0 ∧
      Rd enc W n f1.type ((cs.drop f1.offset).take (Tryz.prog.cellsOf f1.type)) = some y1 ∧ Rd enc W n f2.type ((cs.drop f2.offset).take (Tryz.prog.cellsOf f2.type)) = some y2 ∧
      Rd enc W n f3.type ((cs.drop f3.offset).take (Tryz.prog.cellsOf f3.type)) = some y3 ∧ Rd enc W n f4.type ((cs.drop f4.offset).take (Tryz.prog.cellsOf f4.type)) = some y4 ∧
      Rd enc W n f5.type ((cs.drop f5.offset).take (Tryz.prog.cellsOf f5.type)) = some y5 := by
  obtain ⟨xs, n, _, rfl, hl, hlen, hf⟩ := DataW.trod_struct ht h
  match xs, hlen with
  | [y0, y1, y2, y3, y4, y5], _ => exact ⟨y0, y1, y2, y3, y4, y5, n, by simp, by simpa using hf 0 f0 rfl, by simpa using hf 1 f1 rfl, by simpa using hf 2 f2 rfl, by simpa using hf 3 f3 rfl, by simpa using hf 4 f4 rfl, by simpa using hf 5 f5 rfl⟩
theorem sg_in (b : Addr) (n : Nat) (cs : List Value) (y : DataW H × List MemPlace) (hc : W.cells? 0 b 5 = some cs) (h : Rd enc W n 94 cs = some y) :
    ∃ s, SgAt W b s ∧ ∀ B, Wt y.1 94 B → s.tail.length ≤ B ∧ ∀ r ∈ s.recs, r.key.size ≤ B ∧ r.val.size ≤ B := by
  obtain ⟨-, hl, hcell⟩ := World.cells?_some hc
  obtain ⟨c0, c1, c2, c3, c4, rfl⟩ := list5 hl
  obtain ⟨y0, y1, y2, y3, y4, k, hy, h0, h1, h2, h3, h4⟩ := trod_struct5 Tryz.underlying94 h
  simp only [c1_3, c1_92, c1_25, c1_4, List.drop_succ_cons, List.drop_zero, List.take_succ_cons, List.take_zero] at h0 h1 h2 h3 h4
  obtain ⟨a, e0, rfl, wa⟩ := DataW.trod_int Tryz.underlying3 h0
  obtain ⟨rs, hr, hrw⟩ := row_in (α := Rc) (sz := 4) Tryz.underlying92 (by kernel_rfl) RcAt (fun r B => r.key.size ≤ B ∧ r.val.size ≤ B) rc_in h1
  obtain ⟨l, hb, hw⟩ := bytes_in h2
  obtain ⟨d3, e3, rfl⟩ := DataW.trod_bool Tryz.underlying4 h3
  obtain ⟨d4, e4, rfl⟩ := DataW.trod_bool Tryz.underlying4 h4
  simp only [List.cons.injEq, and_true] at e0 e3 e4
  subst e0; subst e3; subst e4
  refine ⟨⟨a, rs, l, d3, d4⟩, ⟨c1, c2, hcell 0 (by omega), (add_pos b (n := 1) (by omega)) ▸ hcell 1 (by omega), (add_pos b (n := 2) (by omega)) ▸ hcell 2 (by omega), (add_pos b (n := 3) (by omega)) ▸ hcell 3 (by omega), (add_pos b (n := 4) (by omega)) ▸ hcell 4 (by omega), hr, hb⟩, fun B hB => ?_⟩
  unfold Wt at hB
  rw [hy] at hB
  have hm : ∀ j t d, ([3, 92, 25, 4, 4] : List TypeId)[j]? = some t → ([DataW.lit (.int .i64 a), y1.1, y2.1, .lit (.bool d3), .lit (.bool d4)] : List (DataW H))[j]? = some d → Wt d t B := fun j t d e1 e2 n hn => hB n (by
    unfold DataW.weights
    rw [Tryz.underlying94]
    exact DataW.weights_mem_each e1 e2 n hn)
  exact ⟨hw B (hm 2 25 _ rfl rfl), hrw B (hm 1 92 _ rfl rfl)⟩
set_option maxRecDepth 100000 in
/-- the directory, opened -/
theorem dr_in {base : Nat} {v : Value} {d : DataW H} {p : List MemPlace} (hval : Value.okWide Tryz.prog W .any base 27 v) (h : DataW.Trod enc Tryz.prog W 0 (fun _ => true) true 27 v d p) :
    ∃ D : Dr, DrAt W v D ∧ ∀ B, Wt d 27 B → D.Fits B := by
  obtain ⟨cs, rfl, hsz⟩ := okWide_struct Tryz.underlying27 hval
  obtain ⟨n, h⟩ := h
  have hl : cs.toList.length = 6 := by
    have e : Tryz.prog.cellsOf 27 = 6 := by kernel_rfl
    rw [Array.length_toList, hsz]; exact e
  obtain ⟨c0, c1, c2, c3, c4, c5, hcs⟩ := list6 hl
  obtain rfl : cs = #[c0, c1, c2, c3, c4, c5] := by cases cs; simp_all
  obtain ⟨y0, y1, y2, y3, y4, y5, k, hy, h0, h1, h2, h3, h4, h5⟩ := trod_struct6 Tryz.underlying27 h
  simp only [Value.cells, c1_22, c1_23, c1_24, c1_25, c1_4, List.drop_succ_cons, List.drop_zero, List.take_succ_cons, List.take_zero] at h0 h1 h2 h3 h4 h5
  obtain ⟨ss, hs, hsw⟩ := row_in (α := Sg) (sz := 5) Tryz.underlying22 (by kernel_rfl) SgAt (fun s B => s.tail.length ≤ B ∧ ∀ r ∈ s.recs, r.key.size ≤ B ∧ r.val.size ≤ B) sg_in h0
  obtain ⟨os, ho, how⟩ := row_in (α := Ot) (sz := 3) Tryz.underlying23 (by kernel_rfl) OtAt (fun r B => r.name.size ≤ B ∧ r.bytes.length ≤ B) ot_in h1
  obtain ⟨a, e2, rfl, wa⟩ := DataW.trod_int Tryz.underlying24 h2
  obtain ⟨l, hb, hw⟩ := bytes_in h3
  obtain ⟨d4, e4, rfl⟩ := DataW.trod_bool Tryz.underlying4 h4
  obtain ⟨d5, e5, rfl⟩ := DataW.trod_bool Tryz.underlying4 h5
  simp only [List.cons.injEq, and_true] at e2 e4 e5
  subst e2; subst e4; subst e5
  have wa0 : 0 ≤ a := by
    have := wa
    simp only [Lit.wf, Bool.and_eq_true, decide_eq_true_eq] at this
    exact this.1
  obtain ⟨g, rfl⟩ := Int.eq_ofNat_of_zero_le wa0
  refine ⟨⟨ss, os, g, l, d4, d5⟩, ⟨c0, c1, c3, rfl, hs, ho, hb⟩, fun B hB => ?_⟩
  have hy' : d = .agg [y0.1, y1.1, .lit (.int .u64 (g : Int)), y3.1, .lit (.bool d4), .lit (.bool d5)] := hy
  unfold Wt at hB
  rw [hy'] at hB
  have hm : ∀ j t d, ([22, 23, 24, 25, 4, 4] : List TypeId)[j]? = some t → ([y0.1, y1.1, .lit (.int .u64 (g : Int)), y3.1, .lit (.bool d4), .lit (.bool d5)] : List (DataW H))[j]? = some d → Wt d t B := fun j t d e1 e2 n hn => hB n (by
    unfold DataW.weights
    rw [Tryz.underlying27]
    exact DataW.weights_mem_each e1 e2 n hn)
  have q0 := hsw B (hm 0 22 _ rfl rfl)
  exact ⟨fun s hs => (q0 s hs).1, fun s hs => (q0 s hs).2, how B (hm 1 23 _ rfl rfl)⟩
end zopen
end Go.Proofs.YtgpbhjjajpbeeaaGreatDoor
