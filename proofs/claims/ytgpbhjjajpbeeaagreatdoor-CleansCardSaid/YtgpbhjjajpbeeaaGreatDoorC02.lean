/-
  What values in memory read as: rows of cells, slices of bytes, of numbers, of texts. No condition.
-/
import Derived.Test.YtgpbhjjajpbeeaaGreatDoorProg
import Derived.Test.YtgpbhjjajpbeeaaGreatDoorC01
import Derived.WalkKit
import Derived.WalkSpells
import Derived.WalkLawsBesides
import Derived.Lib.Hide
import Derived.OneCell
import Derived.Lib.Strings
import Derived.Lib.AppendStr
import Derived.Laws.CopyOwn
set_option linter.unusedSimpArgs false
set_option linter.unusedVariables false
set_option linter.unnecessarySimpa false
namespace Go.Proofs.YtgpbhjjajpbeeaaGreatDoor
open Go.RowKit Go.Lib

theorem size_data (s : ByteArray) : s.data.toList.length = s.size := by rw [Array.length_toList]; rfl
theorem isEmpty_size (s : ByteArray) : s.toList.isEmpty = decide (s.size = 0) := by
  rw [Lib.toList_data, ← size_data]; cases s.data.toList <;> simp
/-- the cells from a on hold xs -/
def CellsAt (w : World) (a : Addr) (xs : List Value) : Prop := ∀ i x, xs[i]? = some x → w.cell? (a.add i) = some x

/-- a slice of n elements, the cells of which are xs -/
def SliceIs (w : World) (v : Value) (n : Nat) (xs : List Value) : Prop :=
  ∃ (a : Option Addr) (cap : Nat), v = .slice a n cap ∧ n ≤ cap ∧ (cap ≤ 9223372036854775807 ∧ (a = none → cap = 0)) ∧ (xs ≠ [] → ∃ b, a = some b ∧ CellsAt w b xs)

def byteV (b : UInt8) : Value := .int .u8 b.toNat
theorem byteV_one (l : List UInt8) : ∀ u ∈ l.map byteV, u.oneCell' = true := by
  intro u hu; obtain ⟨b, _, rfl⟩ := List.mem_map.1 hu; rfl
def Bytes (w : World) (v : Value) (l : List UInt8) : Prop := SliceIs w v l.length (l.map byteV)
def Ints (w : World) (v : Value) (l : List Int) : Prop := SliceIs w v l.length (l.map (Value.int .i64))

/-- nothing that was there has turned (streams neither) -/
abbrev Ext (w w' : World) : Prop := Below w.heap.size w w'

theorem Ext.refl (w : World) : Ext w w := Below.refl _ _
theorem Ext.trans {a b c : World} (h : Ext a b) (k : Ext b c) : Ext a c := Below.trans h (k.mono h.size)
theorem Ext.drewN (w : World) (n : Nat) : Ext w (w.drewN n) := by
  induction n with
  | zero => exact Ext.refl w
  | succ n ih => exact Below.drew ih
theorem Ext.cell {w w' : World} (h : Ext w w') {a : Addr} {v : Value} (hc : w.cell? a = some v) : w'.cell? a = some v :=
  (Below.cell h (World.block_lt_of_cell? w a hc)).trans hc
theorem Ext.new {w w' : World} (h : Ext w w') (o : Obj) : Ext w (w'.alloc o) := Below.alloc h h.size o
theorem CellsAt.ext {w w' : World} (h : Ext w w') {a : Addr} {xs : List Value} (hc : CellsAt w a xs) : CellsAt w' a xs :=
  fun i x hx => h.cell (hc i x hx)
theorem SliceIs.ext {w w' : World} (h : Ext w w') {v : Value} {n : Nat} {xs : List Value} (hs : SliceIs w v n xs) : SliceIs w' v n xs := by
  obtain ⟨a, cap, rfl, h1, h2, h3⟩ := hs
  exact ⟨a, cap, rfl, h1, h2, fun hx => let ⟨b, hb, hc⟩ := h3 hx; ⟨b, hb, hc.ext h⟩⟩
theorem Bytes.ext {w w' : World} (h : Ext w w') {v : Value} {l : List UInt8} (hs : Bytes w v l) : Bytes w' v l := SliceIs.ext h hs
theorem Ints.ext {w w' : World} (h : Ext w w') {v : Value} {l : List Int} (hs : Ints w v l) : Ints w' v l := SliceIs.ext h hs

/-- opened: the address, the capacity, a cell for each place -/
theorem Bytes.open {w : World} {v : Value} {l : List UInt8} (h : Bytes w v l) :
    ∃ (a : Option Addr) (cap : Nat), v = .slice a l.length cap ∧ l.length ≤ cap ∧ cap ≤ 9223372036854775807 ∧
      ∀ i, (hi : i < l.length) → ∃ b, a = some b ∧ w.cell? (b.add i) = some (.int .u8 (l[i]).toNat) := by
  obtain ⟨a, cap, rfl, h1, h2, h3⟩ := h
  refine ⟨a, cap, rfl, h1, h2.1, fun i hi => ?_⟩
  obtain ⟨b, hb, hc⟩ := h3 (by intro e; simp at e; subst e; simp at hi)
  exact ⟨b, hb, hc i _ (by simp [hi, byteV])⟩
theorem Ints.open {w : World} {v : Value} {l : List Int} (h : Ints w v l) :
    ∃ (a : Option Addr) (cap : Nat), v = .slice a l.length cap ∧ l.length ≤ cap ∧ cap ≤ 9223372036854775807 ∧
      ∀ i, (hi : i < l.length) → ∃ b, a = some b ∧ w.cell? (b.add i) = some (.int .i64 l[i]) := by
  obtain ⟨a, cap, rfl, h1, h2, h3⟩ := h
  refine ⟨a, cap, rfl, h1, h2.1, fun i hi => ?_⟩
  obtain ⟨b, hb, hc⟩ := h3 (by intro e; simp at e; subst e; simp at hi)
  exact ⟨b, hb, hc i _ (by simp [hi])⟩

theorem info_u8 : (Tryz.prog.info? 5).map (fun i => (i.zero, i.size, i.bytes)) = some (some (.int .u8 0), 1, 1) := by kernel_rfl
theorem info_int : (Tryz.prog.info? 3).map (fun i => (i.zero, i.size, i.bytes)) = some (some (.int .i64 0), 1, 8) := by kernel_rfl

/-- the block of an owned row has the row's element type -/
theorem ownsRow_ne {w : World} {base : Nat} {e t : TypeId} {size : Nat} {v : Value} {n : Nat} {xs : List Value} (h : w.ownsRow base e size v n xs)
    {b : Nat} {cs : Array Value} {fr : Nat × Nat} (hb : w.heap[b]? = some (.cells cs t fr)) (ht : t ≠ e) : v.ownBlock ≠ some b := by
  rcases h.2 with ⟨rfl, _⟩ | ⟨g, cap, cur, rfl, hg, hh, r⟩
  · simp [Value.ownBlock]
  · intro e'
    simp only [Value.ownBlock, Option.some.injEq] at e'
    subst e'
    rw [hb] at hh
    injection hh with hh
    injection hh with _ h2 _
    exact ht h2
/-- what a value that owns a row looks like -/
theorem ownsRow_form {w : World} {base : Nat} {e : TypeId} {size : Nat} {v : Value} {n : Nat} {xs : List Value} (h : w.ownsRow base e size v n xs) : ∃ (a : Option Addr) (c : Nat), v = .slice a n c := by
  rcases h.2 with ⟨rfl, rfl⟩ | ⟨g, cap, cur, rfl, r⟩
  · exact ⟨none, 0, rfl⟩
  · exact ⟨_, _, rfl⟩
theorem strCells_bytes (s : ByteArray) : strCells s = s.data.toList.map byteV := rfl

/-- copy onto the head of an owned row -/
theorem run_copy_onto {P : Program} (w : World) (B : Nat) (dT sT ty elem : TypeId) (hu : P.underlying dT = some (.slice elem)) (hsz : (P.info? elem).map (·.size) = some 1)
    {v : Value} {n : Nat} {xs : List Value} (hown : w.ownsRow B elem 1 v n xs) (sp : Option Addr) (sLen sCap : Nat) (cs : List Value) (hn : cs.length = Nat.min sLen n)
    (hsrc : cs ≠ [] → ∃ ad, sp = some ad ∧ CellsAt w ad cs) (h1 : ∀ u ∈ cs, u.oneCell' = true) :
    ∃ w', (Builtin.copy_ #[dT, sT] ty #[v, .slice sp sLen sCap]).run P w = .ok (goInt cs.length) w' ∧ w'.ownsRow B elem 1 v n (cs ++ xs.drop cs.length) ∧ w.grownBy w' v.ownBlock := by
  by_cases h0 : cs = []
  · subst h0
    obtain ⟨a, c, rfl⟩ := ownsRow_form hown
    refine ⟨w, run_copy_none w dT sT ty elem a sp n c sLen sCap hu hsz (by simpa using hn.symm), by simpa using hown, ⟨rfl, rfl, rfl, Nat.le_refl _, fun _ _ _ => rfl⟩⟩
  · obtain ⟨ad, rfl, hc⟩ := hsrc h0
    have hpos : 0 < cs.length := List.length_pos_iff.2 h0
    have hmin : cs.length ≤ n := by rw [hn]; exact Nat.min_le_right _ _
    have hxl : xs.length = n := by simpa using hown.1
    rcases hown.2 with ⟨rfl, hz⟩ | ⟨g, cap, cur, rfl, hb, hg, h2, h3, h4, h5⟩
    · omega
    · simp only [Nat.mul_one] at h4 h5
      refine ⟨_, run_copy_row P w dT sT ty elem g 0 n cap ad sLen sCap cur elem cs hu hsz hg hn hc (by omega) h1, ⟨?_, .inr ⟨g, cap, _, rfl, hb, setRow_heap w g cur _ elem _ hg, h2, h3, ?_, ?_⟩⟩, ?_⟩
      · simp; omega
      · simp; omega
      · simp only [Nat.zero_add, List.take_zero, List.nil_append, Nat.mul_one]
        rw [← h5, List.take_append, List.take_of_length_le (by omega), List.drop_take]
      · exact ⟨rfl, rfl, rfl, by simp [World.setRow], fun k _ hk => setRow_other w g k _ (fun e => hk (by simp [Value.ownBlock, e]))⟩
theorem step_copy_onto {P : Program} {ops : Array Oper} {o : Oper} {a : Act} {w : World} {K : Act → World → Prop} {Q : Exit → Act → World → Prop} {E : Prop} (hgd : o.guard = none) (d s : Operand) (dT sT : TypeId)
    (ho : o.op = .call { callee := .builtin .copy, args := #[d, s], argTypes := #[dT, sT] }) (B : Nat) (elem : TypeId) (hu : P.underlying dT = some (.slice elem)) (hsz : (P.info? elem).map (·.size) = some 1)
    (v : Value) (n : Nat) (xs : List Value) (hd : a.eval d = v) (hown : w.ownsRow B elem 1 v n xs) (sp : Option Addr) (sLen sCap : Nat) (hs : a.eval s = .slice sp sLen sCap)
    (cs : List Value) (hn : cs.length = Nat.min sLen n) (hsrc : cs ≠ [] → ∃ ad, sp = some ad ∧ CellsAt w ad cs) (h1 : ∀ u ∈ cs, u.oneCell' = true)
    (h : ∀ w', w'.ownsRow B elem 1 v n (cs ++ xs.drop cs.length) → w.grownBy w' v.ownBlock → K (a.put o.dst (goInt cs.length)) w') :
    if Region.wanted o (yielded ops a.tmps) = true then Oper.wp P o a w K Q else E := by
  have hw : Region.wanted o (yielded ops a.tmps) = true := by simp [Region.wanted, hgd]
  rw [if_pos hw]
  obtain ⟨w', hrun, h2, h3⟩ := run_copy_onto (P := P) w B dT sT o.type elem hu hsz hown sp sLen sCap cs hn hsrc h1
  unfold Oper.wp
  simp [execOp, ho, resolve, invoke, builtin, hd, hs, hrun, Result.andThen]
  exact h w' h2 h3
theorem wpList_copy_onto {P : Program} {ops : Array Oper} {rest : List Oper} {o : Oper} {a : Act} {w : World} {Q : Exit → Act → World → Prop} (hgd : o.guard = none) (d s : Operand) (dT sT : TypeId)
    (ho : o.op = .call { callee := .builtin .copy, args := #[d, s], argTypes := #[dT, sT] }) (B : Nat) (elem : TypeId) (hu : P.underlying dT = some (.slice elem)) (hsz : (P.info? elem).map (·.size) = some 1)
    (v : Value) (n : Nat) (xs : List Value) (hd : a.eval d = v) (hown : w.ownsRow B elem 1 v n xs) (sp : Option Addr) (sLen sCap : Nat) (hs : a.eval s = .slice sp sLen sCap)
    (cs : List Value) (hn : cs.length = Nat.min sLen n) (hsrc : cs ≠ [] → ∃ ad, sp = some ad ∧ CellsAt w ad cs) (h1 : ∀ u ∈ cs, u.oneCell' = true)
    (h : ∀ w', w'.ownsRow B elem 1 v n (cs ++ xs.drop cs.length) → w.grownBy w' v.ownBlock → wpList P ops Q rest (a.put o.dst (goInt cs.length)) w') :
    wpList P ops Q (o :: rest) a w := by
  refine wpList_plain hgd fun K hK => ?_
  obtain ⟨w', hrun, h2, h3⟩ := run_copy_onto (P := P) w B dT sT o.type elem hu hsz hown sp sLen sCap cs hn hsrc h1
  unfold Oper.wp
  simp [execOp, ho, resolve, invoke, builtin, hd, hs, hrun, Result.andThen]
  exact hK _ _ (h w' h2 h3)

/-- a row of bytes of the call's own (made from block B on): l is what it holds -/
def OwnB (w : World) (B : Nat) (v : Value) (l : List UInt8) : Prop := w.ownsRow B 5 1 v l.length (l.map byteV)
theorem OwnB.bytes {w : World} {B : Nat} {v : Value} {l : List UInt8} (h : OwnB w B v l) : Bytes w v l := by
  have hh := h
  rcases h.2 with ⟨rfl, h0⟩ | ⟨g, cap, cur, rfl, hb, hg, h1, h2, h3, h4⟩
  · have : l = [] := List.eq_nil_of_length_eq_zero h0
    subst this
    exact ⟨none, 0, rfl, by simp, ⟨by omega, fun _ => rfl⟩, by simp⟩
  · exact ⟨some ⟨g, 0, none⟩, cap, rfl, h1, ⟨by unfold maxLen at h2; omega, fun h => by cases h⟩, fun _ => ⟨_, rfl, fun i x hx => hh.cells rfl i x hx⟩⟩
theorem ownsRow_mono {w : World} {base base' : Nat} {e : TypeId} {size : Nat} {v : Value} {n : Nat} {xs : List Value} (h : w.ownsRow base e size v n xs) (hb : base' ≤ base) : w.ownsRow base' e size v n xs := by
  obtain ⟨h1, h2⟩ := h
  refine ⟨h1, ?_⟩
  rcases h2 with h2 | ⟨g, cap, cur, rfl, hg, hh, r⟩
  · exact Or.inl h2
  · exact Or.inr ⟨g, cap, cur, rfl, Nat.le_trans hb hg, hh, r⟩
theorem ownsRow_below {w w' : World} {base : Nat} {e : TypeId} {size : Nat} {v : Value} {n : Nat} {xs : List Value} (h : w.ownsRow base e size v n xs)
    (hb : Below w.heap.size w w') : w'.ownsRow base e size v n xs := by
  obtain ⟨h1, h2⟩ := h
  refine ⟨h1, ?_⟩
  rcases h2 with h2 | ⟨g, cap, cur, rfl, hg, hh, r⟩
  · exact Or.inl h2
  · exact Or.inr ⟨g, cap, cur, rfl, hg, (hb.block g (lt_of_block hh)).trans hh, r⟩
theorem OwnB.cells {w : World} {B n cap : Nat} {a : Option Addr} {l : List UInt8} (h : OwnB w B (.slice a n cap) l) : l.map byteV ≠ [] → ∃ ad, a = some ad ∧ CellsAt w ad (l.map byteV) := by
  obtain ⟨a', c, hv, h1, h2, h3⟩ := h.bytes
  injection hv with ha
  subst ha
  exact h3
theorem CellsAt.drop {w : World} {a : Addr} {xs : List Value} (h : CellsAt w a xs) (k : Nat) : CellsAt w (a.add k) (xs.drop k) := by
  intro i x hx
  have e : (a.add k).add i = a.add (k + i) := by
    unfold Addr.add; split <;> split <;> (try split) <;> simp_all <;> omega
  rw [e]; exact h _ _ (by rw [← List.getElem?_drop]; exact hx)
/-- a cut of a slice, as the walk spells it -/
theorem Bytes.sliced {w : World} {a : Option Addr} {n cap : Nat} {l : List UInt8} (h : Bytes w (.slice a n cap) l) (i j : Nat) (hij : i ≤ j) (hj : j ≤ l.length) :
    Bytes w (.slice (if cap = i then a else a.map (·.add i)) (j - i) (cap - i)) ((l.take j).drop i) := by
  obtain ⟨a', c, hv, h1, h2, h3⟩ := h
  injection hv with ha hn hc
  subst ha; subst hc
  have hlen : ((l.take j).drop i).length = j - i := by rw [List.length_drop, List.length_take]; omega
  unfold Bytes
  rw [hlen]
  refine ⟨_, _, rfl, by omega, ⟨by omega, fun hn => ?_⟩, fun hx => ?_⟩
  · have : a = none := by
      cases a with
      | none => rfl
      | some b => split at hn <;> simp at hn
    have := h2.2 this; omega
  have hne : l.map byteV ≠ [] := by intro e; apply hx; simp at e; subst e; simp
  obtain ⟨b, hb, hcell⟩ := h3 hne
  subst hb
  by_cases hci : cap = i
  · exfalso; apply hx; apply List.eq_nil_of_length_eq_zero; rw [List.length_map, hlen]; omega
  · refine ⟨b.add i, by simp [hci], ?_⟩
    intro m x hm
    refine CellsAt.drop hcell i m x ?_
    rw [List.getElem?_drop] at *
    simp only [List.getElem?_map, List.getElem?_take, List.getElem?_drop] at hm ⊢
    split at hm
    · exact hm
    · simp at hm
/-- append of whatever slice onto an owned row -/
theorem run_append_src {P : Program} (w : World) (base : Nat) (t ty e : TypeId) (i : TypeInfo) (z : Value) (size bytes : Nat) (ht : P.underlying t = some (.slice e)) (hi : P.info? e = some i) (hz : i.zero = some z)
    (hsize : i.size = size) (hby : i.bytes = bytes) (hzs : z.cells.size = size) (hsz : 0 < size)
    (v : Value) (n : Nat) (xs : List Value) (hown : w.ownsRow base e size v n xs) (x : Value) (m : Nat) (news : List Value) (hx : SliceIs w x m news) (hl : news.length = m * size) (h1 : ∀ u ∈ news, u.oneCell' = true)
    (h63 : n + m ≤ maxLen) (hbytes : (n + m) * bytes ≤ 140737488355328) (hbase : base ≤ w.heap.size) :
    ∃ v' w', (Builtin.append_ #[t, t] ty #[v, x]).run P w = .ok v' w' ∧ w'.ownsRow base e size v' (n + m) (xs ++ news) ∧ w.grownBy w' v.ownBlock ∧ (v'.ownBlock = v.ownBlock ∨ v'.ownBlock = some w.heap.size) := by
  obtain ⟨a, c, rfl, hc1, ⟨hc2, hc3⟩, hc⟩ := hx
  cases a with
  | none =>
    obtain rfl := hc3 rfl
    obtain rfl : m = 0 := by omega
    obtain rfl : news = [] := List.eq_nil_of_length_eq_zero (by simpa using hl)
    exact ⟨v, w, run_append_owned_none (P := P) (w := w) base t ty e i size ht hi v n xs hown, by simpa using hown, World.grownBy.refl w _, .inl rfl⟩
  | some ad =>
    have hcell : ∀ j u, news[j]? = some u → w.cell? (ad.add j) = some u := by
      intro j u hu
      obtain ⟨b, hb, hcc⟩ := hc (by intro e; subst e; simp at hu)
      injection hb with hb
      subst hb
      exact hcc j u hu
    obtain ⟨v', w', r1, r2, r3, _, r5⟩ := run_append_own_at (P := P) w base t ty e i z size bytes ht hi hz hsize hby hzs hsz v n xs hown ad m c news hl hcell h1 h63 hbytes hbase
    exact ⟨v', w', r1, r2, r3, r5⟩
theorem wpList_append_src {P : Program} {w : World} {ops : Array Oper} {rest : List Oper} {o : Oper} {a : Act} {Q : Exit → Act → World → Prop} (hgd : o.guard = none) (s x : Operand) (t : TypeId)
    (ho : o.op = .call { callee := .builtin .append, args := #[s, x], argTypes := #[t, t] })
    (base : Nat) (e : TypeId) (i : TypeInfo) (z : Value) (size bytes : Nat) (ht : P.underlying t = some (.slice e)) (hi : P.info? e = some i) (hz : i.zero = some z)
    (hsize : i.size = size) (hby : i.bytes = bytes) (hzs : z.cells.size = size) (hsz : 0 < size)
    (v : Value) (n : Nat) (xs : List Value) (hs : a.eval s = v) (hown : w.ownsRow base e size v n xs) (y : Value) (m : Nat) (news : List Value) (hy : a.eval x = y) (hx : SliceIs w y m news) (hl : news.length = m * size) (h1 : ∀ u ∈ news, u.oneCell' = true)
    (h63 : n + m ≤ maxLen) (hbytes : (n + m) * bytes ≤ 140737488355328) (hbase : base ≤ w.heap.size)
    (h : ∀ b c w', w'.ownsRow base e size (.slice b (n + m) c) (n + m) (xs ++ news) → w.grownBy w' v.ownBlock → ((Value.slice b (n + m) c).ownBlock = v.ownBlock ∨ (Value.slice b (n + m) c).ownBlock = some w.heap.size) → wpList P ops Q rest (a.put o.dst (.slice b (n + m) c)) w') :
    wpList P ops Q (o :: rest) a w := by
  refine wpList_plain hgd fun K hK => ?_
  obtain ⟨v', w', hrun, h2, h3, h4⟩ := run_append_src (P := P) w base t o.type e i z size bytes ht hi hz hsize hby hzs hsz v n xs hown y m news hx hl h1 h63 hbytes hbase
  obtain ⟨b, c, rfl⟩ := ownsRow_form h2
  unfold Oper.wp execOp
  simp only [ho, resolve, invoke, builtin, Sem.run_bind, Sem.run_pure, Result.andThen_ok, List.map_toArray, List.map_cons, List.map_nil, hs, hy, hrun]
  exact hK _ _ (h b c w' h2 h3 h4)
/-- append of a text onto an owned row of bytes -/
theorem wpList_append_text {P : Program} {w : World} {ops : Array Oper} {rest : List Oper} {o : Oper} {a : Act} {Q : Exit → Act → World → Prop} (hgd : o.guard = none) (sl x : Operand) (t u : TypeId)
    (ho : o.op = .call { callee := .builtin .append, args := #[sl, x], argTypes := #[t, u] })
    (base : Nat) (e : TypeId) (i : TypeInfo) (ht : P.underlying t = some (.slice e)) (hu : P.underlying u = some .string) (hi : P.info? e = some i) (hz : i.zero = some (.int .u8 0))
    (hsize : i.size = 1) (hby : i.bytes = 1)
    (v : Value) (l : List UInt8) (hs : a.eval sl = v) (hown : w.ownsRow base e 1 v l.length (l.map byteV)) (s : ByteArray) (hx : a.eval x = .string s)
    (h63 : l.length + s.size ≤ maxLen) (hbytes : l.length + s.size ≤ 140737488355328) (hbase : base ≤ w.heap.size)
    (h : ∀ b c w', w'.ownsRow base e 1 (.slice b (l.length + s.size) c) (l ++ s.data.toList).length ((l ++ s.data.toList).map byteV) → w.grownBy w' v.ownBlock → wpList P ops Q rest (a.put o.dst (.slice b (l.length + s.size) c)) w') : wpList P ops Q (o :: rest) a w := by
  refine wpList_append_own_string w hgd sl x t u ho base e i ht hu hi hz hsize hby v l.length (l.map byteV) hs hown s hx h63 hbytes hbase ?_
  intro v' w' h1 h2 _
  obtain ⟨b, c, rfl⟩ := ownsRow_form h1
  refine h b c w' ?_ h2
  rw [strCells_bytes, ← List.map_append] at h1
  rw [show (l ++ s.data.toList).length = l.length + s.size by rw [List.length_append, size_data]]
  exact h1
/-- what is cut off an owned row's head -/
theorem OwnB.tail {w : World} {B g n cap k : Nat} {l : List UInt8} (h : OwnB w B (.slice (some ⟨g, 0, none⟩) n cap) l) (hk : k ≤ l.length) (hk0 : 0 < k) :
    (cap ≠ k → Bytes w (.slice (some ⟨g, k, none⟩) (l.length - k) (cap - k)) (l.drop k)) ∧ (cap = k → Bytes w (.slice (some ⟨g, 0, none⟩) (l.length - k) 0) (l.drop k)) := by
  obtain ⟨a, c, hv, h1, h2, h3⟩ := h.bytes
  injection hv with ha hn hc
  subst hc
  constructor
  · intro _
    refine ⟨_, _, by rw [List.length_drop], by rw [List.length_drop]; omega, ⟨by omega, fun h => by cases h⟩, fun hx => ⟨_, rfl, fun i x hi => ?_⟩⟩
    obtain ⟨b, hb, hcell⟩ := h3 (by intro e; simp at e; subst e; simp at hx)
    rw [← ha] at hb
    injection hb with hb
    have := hcell (k + i) x (by rw [← List.getElem?_drop, ← List.map_drop]; exact hi)
    rw [← hb] at this
    have e : (⟨g, 0, none⟩ : Addr).add (k + i) = (⟨g, k, none⟩ : Addr).add i := by
      unfold Addr.add; split <;> (try split) <;> simp_all <;> omega
    rw [← e]; exact this
  · intro e
    have : l.length = k := by omega
    refine ⟨_, _, by rw [List.length_drop], by rw [List.length_drop]; omega, ⟨by omega, fun h => by cases h⟩, fun hx => ?_⟩
    exfalso; apply hx; simp; omega
end Go.Proofs.YtgpbhjjajpbeeaaGreatDoor
