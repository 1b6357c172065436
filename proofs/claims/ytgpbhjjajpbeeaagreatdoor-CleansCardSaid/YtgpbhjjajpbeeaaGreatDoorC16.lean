/-
  The walks of SyncDir and Fail.
-/
import Derived.Test.YtgpbhjjajpbeeaaGreatDoorC15
import Derived.Test.YtgpbhjjajpbeeaaGreatDoorC08
set_option linter.unusedSimpArgs false
set_option linter.unusedVariables false
set_option linter.unnecessarySimpa false
namespace Go.Proofs.YtgpbhjjajpbeeaaGreatDoor
open Go.RowKit Go.Lib Go.Maps Dk

section
variable {w w' : World} {F : Nat → Prop} {a m1 m2 : Nat} {mv : Value} {gs : List Nat} {dv : Nat → Value} {d : D}
/-- no moves are noted any more -/
theorem DiskRep.still (h : DiskRep w F a m1 m2 mv gs dv d) : DiskRep (w.setCell ⟨a, 2, none⟩ (.slice none 0 0)) F a m1 m2 (.slice none 0 0) [] dv { d with moves := [] } := by
  have hO := (Off.refl a w).setCell 2 (.slice none 0 0)
  have hb := h.box
  exact {
    box := h.box.set 2 _
    now := h.now.off hO (h.map_ne hb).1
    safe := h.safe.off hO (h.map_ne hb).2
    ne := h.ne
    rows := ⟨rfl, by simp⟩
    outer := ⟨rfl, Or.inl ⟨rfl, rfl⟩⟩
    file := fun x hx => ⟨(hO.block x (box_ne (h.file x hx).1 hb (by decide))).trans (h.file x hx).1, Dep.row (h.file x hx).2 _ fun b hb' => hO.block b (fun e => row_box_ne (h.file x hx).2 hb (by decide) (e ▸ hb'))⟩
    apart := h.apart
    fa := h.fa
    fm := h.fm
    fg := by simp
    fo := by simp [Value.ownBlock]
    fx := h.fx
    low := fun b hb => by rw [hO.size]; exact h.low b hb
    wf := ⟨h.wf.now, h.wf.safe, by simp, h.wf.part, h.wf.ids⟩
    num := h.num }
theorem DiskRep.outer_cell (h : DiskRep w F a m1 m2 mv gs dv d) {k : Nat} {l : List Mv} (hk : d.moves[k]? = some l) : ∃ b c g, mv = .slice (some ⟨b, 0, none⟩) d.moves.length c ∧ w.cell? ⟨b, k, none⟩ = some (mvV g l) ∧ MvRow w g l := by
  have hlt : k < d.moves.length := by
    rcases Nat.lt_or_ge k d.moves.length with h | h
    · exact h
    · rw [List.getElem?_eq_none h] at hk; cases hk
  have hl := h.rows.1
  have ho := h.outer
  rcases h.outer.2 with ⟨_, h0⟩ | ⟨b, cap, cur, rfl, _, _, _, _, _, _⟩
  · omega
  · have hg : gs[k]? = some gs[k] := List.getElem?_eq_getElem (by omega)
    refine ⟨b, cap, gs[k], rfl, ?_, h.rows.2 k _ l hg hk⟩
    have hz : (gs.zip d.moves)[k]? = some (gs[k], l) := by rw [List.getElem?_zip_eq_some]; exact ⟨hg, hk⟩
    have hm : ((gs.zip d.moves).map fun p => mvV p.1 p.2)[k]? = some (mvV gs[k] l) := by rw [List.getElem?_map, hz]; rfl
    rw [ho.cellAt k (by omega)]; exact hm
end
theorem foldl_setMoves_mem {ms : List (List Mv)} : ∀ {m : List (Nm × Nat)} {p : Nm × Nat}, p ∈ ms.foldl setMoves m → p ∈ m ∨ ∃ l ∈ ms, ∃ x ∈ l, x.2 = some p.2 := by
  induction ms with
  | nil => intro m p h; exact .inl h
  | cons l ms ih =>
    intro m p h
    rcases ih h with h | ⟨k, hk, h⟩
    · rcases mem_setMoves h with h | h
      · exact .inl h
      · exact .inr ⟨l, by simp, h⟩
    · exact .inr ⟨k, by simp [hk], h⟩

set_option maxRecDepth 100000 in
set_option maxHeartbeats 800000 in
theorem syncDir_any (F : Nat → Prop) (a : Nat) (d : D) (w : World) (h : DiskAt w F a d) (hml : d.moves.length ≤ 1000000) (hms : ∀ l ∈ d.moves, l.length ≤ 1000000 ∧ ∀ m ∈ l, m.1.length ≤ maxLen) :
    Calls Tryz.prog 53 #[nodeV a] w fun e w' => OpIs F a d.syncDir w e w' := by
  have hfail := fails_any F a d w h
  have HF := Lib.hid hfail; clear hfail h
  have hfn := d.fails_now
  have hsd : d.syncDir = if d.fails.1 = true then (.file 9 [], d.fails.2) else (.ok, { d.fails.2 with safe := d.fails.2.moves.foldl setMoves d.fails.2.safe, moves := [] }) := by
    unfold D.syncDir; rw [hfn.2.1, hfn.2.2.1]
  rw [← hfn.2.2.1] at hml hms
  have HM := Lib.hid hms; clear hms
  have HSD := Lib.hid hsd; clear hsd hfn
  unfold nodeV
  go_enter Tryz.func53, Tryz.ntmps53
  go_wp2_with fail
  refine HF.out.mono ?_
  rintro e w1 ⟨rfl, hD, hO⟩
  have hl1 : ∀ b, F b → b < w1.heap.size := hD.low
  have hfa : F a := hD.fa
  have HC := Lib.hid (Chg.off (F := F) hO hfa)
  clear hO
  cases hf : d.fails.1 with
  | true =>
    have HD := Lib.hid hD; clear hD
    go_wp2
    go_ret
    refine ⟨F, .iface 132 (.pointer (some ⟨w1.heap.size, 0, none⟩)), rfl, ?_, ?_, HC.out.trans (Chg.ext ((Ext.refl w1).new _)), fun b hb => hb⟩
    · rw [HSD.out, if_pos hf]; exact held_err (name := []) hl1
    · rw [HSD.out, if_pos hf]; exact HD.out.ext ((Ext.refl w1).new _)
  | false =>
    have hff : ¬ d.fails.1 = true := by rw [hf]; decide
    generalize hE : d.fails.2 = E at *
    clear hE
    obtain ⟨m1, m2, mv, gs, dv, hr⟩ := hD
    have c1 := hr.box.cell 1
    have c2 := hr.box.cell 2
    obtain ⟨mva, mvc, rfl⟩ := ownsRow_form hr.outer
    have HR := Lib.hid hr; clear hr
    go_wp2
    go_loopw [15] (fun i wr => ∃ k : Nat, k ≤ E.moves.length ∧ i = .int .i64 k ∧ DiskRep wr F a m1 m2 (.slice mva E.moves.length mvc) gs dv { E with safe := (E.moves.take k).foldl setMoves E.safe } ∧ Chg F F w1 wr) (fun i _ => E.moves.length - (intOf i).toNat)
    case atStart => exact ⟨0, Nat.zero_le _, rfl, HR.out, Chg.refl _ _⟩
    case round =>
      obtain ⟨k, hk, rfl, hr, hC⟩ := hrel
      have d1 := hr.box.cell 1
      by_cases hlt : k < E.moves.length
      · obtain ⟨l, hm⟩ : ∃ l, E.moves[k]? = some l := ⟨_, List.getElem?_eq_getElem hlt⟩
        obtain ⟨b, c, g, hbc, hcell, hrow⟩ := hr.outer_cell hm
        injection hbc with hb1 hb2 hb3
        subst hb1
        have hml := HM.out l (List.mem_of_getElem? hm)
        have hset := set_any m2 g _ l wr hr.safe hrow hml.2 hml.1
        have htk : E.moves.take (k + 1) = E.moves.take k ++ [l] := by rw [List.take_add_one, hm]; rfl
        have HT := Lib.hid htk; have HRR := Lib.hid hr; have HC2 := Lib.hid hC; have HS := Lib.hid hset; have HLM := Lib.hid (List.mem_of_getElem? hm)
        clear htk hr hC hset hrow hml hm hb2 hb3
        unfold mvV at hcell HS
        go_wp2_with fail
        refine HS.out.mono ?_
        rintro e w3 ⟨rfl, hN3, hC3⟩
        have HN3 := Lib.hid hN3; have HC3 := Lib.hid hC3; clear hN3 hC3
        go_wp2
        go_roundw
        case rel =>
          have hids : ∀ p ∈ setMoves ((E.moves.take k).foldl setMoves E.safe) l, p.2 ∈ E.ids := by
            intro p hp
            rcases mem_setMoves hp with hp | ⟨x, hx, e⟩
            · rcases foldl_setMoves_mem hp with hp | ⟨q, hq, x, hx, e⟩
              · exact HR.out.wf.safe p hp
              · exact HR.out.wf.moves q (List.mem_of_mem_take hq) x hx _ e
            · exact HR.out.wf.moves l HLM.out x hx _ e
          have hR3 := HRR.out.safe' (fun b hb hne => HC3.out.block b hb hne) HC3.out.size HN3.out hids
          refine ⟨k + 1, by omega, by go_num, ?_, ?_⟩
          · rw [HT.out, List.foldl_append]; exact hR3
          · exact HC2.out.trans ⟨HC3.out.os, HC3.out.tape, HC3.out.output, HC3.out.size, fun b hb hF => HC3.out.block b hb (fun e => hF (e ▸ HRR.out.fm.2)), fun b hb => .inl hb⟩
        case measure => simp [intOf]; omega
      · obtain rfl : k = E.moves.length := by omega
        rw [List.take_length] at hr
        have f2 := hr.box.free 2
        have d2 := hr.box.cell 2
        have HRR := Lib.hid hr; have HC2 := Lib.hid hC; clear hr hC
        go_wp2
        go_ret
        have hR2 := HRR.out.still
        refine ⟨F, .nilIface, rfl, ?_, ?_, HC.out.trans (HC2.out.trans (Chg.off ((Off.refl a wr).setCell 2 _) hfa)), fun b hb => hb⟩
        · rw [HSD.out, if_neg hff]; exact held_ok _ _
        · rw [HSD.out, if_neg hff]; exact ⟨m1, m2, _, _, dv, hR2⟩

def D.fail (d : D) (after times : Int) : D := { d with wait := after.toNat, bad := times.toNat }
set_option maxRecDepth 100000 in
set_option maxHeartbeats 800000 in
theorem fail_any (F : Nat → Prop) (a : Nat) (d : D) (after times : Int) (w : World) (h : DiskAt w F a d) (ha : -9223372036854775808 ≤ after ∧ after ≤ 9223372036854775807) (ht : -9223372036854775808 ≤ times ∧ times ≤ 9223372036854775807) :
    Calls Tryz.prog 43 #[nodeV a, .int .i64 after, .int .i64 times] w fun e w' => e = .returned (.tuple #[]) ∧ DiskAt w' F a (D.fail d after times) ∧ Chg F F w w' := by
  obtain ⟨m1, m2, mv, gs, dv, h⟩ := h
  have hb := h.box
  have c4 := hb.cell 4
  have c5 := hb.cell 5
  have f4 := hb.free 4
  have f5 := hb.free 5
  have e1 : (if after < 0 then (0 : Int) else after) = (after.toNat : Int) := by split <;> omega
  have e2 : (if times < 0 then (0 : Int) else times) = (times.toNat : Int) := by split <;> omega
  have hnum := h.num
  have H := Lib.hid h; have HB := Lib.hid hb; clear h hb
  unfold nodeV
  go_enter Tryz.func43, Tryz.ntmps43
  go_wp2
  go_end0
  rw [show (max after 0 : Int) = (after.toNat : Int) by omega, show (max times 0 : Int) = (times.toNat : Int) by omega]
  have hO := ((Off.refl a w).setCell 4 (.int .i64 (after.toNat : Int))).setCell 5 (.int .i64 (times.toNat : Int))
  refine ⟨rfl, ⟨m1, m2, mv, gs, dv, H.out.box' hO (d' := D.fail d after times) ((HB.out.set 4 _).set 5 _) rfl rfl rfl rfl rfl ?_⟩, Chg.off hO H.out.fa⟩
  unfold D.fail; dsimp only; omega
end Go.Proofs.YtgpbhjjajpbeeaaGreatDoor
/-
  A crash, as plain mathematics; what it leaves of rows in memory.
-/
namespace Go.Proofs.YtgpbhjjajpbeeaaGreatDoor
open Go.RowKit Go.Lib Go.Maps Dk

/-- of a file's bytes the safe ones are left, and of the others the first ones -/
def Dk.cut (tail : Nat) (n : Nd) : Nd := ⟨n.data.take (n.safe + tail % (n.data.length - n.safe + 1)), n.safe + tail % (n.data.length - n.safe + 1)⟩
def Dk.D.stepped (d : D) (dir : Nat) : List (Nm × Nat) := (d.moves.take (dir % (d.moves.length + 1))).foldl setMoves d.safe
/-- the files once these have been cut -/
def Dk.D.cutAt (d : D) (tail : Nat) (vis : List (Nm × Nat)) : Nat → Nd := fun x => if x ∈ vis.map Prod.snd then cut tail (d.node x) else d.node x
/-- once these have been found -/
def Dk.D.crashed (d : D) (dir tail : Nat) (vis : List (Nm × Nat)) : D := { d with now := vis, safe := d.stepped dir, moves := [], wait := 0, bad := 0, node := d.cutAt tail vis }

theorem cut_len (tail : Nat) (n : Nd) (h : n.safe ≤ n.data.length) : n.safe + tail % (n.data.length - n.safe + 1) ≤ n.data.length := by
  have := Nat.mod_lt tail (show 0 < n.data.length - n.safe + 1 by omega); omega
theorem cut_safe (tail : Nat) (n : Nd) (h : n.safe ≤ n.data.length) : (cut tail n).safe = (cut tail n).data.length := by
  have := cut_len tail n h
  simp only [Dk.cut, List.length_take]; omega
theorem cut_cut (tail : Nat) (n : Nd) (h : n.safe ≤ n.data.length) : cut tail (cut tail n) = cut tail n := by
  have e := cut_safe tail n h
  rw [show cut tail (cut tail n) = ⟨(cut tail n).data.take ((cut tail n).safe + tail % ((cut tail n).data.length - (cut tail n).safe + 1)), (cut tail n).safe + tail % ((cut tail n).data.length - (cut tail n).safe + 1)⟩ from rfl, e]
  simp only [Nat.sub_self, Nat.zero_add, Nat.mod_one, Nat.add_zero, List.take_length]
  rw [← e]
/-- cutting one more -/
theorem cutAt_snoc (d : D) (tail : Nat) (vis : List (Nm × Nat)) (p : Nm × Nat) (h : (d.node p.2).safe ≤ (d.node p.2).data.length) : upd (d.cutAt tail vis) p.2 (cut tail (d.cutAt tail vis p.2)) = d.cutAt tail (vis ++ [p]) := by
  funext x
  unfold upd D.cutAt
  by_cases e : x = p.2
  · subst e
    simp only [List.map_append, List.mem_append, List.map_cons, List.map_nil, List.mem_singleton, or_true, if_true]
    split
    · exact cut_cut tail _ h
    · rfl
  · simp only [if_neg e, List.map_append, List.mem_append, List.map_cons, List.map_nil, List.mem_singleton, e, or_false, if_false]
theorem aPut_new {l : List (Nm × Nat)} {p : Nm × Nat} (h : p.1 ∉ l.map Prod.fst) : aPut l p.1 p.2 = l ++ [p] := by
  unfold aPut; rw [if_neg h]
/-- what is cut off at the tail stays in the same row -/
theorem OwnB.take {w : World} {B : Nat} {ao : Option Addr} {n cap : Nat} {l : List UInt8} (h : OwnB w B (.slice ao n cap) l) {k : Nat} (hk : k ≤ l.length) : OwnB w B (.slice ao k cap) (l.take k) := by
  unfold OwnB at *
  have hl : (l.take k).length = k := by rw [List.length_take]; omega
  rw [hl]
  obtain ⟨h1, h2⟩ := h
  refine ⟨by rw [List.length_map, hl, Nat.mul_one], ?_⟩
  rcases h2 with ⟨e, h0⟩ | ⟨g, c, cur, e, hb, hg, h3, h4, h5, h6⟩
  · injection e with e1 e2 e3
    subst e1; subst e3
    have : k = 0 := by omega
    subst this
    exact .inl ⟨rfl, rfl⟩
  · injection e with e1 e2 e3
    subst e1; subst e3
    refine .inr ⟨g, cap, cur, rfl, hb, hg, by omega, h4, h5, ?_⟩
    rw [Nat.mul_one] at h6 ⊢
    rw [List.map_take, ← h6, List.take_take, Nat.min_eq_left hk]

theorem wpList_mapUpdate {P : Program} {w : World} {ops : Array Oper} {rest : List Oper} {o : Oper} {a : Act} {Q : Exit → Act → World → Prop} (hgd : o.guard = none) (t : TypeId) (m k v : Operand)
    (ho : o.op = .mapUpdate t m k v) (x y z : Value) (hm : a.eval m = x) (hk : a.eval k = y) (hv : a.eval v = z) (R : World → Prop) (hrun : ∃ w', (Instr.mapUpdate t x y z).run P w = .ok () w' ∧ R w') (h : ∀ w', R w' → wpList P ops Q rest (a.put o.dst undef) w') :
    wpList P ops Q (o :: rest) a w := by
  refine wpList_plain hgd fun K hK => ?_
  obtain ⟨w', hrun, hR⟩ := hrun
  unfold Oper.wp
  simp [execOp, ho, hm, hk, hv, hrun, Result.andThen, Oper.upon]
  exact hK _ _ (h w' hR)
end Go.Proofs.YtgpbhjjajpbeeaaGreatDoor
/-
  The names of a disk, sorted, as plain mathematics. No program in sight.
-/
namespace Go.Proofs.YtgpbhjjajpbeeaaGreatDoor
open Dk
def leN (x y : Nm) : Bool := decide (x ≤ y)
def Dk.D.list (d : D) : List Nm := (d.now.map Prod.fst).mergeSort leN
theorem leN_trans (a b c : Nm) (h : leN a b = true) (k : leN b c = true) : leN a c = true := by
  unfold leN at *; simp at *; exact Std.le_trans h k
theorem leN_total (a b : Nm) : (leN a b || leN b a) = true := by
  unfold leN; simp; exact Std.le_total
theorem sort_perm {l k : List Nm} (h : l.Perm k) : l.mergeSort leN = k.mergeSort leN := by
  refine List.Perm.eq_of_pairwise (le := fun a b => leN a b = true) ?_ (List.pairwise_mergeSort leN_trans leN_total l) (List.pairwise_mergeSort leN_trans leN_total k) ?_
  · intro a b _ _ h1 h2
    unfold leN at h1 h2; simp at h1 h2; exact Std.le_antisymm h1 h2
  · exact (List.mergeSort_perm l leN).trans (h.trans (List.mergeSort_perm k leN).symm)

end Go.Proofs.YtgpbhjjajpbeeaaGreatDoor
