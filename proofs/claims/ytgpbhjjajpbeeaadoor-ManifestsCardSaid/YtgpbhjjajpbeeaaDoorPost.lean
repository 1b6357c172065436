/-
  What both rows' proofs share: the listed variable's cell, the world for the witness, the row's ending out of 'Ext', the arguments of bytes.
-/
import Derived.Test.YtgpbhjjajpbeeaaDoorTell
import Derived.Test.YtgpbhjjajpbeeaaDoorCards
import Derived.Test.YtgpbhjjajpbeeaaDoorTie
import Derived.WalkKit
import Derived.ProofKit
import Derived.OpenShut
import Derived.Deep.DeepHandedRow
import Derived.LaidLaws
import Derived.LaidHandle
import Derived.Lib.SmallJoins
import Derived.SizedLaws
namespace Go.Proofs.YtgpbhjjajpbeeaaDoor
open Go.ChangeShapes Go.WideShapes Go.ChangeAt Go.RowKit Go.Joins Go.Lib Pl
open Go.ChangeMaps (open_string shut_string)

namespace post
theorem own : ownKnob Tryd.prog.godebug = none := by kernel_rfl
theorem et : Tryd.prog.globalNamed "errors.errorType" = some 0 := by kernel_rfl
theorem rt : (Tryd.prog.cutTypes.find? (·.1 == "internal/reflectlite.rtype")).map (·.2) = some 90 := by kernel_rfl
theorem oneRow : ((List.range 139).filter fun t => Tryd.prog.rowNamed t [101, 114, 114, 111, 114]) = [26] := by kernel_rfl
theorem size : Tryd.prog.types.size = 139 := by kernel_rfl
theorem handle : typeHandle Tryd.prog 26 = .pointer (some ⟨1, 26, none⟩) := by kernel_rfl
theorem cellsU8 : Tryd.prog.cellsOf 5 = 1 := by kernel_rfl
theorem bytesU8 : Tryd.prog.bytesOf 5 = 1 := by kernel_rfl
theorem bytesInt : Tryd.prog.bytesOf 3 = 8 := by kernel_rfl
theorem cellsInt : Tryd.prog.cellsOf 3 = 1 := by kernel_rfl

theorem laid_of {W : World} (h : laidMetH Tryd.prog Rows.recordsRow.laid W) : Laid W := by
  have h' : laidMet Tryd.prog [] W ∧ handlesMet Tryd.prog Rows.recordsRow.laid W := h
  obtain ⟨name, u, ty, e1, e2, e3, e4, e5⟩ := h'.2 _ (List.mem_singleton.2 rfl)
  have en : name = [101, 114, 114, 111, 114] := (Option.some.inj e1).symm
  subst en
  obtain rfl := Option.some.inj (rt.symm.trans e2)
  have hm : ty ∈ (List.range 139).filter fun t => Tryd.prog.rowNamed t [101, 114, 114, 111, 114] := List.mem_filter.2 ⟨List.mem_range.2 (by rw [← size]; exact e3), e4⟩
  rw [oneRow] at hm
  obtain rfl := List.mem_singleton.1 hm
  rw [handle] at e5
  have := World.var?_cell et e5 0
  unfold Laid
  simpa using this

/-- A world that meets the condition: the settled one, the variable's cell laid. -/
noncomputable def laidWorld (os : Os) : World :=
  { World.holding Tryd.prog os ⟨#[], #[], []⟩ with heap := (World.holding Tryd.prog os ⟨#[], #[], []⟩).heap.modify 0 fun
      | .cells _ t frozen => .cells #[.iface 90 (.agg #[.pointer (some ⟨1, 26, none⟩)])] t frozen
      | o => o }
theorem laidWorld_met (os : Os) (args : Array Value) : laidMetH Tryd.prog Rows.recordsRow.laid ((laidWorld os).forCall (fun _ _ => 0) ⟨#[], args, []⟩).memory :=
  laidMetH_of_parts (laidMet_nil _ _) (by kernel_rfl)

variable {H : Type} {enc : TypeId × Value → H} {P : Program}
/-- the row's ending, where nothing that was there has turned -/
theorem post_of_ext {f : Func} {s : ChangeSpec} {apart fresh handsOn again : Bool} {W W' : World} {args : Array Value} {v : Value} {ds gs : List (DataW H)} {before pa pv : List MemPlace}
    (hW : DataW.Whole enc P f.params.toList s.vars apart W args.toList ds gs before)
    (hres : ∀ (b : Nat) (sp : Nat → Bool) (hd : Bool), DataW.TrodAll enc P W' b sp hd f.resultTypes.toList (v.resultList f.resultTypes.size) (s.fn H (ds ++ gs)).results [])
    (hargs : ∀ sp : Nat → Bool, (∀ p ∈ before, sp p.block = true) → DataW.TrodAll enc P W' 0 sp true f.params.toList args.toList (s.fn H (ds ++ gs)).args pa)
    (hvars : ∀ sp : Nat → Bool, (∀ p ∈ before, sp p.block = true) → DataW.TrodVars enc P W' sp s.vars (s.fn H (ds ++ gs)).vars pv)
    (hps : before = pa ++ pv) (hE : Ext W W')
    (hok : ∀ (j : Nat) (t : TypeId) (r : Value), f.resultTypes[j]? = some t → (v.resultList f.resultTypes.size)[j]? = some r → Value.okWide P W' .any 0 t r) :
    s.post enc P f apart fresh handsOn again W args v W' := by
  have hold : ∀ p ∈ before, (fun b => decide (b < W.heap.size)) p.block = true := fun p hp => by simpa using hW.lt p hp
  refine ⟨ds, gs, before, [], pa, pv, hW, hres _ _ _, hargs _ hold, hvars _ hold, World.keptBut_mono (fun p hp => ⟨hp, ?_⟩) (hE.frame (· ∈ before)), fun _ => ?_⟩
  · rw [hps, List.mem_append] at hp
    exact Or.inr hp
  · have hlt := hW.lt
    obtain ⟨_, _, _, _, _, hz, hn⟩ := hW
    refine ⟨hok, _, _, ([] ++ pa) ++ pv, ⟨[] ++ pa, pv, trodAll_append (hargs _ (fun _ _ => rfl)) (hres _ _ _), hvars _ (fun _ _ => rfl), rfl, ?_, ?_⟩, ?_⟩
    · intro b off hp
      have hp' : MemPlace.cell b off ∈ before := by rw [hps]; simpa using hp
      rw [hE.frozen (hlt _ hp')]
      exact hz b off hp'
    · intro ha
      have := hn ha
      rw [hps] at this
      simpa using this
    · intro p hp _
      rw [hps]
      simpa using hp
theorem row_sp {a : Addr} {n : Nat} {sp : Nat → Bool} (h : ∀ p ∈ MemPlace.row a n, sp p.block = true) (hn : 0 < n) : sp a.block = true := by
  obtain ⟨m, rfl⟩ : ∃ m, n = m + 1 := ⟨n - 1, by omega⟩
  have := h (.cell a.block a.off) (by simp [MemPlace.row])
  exact this

/-- a row of integers that came in -/
theorem ints_in {t e : TypeId} {k : IntKind} (ht : P.underlying t = some (.slice e)) (he : P.underlying e = some (.int k)) (hc : P.cellsOf e = 1) {W : World} {base : Nat} {v : Value} {d : DataW H} {p : List MemPlace}
    (hval : Value.okWide P W .any base t v) (h : DataW.Trod enc P W 0 (fun _ => true) true t v d p) :
    ∃ zs : List Int, (∀ n ∈ zs, (Lit.int k n).wf = true) ∧ SliceIs W v zs.length (zs.map (Value.int k)) ∧ (∀ B : Nat, (∀ n ∈ d.weights P t, n ≤ B) → zs.length * P.bytesOf e ≤ B) ∧
      ∀ (W' : World) (sp : Nat → Bool), Ext W W' → (∀ q ∈ p, sp q.block = true) → DataW.Trod enc P W' 0 sp true t v d p := by
  obtain ⟨a0, len0, cap0, rfl⟩ := okWide_slice ht hval
  obtain ⟨fuel, hf⟩ := h
  rcases open_ints ht he hc hf with ⟨hcs, hx⟩ | ⟨a, len, cap, zs, hcs, hb, hl, hm, hz, hx, hcell, hwz⟩
  · simp only [Value.cells, List.cons.injEq, and_true] at hcs
    injection hcs with e1 e2 e3; subst e1; subst e2; subst e3
    injection hx with e1 e2; subst e1; subst e2
    refine ⟨[], by simp, ⟨none, 0, rfl, Nat.le_refl _, ⟨by omega, fun _ => rfl⟩, fun h => absurd rfl h⟩, fun B _ => by simp, fun W' sp hE hs => ?_⟩
    exact shut_slice_nil ht
  · simp only [Value.cells, List.cons.injEq, and_true] at hcs
    injection hcs with e1 e2 e3; subst e1; subst e2; subst e3
    injection hx with e1 e2; subst e1; subst e2
    simp only [if_true] at hz
    have hlen : (zs.take len0).length = len0 := by rw [List.length_take]; omega
    refine ⟨zs.take len0, fun n hn => hwz n (List.mem_of_mem_take hn), ?_, ?_, fun W' sp hE hs => ?_⟩
    · rw [hlen]
      refine ⟨_, _, rfl, hl, ⟨hm, fun h => by cases h⟩, fun _ => ⟨a, rfl, fun i x hi => ?_⟩⟩
      rw [List.getElem?_map, List.getElem?_take] at hi
      split at hi
      · have hil : i < zs.length := by omega
        have hce := hcell i hil
        rw [List.getD_eq_getElem?_getD] at hce
        rw [List.getElem?_eq_getElem hil] at hi hce
        injection hi with hi
        rw [← hi]; exact hce
      · cases hi
    · intro B hB
      have e1 : (lits (H := H) k (zs.take len0)).length = (zs.take len0).length := by simp [lits]
      have e2 := hB (((lits (H := H) k (zs.take len0)).length + (lits (H := H) k (zs.drop len0)).length) * P.bytesOf e) (by simp [DataW.weights, ht])
      rw [e1] at e2
      exact Nat.le_trans (Nat.mul_le_mul_right _ (Nat.le_add_right _ _)) e2
    · refine ⟨_, shut_ints 0 ht he hc hb hl hm ?_ (fun i hi => hE.cell (hcell i hi)) hwz⟩
      rw [hz]
      by_cases hc0 : cap0 = 0
      · split <;> omega
      · rw [row_sp hs (by omega)]; rfl
end post
end Go.Proofs.YtgpbhjjajpbeeaaDoor
