/-
  What the cards of this seat share: the row that says 'leaving', the card that says 'goes', the listed variables, the witness' world.
-/
import Derived.Test.YtgpbhjjajpbeeaaGreatDoorC19
import Derived.Test.YtgpbhjjajpbeeaaGreatDoorC30
import Derived.Test.YtgpbhjjajpbeeaaGreatDoorCards
import Derived.Test.YtgpbhjjajpbeeaaGreatDoorTie
import Derived.WalkKit
import Derived.ProofKit
import Derived.OpenShut
import Derived.Deep.DeepHandedRow
import Derived.Deep.DeepLaidRun
import Derived.Deep.Slices
import Derived.WideKeyArgs
import Derived.LaidLaws
import Derived.LaidHandle
import Derived.Leaving
import Derived.Conc.Holds
import Derived.Lib.LaidTab
import Derived.Lib.SmallJoins
import Derived.SizedLaws
set_option linter.unusedSimpArgs false
set_option linter.unusedVariables false
set_option linter.unnecessarySimpa false
namespace Go.Proofs.YtgpbhjjajpbeeaaGreatDoor
open Go.ChangeShapes Go.WideShapes Go.ChangeAt Go.RowKit Go.Joins Go.Lib Pl

namespace zpost
/-- a lone call hands everything over and leaves no goroutine -/
theorem leaving_of_handed {a : Assume} {C : Checked} {os : Os} {f : FuncId} {r : Reach} {Pre : World → Array Value → Prop} {Post : World → Array Value → Value → World → Prop}
    (h : ReturnsInHanded a C os f r Pre Post) : ReturnsInLeavingWide a C os f r Pre Post := fun enter => by
  obtain ⟨a1, a2, a3, wit, run⟩ := h enter
  refine ⟨a1, a2, a3, wit, fun w tape i hh => ?_⟩
  obtain ⟨n, v, w', h1, h2, h3, h4, ⟨N, last, h5, h6, h7⟩, h8⟩ := run w tape i hh
  exact ⟨n, v, w', h1, h2, h3, h4, ⟨N, last, h5, h6, h7.2.1, onlyLeaving_of_quiet h7.1, h7.2.2⟩, h8⟩
/-- a tied card that says 'goes' -/
theorem card_goes {p : Pinned} {s : OpenSpec} {c : OpenClaim} (kinds : List LaidKind) (har : Bool × String) (lk : Bool)
    (hc : c.holds p s) (hw : c.wfByText s = true) (htie : c.laidByTextAt .later p kinds true)
    (hst : c.start = .entering) (hnb : c.noBlocks = false ∧ c.again = false) (hm : p.checked.prog.mainIs = some (har.1, har.2.toList)) (hn : (!har.1 && har.2.isEmpty && !lk) = false)
    (hl : ∀ f fn, p.checked.prog.funcNamed c.func = some f → p.checked.prog.funcs[f]? = some fn → lk = p.checked.prog.looks [] ∧ ∀ (j : Nat) t, fn.params[j]? = some t → p.checked.prog.wantsStandIn t = false)
    (hg : true = c.goesBy p.checked.prog) :
    Claim7.holds p (.plain s) { stood := { row := c, standIns := [], harness := har, looks := lk }, kinds := [], alts := [], goes := true, laidByText := true, laidKinds := kinds, laidTests := true, laidLooks := .later } := by
  have h6 : Claim7.isSixth { stood := { row := c, standIns := [], harness := har, looks := lk }, kinds := [] } = false := by simpa [Claim7.isSixth] using hn
  refine ⟨?_, (fun D hD => by cases hD), htie, (fun h => by cases h), hg⟩
  exact Claim7.tied_new_at .later kinds true (Claim7.new_of_sixth hc har lk hst hnb hm h6 hl) hw

theorem own : ownKnob Tryz.prog.godebug = none := by kernel_rfl
theorem et : Tryz.prog.globalNamed "errors.errorType" = some 0 := by kernel_rfl
theorem rt : (Tryz.prog.cutTypes.find? (·.1 == "internal/reflectlite.rtype")).map (·.2) = some 275 := by kernel_rfl
theorem oneRow : ((List.range 395).filter fun t => Tryz.prog.rowNamed t [101, 114, 114, 111, 114]) = [34] := by kernel_rfl
theorem size : Tryz.prog.types.size = 395 := by kernel_rfl
theorem handle : typeHandle Tryz.prog 34 = .pointer (some ⟨7, 34, none⟩) := by kernel_rfl

abbrev laid : List (String × DataW Unit) := Rows.cleansRow.laid
theorem laid_of {W : World} (h : laidMetH Tryz.prog laid W) : Laid W := by
  have h' : laidMet Tryz.prog (laid.filter fun x => x.2.handleName?.isNone) W ∧ handlesMet Tryz.prog [("errors.errorType", Rows.laid_errors_errorType)] W := h
  obtain ⟨name, u, ty, e1, e2, e3, e4, e5⟩ := h'.2 _ (List.mem_singleton.2 rfl)
  have en : name = [101, 114, 114, 111, 114] := (Option.some.inj e1).symm
  subst en
  obtain rfl := Option.some.inj (rt.symm.trans e2)
  have hm : ty ∈ (List.range 395).filter fun t => Tryz.prog.rowNamed t [101, 114, 114, 111, 114] := List.mem_filter.2 ⟨List.mem_range.2 (by rw [← size]; exact e3), e4⟩
  rw [oneRow] at hm
  obtain rfl := List.mem_singleton.1 hm
  rw [handle] at e5
  have := World.var?_cell et e5 0
  unfold Laid
  simpa using this
theorem g10 : Tryz.prog.globalNamed "internal/strconv.uint64pow10" = some 1 := by kernel_rfl
theorem ty10 : (Tryz.prog.globals[1]?).map (·.type) = some 353 := by kernel_rfl
theorem laidP_of {W : World} (h : laidMetH Tryz.prog laid W) : LaidP W := by
  have h' : laidMet Tryz.prog [("math/bits.deBruijn32tab", Rows.laid_math_bits_deBruijn32tab), ("math/bits.deBruijn64tab", Rows.laid_math_bits_deBruijn64tab), ("internal/strconv.uint64pow10", Rows.laid_internal_strconv_uint64pow10), ("unicode/utf8.acceptRanges", Rows.laid_unicode_utf8_acceptRanges), ("unicode/utf8.first", Rows.laid_unicode_utf8_first)] W :=
    (show laidMet Tryz.prog (laid.filter fun x => x.2.handleName?.isNone) W ∧ handlesMet Tryz.prog [("errors.errorType", Rows.laid_errors_errorType)] W from h).1
  obtain ⟨ps, ⟨_, _, _, _, _, _, _, _, _, _, ⟨_, _, _, _, _, _, _, _, _, _, ⟨g', t', cs, fuel, p, q, hg', ht', hvar, hd, _, _⟩, _⟩, _⟩, _⟩ := h'
  obtain rfl := Option.some.inj (g10.symm.trans hg')
  obtain rfl := Option.some.inj (ty10.symm.trans ht')
  unfold LaidP TabIs
  have hd' : DataW.trod (fun _ => ()) Tryz.prog W 0 (fun _ => true) false fuel 353 cs.toList = some (tabData .u64 pow10Tab, p) := hd
  rw [hvar, ← cells_of_tab Tryz.underlying353 Tryz.underlying24 (by kernel_rfl) (by kernel_rfl) hd']

/-! ### a world that meets the condition: the settled one, the variables' cells laid -/
def litV : Lit → Value
  | .int k n => .int k n
  | _ => .nilIface
def lv : DataW Unit → Value
  | .lit l => litV l
  | _ => .nilIface
def row1 : DataW Unit → List Value
  | .agg xs => xs.map lv
  | x => [lv x]
def row2 : DataW Unit → List Value
  | .agg xs => xs.flatMap row1
  | x => [lv x]
def put (cs : List Value) : Obj → Obj
  | .cells _ t frozen => .cells cs.toArray t frozen
  | o => o
noncomputable def laidWorld (os : Os) (args : Array Value) : World :=
  { World.holding Tryz.prog os ⟨#[], args, []⟩ with heap := (((((((World.holding Tryz.prog os ⟨#[], args, []⟩).heap.modify 0 (put [.iface 275 (.agg #[.pointer (some ⟨7, 34, none⟩)])])).modify 5 (put (row2 Rows.laid_math_bits_deBruijn32tab))).modify 6 (put (row2 Rows.laid_math_bits_deBruijn64tab))).modify 1 (put (row2 Rows.laid_internal_strconv_uint64pow10))).modify 4 (put (row2 Rows.laid_unicode_utf8_acceptRanges))).modify 3 (put (row2 Rows.laid_unicode_utf8_first))) }
theorem laidWorld_met (os : Os) (args : Array Value) : laidMetH Tryz.prog laid ((laidWorld os #[]).forCall (fun _ _ => 0) ⟨#[], args, []⟩).memory :=
  laidMetH_of_parts (laidMet_of_run3 8 (by kernel_rfl) (by kernel_rfl) (by kernel_rfl)) (by kernel_rfl)
variable {H : Type} {enc : TypeId × Value → H} {P : Program}
/-- the row's ending, where nothing that was there has turned -/
theorem post_of_ext {f : Func} {s : ChangeSpec} {apart fresh handsOn again : Bool} {W W' : World} {args : Array Value} {v : Value} {ds gs : List (DataW H)} {before pa pv : List MemPlace}
    (hW : DataW.Whole enc P f.params.toList s.vars apart W args.toList ds gs before)
    (hres : ∀ (b : Nat) (sp : Nat → Bool) (hd : Bool), DataW.TrodAll enc P W' b sp hd f.resultTypes.toList (v.resultList f.resultTypes.size) (s.fn H (ds ++ gs)).results [])
    (hargs : ∀ sp : Nat → Bool, (∀ p ∈ before, sp p.block = true) → DataW.TrodAll enc P W' 0 sp true f.params.toList args.toList (s.fn H (ds ++ gs)).args pa)
    (hvars : ∀ sp : Nat → Bool, (∀ p ∈ before, sp p.block = true) → DataW.TrodVars enc P W' sp s.vars (s.fn H (ds ++ gs)).vars pv)
    (hps : before = pa ++ pv) (hE : Ext W W')
    (hok : ∀ (j : Nat) (t : TypeId) (r : Value), f.resultTypes[j]? = some t → (v.resultList f.resultTypes.size)[j]? = some r → Value.okWide P W' .any 0 t r) :
    s.post enc P f apart fresh handsOn again W args v W' := by
  have hold : ∀ p ∈ before, (fun b => decide (b < W.heap.size)) p.block = true := fun p hp => by simpa using hW.lt p hp
  refine ⟨ds, gs, before, [], pa, pv, hW, hres _ _ _, hargs _ hold, hvars _ hold, World.keptBut_mono (fun p hp => ⟨hp, ?_⟩) (hE.frame (· ∈ before)), fun _ => ?_⟩
  · rw [hps, List.mem_append] at hp
    exact Or.inr hp
  · have hlt := hW.lt
    obtain ⟨_, _, _, _, _, hz, hn⟩ := hW
    refine ⟨hok, _, _, ([] ++ pa) ++ pv, ⟨[] ++ pa, pv, trodAll_append (hargs _ (fun _ _ => rfl)) (hres _ _ _), hvars _ (fun _ _ => rfl), rfl, ?_, ?_⟩, ?_⟩
    · intro b off hp
      have hp' : MemPlace.cell b off ∈ before := by rw [hps]; simpa using hp
      rw [hE.frozen (hlt _ hp')]
      exact hz b off hp'
    · intro ha
      have := hn ha
      rw [hps] at this
      simpa using this
    · intro p hp _
      rw [hps]
      simpa using hp
theorem same_of_ext {w w' : World} (hE : Ext w w') {p : MemPlace} (h : p.block < w.heap.size) : w.sameAt w' p := by
  have := hE.block p.block h
  cases p with
  | cell b off => exact World.cell?_of_block this
  | map b => exact this
end zpost
end Go.Proofs.YtgpbhjjajpbeeaaGreatDoor
