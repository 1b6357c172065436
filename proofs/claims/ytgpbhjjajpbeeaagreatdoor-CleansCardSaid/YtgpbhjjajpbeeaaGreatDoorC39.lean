/-
  keydirlaw.Cleans answers true at every directory, whatever a crash takes, and its arguments read as they did: the second form's row and its tied card. No condition.
-/
import Derived.Test.YtgpbhjjajpbeeaaGreatDoorC36
import Derived.Test.YtgpbhjjajpbeeaaGreatDoorC38
set_option linter.unusedSimpArgs false
set_option linter.unusedVariables false
set_option linter.unnecessarySimpa false
namespace Go.Proofs.YtgpbhjjajpbeeaaGreatDoor.cleans
open Go.ChangeShapes Go.WideShapes Go.ChangeAt Go.RowKit Go.Joins Go.Lib Pl

theorem laidOut : laidOutB Tryz.prog = true := by kernel_rfl
theorem readable27 : Tryz.prog.readableRec 27 = true := by kernel_rfl

set_option maxRecDepth 100000 in
/-- what the walk gives, for every argument and every world that holds the variables -/
theorem contract (H : Type) (enc : TypeId × Value → H) (W : World) (base : Nat) (args : Array Value) (ds gs : List (DataW H)) (before : List MemPlace)
    (hval : ∀ (j : Nat) t v, Tryz.f6.params[j]? = some t → args[j]? = some v → Value.okWide Tryz.prog W .any base t v)
    (hW : DataW.Whole enc Tryz.prog Tryz.f6.params.toList Rows.cleansSpec.vars false W args.toList ds gs before) (hL : laidMetH Tryz.prog Rows.cleansRow.laid W)
    (hB : (DataW.weightsEach Tryz.prog [27, 56, 56] ds).all (· ≤ reachBytes) = true) :
    Calls Tryz.prog 6 args W fun e W' => ∃ v, e = .returned v ∧ Rows.cleansSpec.post enc Tryz.prog Tryz.f6 false true false false W args v W' := by
  have hW' := hW
  obtain ⟨p, q, hA0, hV, rfl, hfz, hnd⟩ := hW
  have hA : DataW.TrodAll enc Tryz.prog W 0 (fun _ => true) true Tryz.f6.params.toList args.toList ds p := hA0
  rw [Tryz.params6] at hA hval
  obtain ⟨v0, vs0, d0, ds0, p0, q0, hargs, rfl, rfl, h0, r0⟩ := trodAll_cons hA
  obtain ⟨v1, vs1, d1, ds1, p1, q1, rfl, rfl, rfl, h1, r1⟩ := trodAll_cons r0
  obtain ⟨v2, vs2, d2, ds2, p2, q2, rfl, rfl, rfl, h2, r2⟩ := trodAll_cons r1
  obtain ⟨rfl, rfl, rfl⟩ := trodAll_nil r2
  obtain rfl : args = #[v0, v1, v2] := by cases args; simp_all
  obtain ⟨rfl, rfl⟩ := trodVars_none hV
  obtain ⟨D, hD, hDw⟩ := zopen.dr_in (hval 0 27 v0 rfl rfl) h0
  obtain ⟨a, rfl, rfl, rfl, wa⟩ := open_int Tryz.underlying56 (hval 1 56 v1 rfl rfl) h1
  obtain ⟨b, rfl, rfl, rfl, wb⟩ := open_int Tryz.underlying56 (hval 2 56 v2 rfl rfl) h2
  clear hA hA0 h1 h2 r0 r1 r2 hargs hval hfz hnd
  have wa0 : 0 ≤ a ∧ a < 18446744073709551616 := by
    have := wa
    simp only [Lit.wf, Bool.and_eq_true, decide_eq_true_eq] at this
    exact ⟨this.1, Int.lt_of_le_sub_one this.2⟩
  have wb0 : 0 ≤ b ∧ b < 18446744073709551616 := by
    have := wb
    simp only [Lit.wf, Bool.and_eq_true, decide_eq_true_eq] at this
    exact ⟨this.1, Int.lt_of_le_sub_one this.2⟩
  obtain ⟨dir, rfl⟩ := Int.eq_ofNat_of_zero_le wa0.1
  obtain ⟨tail, rfl⟩ := Int.eq_ofNat_of_zero_le wb0.1
  have hfit : D.Fits 281474976710656 := by
    have hall := List.all_eq_true.1 hB
    have := hDw reachBytes (fun n hn => of_decide_eq_true (hall n (DataW.weights_mem_each (j := 0) (t := 27) rfl rfl n hn)))
    unfold reachBytes at this
    exact ⟨fun s hs => by have := this.tail s hs; omega, fun s hs r hr => by have := this.recs s hs r hr; omega, fun s hs => by have := this.other s hs; omega⟩
  simp only [List.append_nil, List.nil_append] at hW'
  refine (cleans_any v0 D dir tail W hD hfit (zpost.laid_of hL) (zpost.laidP_of hL) (by omega) (by omega)).mono fun e W' ⟨he, hE⟩ => ?_
  subst he
  refine ⟨_, rfl, zpost.post_of_ext (pa := p0) (pv := []) hW' (fun _ _ _ => trodAll_cons_mk (shut_bool Tryz.underlying4 _) trodAll_mk0) (fun sp hsp => ?_) (fun _ _ => rfl) (List.append_nil _).symm hE (ok_one (by kernel_rfl) rfl (okWide_bool_mk Tryz.underlying4 _))⟩
  have hlt := hW'.lt
  have t0 : DataW.Trod enc Tryz.prog W' 0 sp true 27 v0 d0 p0 := Go.WideElems.Trod_stays laidOut readable27 (of_decide_eq_true (by kernel_rfl)) h0 (fun q hq => zpost.same_of_ext hE (hlt q hq)) hsp
  have t1 : DataW.Trod enc Tryz.prog W' 0 sp true 56 (.int .u64 dir) (.lit (.int .u64 dir)) [] := shut_int Tryz.underlying56 wa
  have t2 : DataW.Trod enc Tryz.prog W' 0 sp true 56 (.int .u64 tail) (.lit (.int .u64 tail)) [] := shut_int Tryz.underlying56 wb
  have t3 := trodAll_cons_mk t0 (trodAll_cons_mk t1 (trodAll_cons_mk t2 trodAll_mk0))
  simp only [List.append_nil, List.nil_append] at t3
  rw [Tryz.params6]
  exact t3

/-- the witness: an empty directory -/
abbrev wargs : Array Value := #[.agg #[.slice none 0 0, .slice none 0 0, .int .u64 0, .slice none 0 0, .bool false, .bool false], .int .u64 0, .int .u64 0]
theorem reads (os : Os) {H : Type} (enc : TypeId × Value → H) : ∃ places, DataW.whole enc Tryz.prog ((zpost.laidWorld os #[]).forCall (fun _ _ => 0) ⟨#[], wargs, []⟩).memory Tryz.f6.params.toList Rows.cleansSpec.vars false wargs.toList 8 = some ([.agg [.nil, .nil, .lit (.int .u64 0), .nil, .lit (.bool false), .lit (.bool false)], .lit (.int .u64 0), .lit (.int .u64 0)], [], places) :=
  ⟨[], by kernel_rfl⟩

set_option maxRecDepth 100000 in
/-- the second form's step -/
theorem lifted (os : Os) (started : os.Started) (H : Type) (enc : TypeId × Value → H) (F : Stop.Interp) :
    ReturnsInHanded {} Tryz.checked os 6 .any ((OpenSpec.ofChange Rows.cleansSpec).preRow enc Tryz.prog Tryz.f6 Rows.cleansRow.domain false Rows.cleansRow.laid) (((OpenSpec.ofChange Rows.cleansSpec).at F).post enc Tryz.prog Tryz.f6 false true false false) := by
  obtain ⟨places, hx⟩ := reads os enc
  refine returnsInHanded_of_row (C := Tryz.checked) (s := OpenSpec.ofChange Rows.cleansSpec) zpost.own started (by kernel_rfl) Tryz.func6
    (witness_row_at (enc := enc) (C := Tryz.checked) false (zpost.laidWorld os #[]) wargs rfl (by kernel_rfl) (by kernel_rfl) (by kernel_rfl)
      (OpenSpec.preRow_of_cond 8 hx (by kernel_rfl) (fun k hk => by cases hk) (by kernel_rfl) (zpost.laidWorld_met os _))) ?_
  intro W base args ds gs before hval hW hcond h2 h3 hL h4 h5
  have hgs : gs = [] ∧ ds = ds ++ gs := by
    obtain ⟨p, q, _, hV, _⟩ := hW
    obtain ⟨rfl, _⟩ := trodVars_none hV
    exact ⟨rfl, (List.append_nil _).symm⟩
  obtain ⟨rfl, -⟩ := hgs
  rw [List.append_nil] at h3
  exact contract H enc W base args ds [] before hval hW hL h3

theorem proved : Rows.CleansSaid :=
  OpenClaim.holds_of_wide_leaving 6 Tryz.f6 rfl rfl rfl rfl rfl rfl rfl ⟨rfl, rfl, rfl, rfl, rfl⟩ rfl rfl rfl rfl rfl (by kernel_rfl) Tryz.func6 (by kernel_rfl)
    (of_decide_eq_true (by kernel_rfl)) (by unfold Func.isWrapper; first | (rw [if_pos (by decide +kernel)]; kernel_rfl) | (rw [if_neg (by decide +kernel)]; exact ⟨rfl, rfl⟩))
    (fun os started H enc _ => by rw [OpenClaim.pre_eq_preRow]; exact zpost.leaving_of_handed (lifted os started H enc (fun _ _ _ => default)))

/-- no parameter wants a stand-in; the program's own looks are off -/
theorem plain (f : FuncId) (fn : Func) (hf : Tryz.pinned.checked.prog.funcNamed "keydir/keydirlaw.Cleans" = some f) (hfn : Tryz.pinned.checked.prog.funcs[f]? = some fn) :
    true = Tryz.pinned.checked.prog.looks [] ∧ ∀ (j : Nat) t, fn.params[j]? = some t → Tryz.pinned.checked.prog.wantsStandIn t = false := by
  obtain rfl : f = 6 := Option.some.inj ((show Tryz.prog.funcNamed "keydir/keydirlaw.Cleans" = some 6 by kernel_rfl).symm.trans hf) |>.symm
  obtain rfl : fn = Tryz.f6 := (Option.some.inj (Tryz.func6.symm.trans hfn)).symm
  refine ⟨by kernel_rfl, fun j t ht => ?_⟩
  rw [Tryz.params6] at ht
  have hm : t = 27 ∨ t = 56 ∨ t = 56 := by simpa using Array.mem_of_getElem? ht
  rcases hm with rfl | rfl | rfl
  · exact (show Tryz.prog.wantsStandIn 27 = false by kernel_rfl)
  · exact (show Tryz.prog.wantsStandIn 56 = false by kernel_rfl)
  · exact (show Tryz.prog.wantsStandIn 56 = false by kernel_rfl)

theorem card : Rows.CleansCardSaid :=
  zpost.card_goes _ _ _ proved (by kernel_rfl) cleans_row_tie rfl ⟨rfl, rfl⟩ (by kernel_rfl) rfl plain (by kernel_rfl)
#print axioms card
end Go.Proofs.YtgpbhjjajpbeeaaGreatDoor.cleans
