/-
  keydirlaw.Manifests, the second form: what the arguments are, the walk joined, the statement and its card.
-/
import Derived.Test.YtgpbhjjajpbeeaaDoorManifests
import Derived.Test.YtgpbhjjajpbeeaaDoorPost
namespace Go.Proofs.YtgpbhjjajpbeeaaDoor.manifests
open Go.ChangeShapes Go.WideShapes Go.ChangeAt Go.RowKit Go.Joins Go.Lib Pl

/-- bytes, out of the integers of a row of uint8 -/
theorem bytes_of {W : World} {v : Value} {zs : List Int} (hw : ∀ n ∈ zs, (Lit.int .u8 n).wf = true) (h : SliceIs W v zs.length (zs.map (Value.int .u8))) : Bytes W v (zs.map fun n => UInt8.ofNat n.toNat) := by
  unfold Bytes
  rw [List.length_map, List.map_map]
  have e : zs.map (byteV ∘ fun n => UInt8.ofNat n.toNat) = zs.map (Value.int .u8) := by
    apply List.map_congr_left
    intro n hn
    have := hw n hn
    simp only [Lit.wf, Bool.and_eq_true, decide_eq_true_eq] at this
    have h0 : (0 : Int) ≤ n := this.1
    have h1 : n ≤ 255 := this.2
    simp only [Function.comp, byteV, Value.int.injEq, true_and]
    rw [UInt8.toNat_ofNat_of_lt' (by show n.toNat < 256; omega)]; omega
  rw [e]; exact h

set_option maxRecDepth 100000 in
/-- what the walk gives, for every argument and every world that holds the variable -/
theorem contract (H : Type) (enc : TypeId × Value → H) (W : World) (base : Nat) (args : Array Value) (ds gs : List (DataW H)) (before : List MemPlace)
    (hval : ∀ (j : Nat) t v, Tryd.f3.params[j]? = some t → args[j]? = some v → Value.okWide Tryd.prog W .any base t v)
    (hW : DataW.Whole enc Tryd.prog Tryd.f3.params.toList Rows.manifestsSpec.vars false W args.toList ds gs before) (hL : laidMetH Tryd.prog Rows.manifestsRow.laid W)
    (hB : (DataW.weightsEach Tryd.prog [22, 23, 24] ds).all (· ≤ reachBytes) = true) :
    Calls Tryd.prog 3 args W fun e W' => ∃ v, e = .returned v ∧ Rows.manifestsSpec.post enc Tryd.prog Tryd.f3 false true false false W args v W' := by
  have hW' := hW
  obtain ⟨p, q, hA0, hV, rfl, hfz, hnd⟩ := hW
  have hA : DataW.TrodAll enc Tryd.prog W 0 (fun _ => true) true Tryd.f3.params.toList args.toList ds p := hA0
  rw [Tryd.params3] at hA hval
  obtain ⟨v0, vs0, d0, ds0, p0, q0, hargs, rfl, rfl, h0, r0⟩ := trodAll_cons hA
  obtain ⟨v1, vs1, d1, ds1, p1, q1, rfl, rfl, rfl, h1, r1⟩ := trodAll_cons r0
  obtain ⟨v2, vs2, d2, ds2, p2, q2, rfl, rfl, rfl, h2, r2⟩ := trodAll_cons r1
  obtain ⟨rfl, rfl, rfl⟩ := trodAll_nil r2
  obtain rfl : args = #[v0, v1, v2] := by cases args; simp_all
  obtain ⟨rfl, rfl⟩ := trodVars_none hV
  obtain ⟨ns, hnw, hns, hnl, hnk⟩ := post.ints_in Tryd.underlying23 Tryd.underlying3 post.cellsInt (hval 1 23 v1 rfl rfl) h1
  obtain ⟨zs, hzw, hzs, hzl, hzk⟩ := post.ints_in Tryd.underlying24 Tryd.underlying5 post.cellsU8 (hval 2 24 v2 rfl rfl) h2
  obtain ⟨a, rfl, rfl, rfl, wa⟩ := open_int Tryd.underlying22 (hval 0 22 v0 rfl rfl) h0
  clear hA hA0 h0 h1 h2 r0 r1 r2 hargs hval hfz hnd
  have wa0 : 0 ≤ a := by
    have := wa
    simp only [Lit.wf, Bool.and_eq_true, decide_eq_true_eq] at this
    exact this.1
  obtain ⟨gen, rfl⟩ := Int.eq_ofNat_of_zero_le wa0
  have hsz : ns.length + zs.length ≤ 9000000000000000000 := by
    have hall := List.all_eq_true.1 hB
    have b1 := hnl reachBytes (fun n hn => of_decide_eq_true (hall n (DataW.weights_mem_each (j := 1) (t := 23) rfl rfl n hn)))
    have b2 := hzl reachBytes (fun n hn => of_decide_eq_true (hall n (DataW.weights_mem_each (j := 2) (t := 24) rfl rfl n hn)))
    rw [post.bytesInt] at b1
    rw [post.bytesU8] at b2
    unfold reachBytes at b1 b2
    omega
  have hb := bytes_of hzw hzs
  have hlz : (zs.map fun n => UInt8.ofNat n.toNat).length = zs.length := List.length_map ..
  simp only [List.append_nil, List.nil_append] at hW'
  refine (manifests_any gen v1 ns v2 _ W hns hnw hb (post.laid_of hL) (by rw [hlz]; exact hsz)).mono fun e W' ⟨he, hE⟩ => ?_
  subst he
  refine ⟨_, rfl, post.post_of_ext (pa := p1 ++ p2) (pv := []) hW' (fun _ _ _ => trodAll_cons_mk (shut_bool Tryd.underlying4 _) trodAll_mk0) (fun sp hsp => ?_) (fun _ _ => rfl) (List.append_nil _).symm hE (ok_one (by kernel_rfl) rfl (okWide_bool_mk Tryd.underlying4 _))⟩
  have t0 : DataW.Trod enc Tryd.prog W' 0 sp true 22 (.int .u64 gen) (.lit (.int .u64 gen)) [] := shut_int Tryd.underlying22 wa
  have t1 := trodAll_cons_mk t0 (trodAll_cons_mk (hnk W' sp hE (fun q hq => hsp q (List.mem_append.2 (Or.inl hq)))) (trodAll_cons_mk (hzk W' sp hE (fun q hq => hsp q (List.mem_append.2 (Or.inr hq)))) trodAll_mk0))
  simp only [List.append_nil, List.nil_append] at t1
  rw [Tryd.params3]
  exact t1

/-- the witness: nothing at all -/
theorem reads (os : Os) {H : Type} (enc : TypeId × Value → H) : ∃ places, DataW.whole enc Tryd.prog ((post.laidWorld os).forCall (fun _ _ => 0) ⟨#[], #[.int .u64 0, .slice none 0 0, .slice none 0 0], []⟩).memory Tryd.f3.params.toList Rows.manifestsSpec.vars false #[Value.int .u64 0, Value.slice none 0 0, Value.slice none 0 0].toList 8 = some ([.lit (.int .u64 0), .nil, .nil], [], places) :=
  ⟨[], by kernel_rfl⟩

set_option maxRecDepth 100000 in
/-- the second form's step -/
theorem lifted (os : Os) (started : os.Started) (H : Type) (enc : TypeId × Value → H) (F : Stop.Interp) :
    ReturnsInHanded {} Tryd.checked os 3 .any ((OpenSpec.ofChange Rows.manifestsSpec).preRow enc Tryd.prog Tryd.f3 Rows.manifestsRow.domain false Rows.manifestsRow.laid) (((OpenSpec.ofChange Rows.manifestsSpec).at F).post enc Tryd.prog Tryd.f3 false true false false) := by
  obtain ⟨places, hx⟩ := reads os enc
  refine returnsInHanded_of_row (C := Tryd.checked) (s := OpenSpec.ofChange Rows.manifestsSpec) post.own started (by kernel_rfl) Tryd.func3
    (witness_row_at (enc := enc) (C := Tryd.checked) false (post.laidWorld os) #[.int .u64 0, .slice none 0 0, .slice none 0 0] rfl (by kernel_rfl) (by kernel_rfl) (by kernel_rfl)
      (OpenSpec.preRow_of_cond 8 hx (by kernel_rfl) (fun k hk => by cases hk) (by kernel_rfl) (post.laidWorld_met os _))) ?_
  intro W base args ds gs before hval hW hcond h2 h3 hL h4 h5
  have hgs : gs = [] ∧ ds = ds ++ gs := by
    obtain ⟨p, q, _, hV, _⟩ := hW
    obtain ⟨rfl, _⟩ := trodVars_none hV
    exact ⟨rfl, (List.append_nil _).symm⟩
  obtain ⟨rfl, -⟩ := hgs
  rw [List.append_nil] at h3
  exact contract H enc W base args ds [] before hval hW hL h3

theorem proved : Rows.ManifestsSaid :=
  OpenClaim.holds_of_cond 3 Tryd.f3 rfl rfl rfl rfl rfl rfl rfl ⟨rfl, rfl, rfl, rfl, rfl⟩ rfl rfl rfl rfl rfl (by kernel_rfl) Tryd.func3 (by kernel_rfl)
    (of_decide_eq_true (by kernel_rfl)) (by unfold Func.isWrapper; first | (rw [if_pos (by decide +kernel)]; kernel_rfl) | (rw [if_neg (by decide +kernel)]; exact ⟨rfl, rfl⟩))
    (fun os started H enc _ F => by rw [OpenClaim.pre_eq_preRow]; exact lifted os started H enc F)

/-- no parameter wants a stand-in; the program's own looks are off -/
theorem plain (f : FuncId) (fn : Func) (hf : Tryd.pinned.checked.prog.funcNamed "keydir/keydirlaw.Manifests" = some f) (hfn : Tryd.pinned.checked.prog.funcs[f]? = some fn) :
    true = Tryd.pinned.checked.prog.looks [] ∧ ∀ (j : Nat) t, fn.params[j]? = some t → Tryd.pinned.checked.prog.wantsStandIn t = false := by
  obtain rfl : f = 3 := Option.some.inj ((show Tryd.prog.funcNamed "keydir/keydirlaw.Manifests" = some 3 by kernel_rfl).symm.trans hf) |>.symm
  obtain rfl : fn = Tryd.f3 := (Option.some.inj (Tryd.func3.symm.trans hfn)).symm
  refine ⟨by kernel_rfl, fun j t ht => ?_⟩
  rw [Tryd.params3] at ht
  have hm : t = 22 ∨ t = 23 ∨ t = 24 := by simpa using Array.mem_of_getElem? ht
  rcases hm with rfl | rfl | rfl
  · exact (show Tryd.prog.wantsStandIn 22 = false by kernel_rfl)
  · exact (show Tryd.prog.wantsStandIn 23 = false by kernel_rfl)
  · exact (show Tryd.prog.wantsStandIn 24 = false by kernel_rfl)

theorem card : Rows.ManifestsCardSaid :=
  Claim7.holds_tied_plain_at .later [] _ _ _ _ proved (fun _ h => by cases h) (by kernel_rfl) (fun _ h => by cases h) manifests_row_tie rfl ⟨rfl, rfl⟩ (by kernel_rfl) rfl plain (by kernel_rfl)
#print axioms card
end Go.Proofs.YtgpbhjjajpbeeaaDoor.manifests
