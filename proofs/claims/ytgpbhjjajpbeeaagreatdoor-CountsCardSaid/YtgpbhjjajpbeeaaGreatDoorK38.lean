/-
  Counts: for any directory (built by the law out of any rows of records) and any two numbers, the law 'Counts' of the given program answers as its card says, whatever the other goroutines do.
  Conditions: none but the card's own.
-/
import Derived.Test.YtgpbhjjajpbeeaaGreatDoorK37
set_option linter.all false
namespace Go.Proofs.YtgpbhjjajpbeeaaGreatDoor.counts
section
open Go.ChangeShapes Go.WideShapes Go.ChangeAt Go.RowKit Go.Joins Go.Lib Pl
theorem j1:(Rows.countsRow.inPlace==Tryz.prog.inPlace 4)=true:=by kernel_rfl
theorem j2:(Rows.countsRow.unfollowed==Tryz.prog.unfollowed 4)=true:=by kernel_rfl
theorem j3:(Rows.countsRow.recurses==Tryz.prog.recurses 4)=true:=by kernel_rfl
theorem j4:(Rows.countsRow.named==Tryz.prog.varsNamed 4)=true:=by kernel_rfl
theorem j5:Tryz.prog.mayEnter=true:=by kernel_rfl
theorem j6:laidOutB Tryz.prog=true:=by kernel_rfl
theorem j7:mapsRowed Tryz.prog=true:=by kernel_rfl
theorem j8:Rows.countsRow.wf (OpenSpec.ofChange Rows.countsSpec)=true:=by kernel_rfl
theorem closed:joinedFacts Tryz.prog 4 Tryz.f4 Rows.countsSpec Rows.countsRow=true:=by
 unfold joinedFacts;simp only[Bool.and_eq_true];repeat' apply And.intro
 all_goals first|(with_reducible exact j1)|(with_reducible exact j2)|(with_reducible exact j3)|(with_reducible exact j4)|(with_reducible exact j5)|(with_reducible exact j6)|(with_reducible exact j7)|(with_reducible exact j8)|kernel_rfl
theorem proved:Rows.CountsSaid:=
 OpenClaim.holds_of_wide_leaving 4 Tryz.f4 rfl rfl rfl rfl rfl rfl rfl ⟨rfl,rfl,rfl,rfl,rfl⟩ rfl rfl rfl rfl rfl (by kernel_rfl) Tryz.func4 closed
  (of_decide_eq_true (by kernel_rfl)) (by unfold Func.isWrapper;first|(rw[if_pos (by decide +kernel)];kernel_rfl)|(rw[if_neg (by decide +kernel)];exact⟨rfl,rfl⟩))
  (fun os started H enc _=>by rw[OpenClaim.pre_eq_preRow];exact lifted os started H enc (fun _ _ _=>default))
theorem plain(f:FuncId)(fn:Func)(hf:Tryz.pinned.checked.prog.funcNamed "keydir/keydirlaw.Counts" = some f)(hfn:Tryz.pinned.checked.prog.funcs[f]?=some fn):
 true=Tryz.pinned.checked.prog.looks []/\∀(j:Nat)t,fn.params[j]?=some t->Tryz.pinned.checked.prog.wantsStandIn t=false:=by
 obtain rfl:f=4:=Option.some.inj ((show Tryz.prog.funcNamed "keydir/keydirlaw.Counts" = some 4 by kernel_rfl).symm.trans hf) |>.symm;obtain rfl:fn=Tryz.f4:=(Option.some.inj (Tryz.func4.symm.trans hfn)).symm;refine⟨by kernel_rfl,fun j t ht=>?_⟩;rw[Tryz.params4] at ht;have hm:t=27\/t=3\/t=3:=by simpa using Array.mem_of_getElem? ht
 rcases hm with rfl|rfl|rfl
 ·exact(show Tryz.prog.wantsStandIn 27=false by kernel_rfl)
 ·exact(show Tryz.prog.wantsStandIn 3=false by kernel_rfl)
 ·exact(show Tryz.prog.wantsStandIn 3=false by kernel_rfl)
theorem card:Rows.CountsCardSaid:=
 zpost.card_goes _ _ _ proved (by kernel_rfl) counts_row_tie rfl ⟨rfl,rfl⟩ (by kernel_rfl) rfl plain (by kernel_rfl)
#print axioms card
end
end Go.Proofs.YtgpbhjjajpbeeaaGreatDoor.counts
