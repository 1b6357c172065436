/-
  Refuses: for any directory (built by the law out of any rows of records) and any numbers, the law 'Refuses' of the given program answers as its card says, whatever the schedule of its goroutines.
  Conditions: none but the card's own.
-/
import Derived.Test.YtgpbhjjajpbeeaaGreatDoorR27
set_option linter.all false
set_option maxRecDepth 100000
namespace Go.Proofs.YtgpbhjjajpbeeaaGreatDoor.refuses
section
open Go.ChangeShapes Go.WideShapes Go.ChangeAt Go.RowKit Go.Joins Go.Lib Pl
theorem laidOut:laidOutB Tryz.prog=true:=by kernel_rfl
theorem b4K:Tryz.prog.readableRec 27=true:=by kernel_rfl
theorem b4L:Tryz.prog.readableRec 69=true:=by kernel_rfl
theorem c1Z{H:Type}{enc:TypeId×Value->H}{W:World}{base:Nat}{v:Value}{d:DataW H}{p:List MemPlace}(hval:Value.okWide Tryz.prog W .any base 69 v)(h:DataW.Trod enc Tryz.prog W 0 (fun _=>true) true 69 v d p):
 ∃(ba:Option Addr)(bc:Nat)(vs:List Int),v=.slice ba vs.length bc/\Ints W (.slice ba vs.length bc) vs:=by
 obtain⟨a0,len0,cap0,rfl⟩:=okWide_slice Tryz.underlying69 hval;obtain⟨fuel,hf⟩:=h;rcases open_ints Tryz.underlying69 Tryz.underlying3 (by kernel_rfl) hf with⟨hcs,hx⟩|⟨a,len,cap,zs,hcs,hb,hl,hm,hz,hx,hcell,hwz⟩
 ·simp only[Value.cells,List.cons.injEq,and_true] at hcs;injection hcs with e1 e2 e3;subst e1;subst e2;subst e3;exact⟨none,0,[],rfl,none,0,rfl,Nat.le_refl _,⟨by omega,fun _=>rfl⟩,fun h=>absurd rfl h⟩
 ·simp only[Value.cells,List.cons.injEq,and_true] at hcs;injection hcs with e1 e2 e3;subst e1;subst e2;subst e3;simp only[if_true] at hz;have hlen:(zs.take len0).length=len0:=by rw[List.length_take];omega
  refine⟨some a,cap0,zs.take len0,by rw[hlen],?_⟩;rw[hlen];refine⟨some a,cap0,by rw[hlen],by rw[hlen];exact hl,⟨hm,fun h=>by cases h⟩,fun _=>⟨a,rfl,fun i x hi=>?_⟩⟩;rw[List.getElem?_map,List.getElem?_take] at hi;split at hi
  ·have hil:i<zs.length:=by omega
   have hce:=hcell i hil;rw[List.getD_eq_getElem?_getD] at hce;rw[List.getElem?_eq_getElem hil] at hi hce;injection hi with hi;rw[<-hi];exact hce
  ·cases hi
theorem run(H:Type)(enc:TypeId×Value->H)(W:World)(base:Nat)(args:Array Value)(ds gs:List (DataW H))(before:List MemPlace)
 (hval:∀(j:Nat)t v,Tryz.f7.params[j]?=some t->args[j]?=some v->Value.okWide Tryz.prog W .any base t v)
 (hW:DataW.Whole enc Tryz.prog Tryz.f7.params.toList Rows.refusesSpec.vars false W args.toList ds gs before)(hL:laidMetH Tryz.prog Rows.refusesRow.laid W)
 (hB:(DataW.weightsEach Tryz.prog [27,69] ds).all (· ≤ reachBytes)=true)(hS:W.ShapedOpen Tryz.prog):
 Fs.So Tryz.prog (fun v W'=>Rows.refusesSpec.post enc Tryz.prog Tryz.f7 false true false false W args v W') (Go.Conc.G (Frame.enter Tryz.prog 7 args .normal) []) W:=by
 have hW':=hW;obtain⟨p,q,hA0,hV,rfl,hfz,hnd⟩:=hW;have hA:DataW.TrodAll enc Tryz.prog W 0 (fun _=>true) true Tryz.f7.params.toList args.toList ds p:=hA0;rw[Tryz.params7] at hA hval;obtain⟨v0,vs0,d0,ds0,p0,q0,hargs,rfl,rfl,h0,r0⟩:=trodAll_cons hA;obtain⟨v1,vs1,d1,ds1,p1,q1,rfl,rfl,rfl,h1,r1⟩:=trodAll_cons r0;obtain⟨rfl,rfl,rfl⟩:=trodAll_nil r1;obtain rfl:args=#[v0,v1]:=by cases args;simp_all
 obtain⟨rfl,rfl⟩:=trodVars_none hV;obtain⟨D,hD,hDw⟩:=zopen.dr_in (hval 0 27 v0 rfl rfl) h0;obtain⟨ba,bc,vs,rfl,hb⟩:=c1Z (hval 1 69 v1 rfl rfl) h1;clear hA hA0 r0 r1 hargs hval hfz hnd;have hfit:D.Fits 281474976710656:=by
  have hall:=List.all_eq_true.1 hB;have:=hDw reachBytes (fun n hn=>of_decide_eq_true (hall n (DataW.weights_mem_each (j:=0) (t:=27) rfl rfl n hn)));unfold reachBytes at this;exact⟨fun s hs=>by have:=this.tail s hs;omega,fun s hs r hr=>by have:=this.recs s hs r hr;omega,fun s hs=>by have:=this.other s hs;omega⟩
 simp only[List.append_nil] at hW';refine(b4M v0 D ba bc vs W hD hfit hS (zpost.laid_of hL) (zpost.laidP_of hL) hb).mono fun v W'⟨he,hE⟩=>?_;subst he;refine zpost.post_of_old (pa:=p0++p1) (pv:=[]) hW' (fun _ _ _=>trodAll_cons_mk (shut_bool Tryz.underlying4 _) trodAll_mk0) (fun sp hsp=>?_) (fun _ _=>rfl) hE;have hlt:=hW'.lt;have t0:DataW.Trod enc Tryz.prog W' 0 sp true 27 v0 d0 p0:=Go.WideElems.Trod_stays laidOut b4K (of_decide_eq_true (by kernel_rfl)) h0 (fun q hq=>zpost.same_of_old hE (hlt q (by simp[hq]))) (fun q hq=>hsp q (by simp[hq]));have t1:DataW.Trod enc Tryz.prog W' 0 sp true 69 (.slice ba vs.length bc) d1 p1:=Go.WideElems.Trod_stays laidOut b4L (of_decide_eq_true (by kernel_rfl)) h1 (fun q hq=>zpost.same_of_old hE (hlt q (by simp[hq]))) (fun q hq=>hsp q (by simp[hq]));have t3:=trodAll_cons_mk t0 (trodAll_cons_mk t1 trodAll_mk0);simp only[List.append_nil] at t3;rw[Tryz.params7];exact t3
abbrev c0f:Array Value:=#[.agg #[.slice none 0 0,.slice none 0 0,.int .u64 0,.slice none 0 0,.bool false,.bool false],.slice none 0 0]
theorem reads(os:Os){H:Type}(enc:TypeId×Value->H):∃places,DataW.whole enc Tryz.prog ((zpost.laidWorld os #[]).forCall (fun _ _=>0) ⟨#[],c0f,[]⟩).memory Tryz.f7.params.toList Rows.refusesSpec.vars false c0f.toList 8=some ([.agg [.nil,.nil,.lit (.int .u64 0),.nil,.lit (.bool false),.lit (.bool false)],.nil],[],places):=
 ⟨[],by kernel_rfl⟩
theorem lifted(os:Os)(started:os.Started)(H:Type)(enc:TypeId×Value->H)(F:Stop.Interp):
 ReturnsInLeavingWide {} Tryz.checked os 7 .any ((OpenSpec.ofChange Rows.refusesSpec).preRow enc Tryz.prog Tryz.f7 Rows.refusesRow.domain false Rows.refusesRow.laid) (((OpenSpec.ofChange Rows.refusesSpec).at F).post enc Tryz.prog Tryz.f7 false true false false):=by
 obtain⟨places,hx⟩:=reads os enc;refine Fs.returnsInLeaving_of_row (C:=Tryz.checked) (s:=OpenSpec.ofChange Rows.refusesSpec) zpost.own started Tryz.func7
  (witness_row_at (enc:=enc) (C:=Tryz.checked) false (zpost.laidWorld os #[]) c0f rfl (by kernel_rfl) (by kernel_rfl) (by kernel_rfl)
    (OpenSpec.preRow_of_cond 8 hx (by kernel_rfl) (fun k hk=>by cases hk) (by kernel_rfl) (zpost.laidWorld_met os _))) ?_
 intro W base args ds gs before hval hW hcond h2 h3 hL h4 h5;have hgs:gs=[]/\ds=ds++gs:=by
  obtain⟨p,q,_,hV,_⟩:=hW;obtain⟨rfl,_⟩:=trodVars_none hV;exact⟨rfl,(List.append_nil _).symm⟩
 obtain⟨rfl,-⟩:=hgs;rw[List.append_nil] at h3;exact run H enc W base args ds [] before hval hW hL h3 h4
theorem j1:(Rows.refusesRow.inPlace==Tryz.prog.inPlace 7)=true:=by kernel_rfl
theorem j2:(Rows.refusesRow.unfollowed==Tryz.prog.unfollowed 7)=true:=by kernel_rfl
theorem j3:(Rows.refusesRow.recurses==Tryz.prog.recurses 7)=true:=by kernel_rfl
theorem j4:(Rows.refusesRow.named==Tryz.prog.varsNamed 7)=true:=by kernel_rfl
theorem j5:Tryz.prog.mayEnter=true:=by kernel_rfl
theorem j6:laidOutB Tryz.prog=true:=by kernel_rfl
theorem j7:mapsRowed Tryz.prog=true:=by kernel_rfl
theorem j8:Rows.refusesRow.wf (OpenSpec.ofChange Rows.refusesSpec)=true:=by kernel_rfl
theorem closed:joinedFacts Tryz.prog 7 Tryz.f7 Rows.refusesSpec Rows.refusesRow=true:=by
 unfold joinedFacts;simp only[Bool.and_eq_true];repeat' apply And.intro
 all_goals first|(with_reducible exact j1)|(with_reducible exact j2)|(with_reducible exact j3)|(with_reducible exact j4)|(with_reducible exact j5)|(with_reducible exact j6)|(with_reducible exact j7)|(with_reducible exact j8)|kernel_rfl
theorem proved:Rows.RefusesSaid:=
 OpenClaim.holds_of_wide_leaving 7 Tryz.f7 rfl rfl rfl rfl rfl rfl rfl ⟨rfl,rfl,rfl,rfl,rfl⟩ rfl rfl rfl rfl rfl (by kernel_rfl) Tryz.func7 closed
  (of_decide_eq_true (by kernel_rfl)) (by unfold Func.isWrapper;first|(rw[if_pos (by decide +kernel)];kernel_rfl)|(rw[if_neg (by decide +kernel)];exact⟨rfl,rfl⟩))
  (fun os started H enc _=>by rw[OpenClaim.pre_eq_preRow];exact lifted os started H enc (fun _ _ _=>default))
theorem plain(f:FuncId)(fn:Func)(hf:Tryz.pinned.checked.prog.funcNamed "keydir/keydirlaw.Refuses" = some f)(hfn:Tryz.pinned.checked.prog.funcs[f]?=some fn):
 true=Tryz.pinned.checked.prog.looks []/\∀(j:Nat)t,fn.params[j]?=some t->Tryz.pinned.checked.prog.wantsStandIn t=false:=by
 obtain rfl:f=7:=Option.some.inj ((show Tryz.prog.funcNamed "keydir/keydirlaw.Refuses" = some 7 by kernel_rfl).symm.trans hf) |>.symm;obtain rfl:fn=Tryz.f7:=(Option.some.inj (Tryz.func7.symm.trans hfn)).symm;refine⟨by kernel_rfl,fun j t ht=>?_⟩;rw[Tryz.params7] at ht;have hm:t=27\/t=69:=by simpa using Array.mem_of_getElem? ht
 rcases hm with rfl|rfl
 ·exact(show Tryz.prog.wantsStandIn 27=false by kernel_rfl)
 ·exact(show Tryz.prog.wantsStandIn 69=false by kernel_rfl)
theorem card:Rows.RefusesCardSaid:=
 zpost.card_goes _ _ _ proved (by kernel_rfl) refuses_row_tie rfl ⟨rfl,rfl⟩ (by kernel_rfl) rfl plain (by kernel_rfl)
#print axioms card
end
end Go.Proofs.YtgpbhjjajpbeeaaGreatDoor.refuses
