/- A part of what the last file proves. -/
import Derived.Test.YtgpbhjjajpbeeaaGreatDoorK36
set_option linter.all false
namespace Go.Proofs.YtgpbhjjajpbeeaaGreatDoor.counts
section
open Go.ChangeShapes Go.WideShapes Go.ChangeAt Go.RowKit Go.Joins Go.Lib Pl
theorem laidOut:laidOutB Tryz.prog=true:=by kernel_rfl
theorem b3y:Tryz.prog.readableRec 27=true:=by kernel_rfl
abbrev laid:List (String×DataW Unit):=Rows.countsRow.laid
theorem c1l{W:World}(h:laidMetH Tryz.prog laid W):Laid W:=by
 have h':laidMet Tryz.prog (laid.filter fun x=>x.2.handleName?.isNone) W/\handlesMet Tryz.prog [("errors.errorType",Rows.laid_errors_errorType)] W:=h;obtain⟨name,u,ty,e1,e2,e3,e4,e5⟩:=h'.2 _ (List.mem_singleton.2 rfl);have en:name=[101,114,114,111,114]:=(Option.some.inj e1).symm;subst en;obtain rfl:=Option.some.inj (zpost.rt.symm.trans e2);have hm:ty∈(List.range 395).filter fun t=>Tryz.prog.rowNamed t [101,114,114,111,114]:=List.mem_filter.2 ⟨List.mem_range.2 (by rw[<-zpost.size];exact e3),e4⟩;rw[zpost.oneRow] at hm;obtain rfl:=List.mem_singleton.1 hm;rw[zpost.handle] at e5;have:=World.var?_cell zpost.et e5 0;unfold Laid;simpa using this
theorem b8P{W:World}(h:laidMetH Tryz.prog laid W):a0G W:=by
 have h':laidMet Tryz.prog [("math/bits.deBruijn32tab",Rows.laid_math_bits_deBruijn32tab),("math/bits.deBruijn64tab",Rows.laid_math_bits_deBruijn64tab),("internal/strconv.uint64pow10",Rows.laid_internal_strconv_uint64pow10)] W:=
  (show laidMet Tryz.prog (laid.filter fun x=>x.2.handleName?.isNone) W/\handlesMet Tryz.prog [("errors.errorType",Rows.laid_errors_errorType)] W from h).1
 obtain⟨ps,⟨_,_,_,_,_,_,_,_,_,_,⟨_,_,_,_,_,_,_,_,_,_,⟨g',t',cs,fuel,p,q,hg',ht',hvar,hd,_,_⟩,_⟩,_⟩,_⟩:=h';obtain rfl:=Option.some.inj (zpost.g10.symm.trans hg');obtain rfl:=Option.some.inj (zpost.ty10.symm.trans ht');unfold a0G TabIs;have hd':DataW.trod (fun _=>()) Tryz.prog W 0 (fun _=>true) false fuel 353 cs.toList=some (tabData .u64 pow10Tab,p):=hd;rw[hvar,<-cells_of_tab Tryz.underlying353 Tryz.underlying24 (by kernel_rfl) (by kernel_rfl) hd']
theorem a81(os:Os)(args:Array Value):laidMetH Tryz.prog laid ((zpost.laidWorld os #[]).forCall (fun _ _=>0) ⟨#[],args,[]⟩).memory:=
 laidMetH_of_parts (laidMet_of_run3 8 (by kernel_rfl) (by kernel_rfl) (by kernel_rfl)) (by kernel_rfl)
set_option maxRecDepth 100000 in
theorem run(H:Type)(enc:TypeId×Value->H)(W:World)(base:Nat)(args:Array Value)(ds gs:List (DataW H))(before:List MemPlace)
 (hval:∀(j:Nat)t v,Tryz.f4.params[j]?=some t->args[j]?=some v->Value.okWide Tryz.prog W .any base t v)
 (hW:DataW.Whole enc Tryz.prog Tryz.f4.params.toList Rows.countsSpec.vars false W args.toList ds gs before)(hL:laidMetH Tryz.prog Rows.countsRow.laid W)
 (hB:(DataW.weightsEach Tryz.prog [27,3,3] ds).all (· ≤ reachBytes)=true)(hS:W.ShapedOpen Tryz.prog):
 Fs.So Tryz.prog (fun v W'=>Rows.countsSpec.post enc Tryz.prog Tryz.f4 false true false false W args v W') (Go.Conc.G (Frame.enter Tryz.prog 4 args .normal) []) W:=by
 have hW':=hW;obtain⟨p,q,hA0,hV,rfl,hfz,hnd⟩:=hW;have hA:DataW.TrodAll enc Tryz.prog W 0 (fun _=>true) true Tryz.f4.params.toList args.toList ds p:=hA0;rw[Tryz.params4] at hA hval;obtain⟨v0,vs0,d0,ds0,p0,q0,hargs,rfl,rfl,h0,r0⟩:=trodAll_cons hA;obtain⟨v1,vs1,d1,ds1,p1,q1,rfl,rfl,rfl,h1,r1⟩:=trodAll_cons r0;obtain⟨v2,vs2,d2,ds2,p2,q2,rfl,rfl,rfl,h2,r2⟩:=trodAll_cons r1;obtain⟨rfl,rfl,rfl⟩:=trodAll_nil r2;obtain rfl:args=#[v0,v1,v2]:=by cases args;simp_all
 obtain⟨rfl,rfl⟩:=trodVars_none hV;obtain⟨D,hD,hDw⟩:=zopen.dr_in (hval 0 27 v0 rfl rfl) h0;obtain⟨a,rfl,rfl,rfl,wa⟩:=open_int Tryz.underlying3 (hval 1 3 v1 rfl rfl) h1;obtain⟨b,rfl,rfl,rfl,wb⟩:=open_int Tryz.underlying3 (hval 2 3 v2 rfl rfl) h2;clear hA hA0 h1 h2 r0 r1 r2 hargs hval hfz hnd;have hfit:D.Fits 281474976710656:=by
  have hall:=List.all_eq_true.1 hB;have:=hDw reachBytes (fun n hn=>of_decide_eq_true (hall n (DataW.weights_mem_each (j:=0) (t:=27) rfl rfl n hn)));unfold reachBytes at this;exact⟨fun s hs=>by have:=this.tail s hs;omega,fun s hs r hr=>by have:=this.recs s hs r hr;omega,fun s hs=>by have:=this.other s hs;omega⟩
 simp only[List.append_nil,List.nil_append] at hW';refine(b6d v0 D a b W hD hfit hS (c1l hL) (b8P hL)).mono fun v W'⟨he,hE⟩=>?_;subst he;refine zpost.post_of_old (pa:=p0) (pv:=[]) hW' (fun _ _ _=>trodAll_cons_mk (shut_bool Tryz.underlying4 _) trodAll_mk0) (fun sp hsp=>?_) (fun _ _=>rfl) hE;have hlt:=hW'.lt;have t0:DataW.Trod enc Tryz.prog W' 0 sp true 27 v0 d0 p0:=Go.WideElems.Trod_stays laidOut b3y (of_decide_eq_true (by kernel_rfl)) h0 (fun q hq=>zpost.same_of_old hE (hlt q hq)) hsp;have t1:DataW.Trod enc Tryz.prog W' 0 sp true 3 (.int .i64 a) (.lit (.int .i64 a)) []:=shut_int Tryz.underlying3 wa;have t2:DataW.Trod enc Tryz.prog W' 0 sp true 3 (.int .i64 b) (.lit (.int .i64 b)) []:=shut_int Tryz.underlying3 wb;have t3:=trodAll_cons_mk t0 (trodAll_cons_mk t1 (trodAll_cons_mk t2 trodAll_mk0));simp only[List.append_nil,List.nil_append] at t3;rw[Tryz.params4];exact t3
abbrev b8Q:Array Value:=#[.agg #[.slice none 0 0,.slice none 0 0,.int .u64 0,.slice none 0 0,.bool false,.bool false],.int .i64 0,.int .i64 0]
theorem reads(os:Os){H:Type}(enc:TypeId×Value->H):∃places,DataW.whole enc Tryz.prog ((zpost.laidWorld os #[]).forCall (fun _ _=>0) ⟨#[],b8Q,[]⟩).memory Tryz.f4.params.toList Rows.countsSpec.vars false b8Q.toList 8=some ([.agg [.nil,.nil,.lit (.int .u64 0),.nil,.lit (.bool false),.lit (.bool false)],.lit (.int .i64 0),.lit (.int .i64 0)],[],places):=
 ⟨[],by kernel_rfl⟩
set_option maxRecDepth 100000 in
theorem lifted(os:Os)(started:os.Started)(H:Type)(enc:TypeId×Value->H)(F:Stop.Interp):
 ReturnsInLeavingWide {} Tryz.checked os 4 .any ((OpenSpec.ofChange Rows.countsSpec).preRow enc Tryz.prog Tryz.f4 Rows.countsRow.domain false Rows.countsRow.laid) (((OpenSpec.ofChange Rows.countsSpec).at F).post enc Tryz.prog Tryz.f4 false true false false):=by
 obtain⟨places,hx⟩:=reads os enc;refine Fs.returnsInLeaving_of_row (C:=Tryz.checked) (s:=OpenSpec.ofChange Rows.countsSpec) zpost.own started Tryz.func4
  (witness_row_at (enc:=enc) (C:=Tryz.checked) false (zpost.laidWorld os #[]) b8Q rfl (by kernel_rfl) (by kernel_rfl) (by kernel_rfl)
    (OpenSpec.preRow_of_cond 8 hx (by kernel_rfl) (fun k hk=>by cases hk) (by kernel_rfl) (a81 os _))) ?_
 intro W base args ds gs before hval hW hcond h2 h3 hL h4 h5;have hgs:gs=[]/\ds=ds++gs:=by
  obtain⟨p,q,_,hV,_⟩:=hW;obtain⟨rfl,_⟩:=trodVars_none hV;exact⟨rfl,(List.append_nil _).symm⟩
 obtain⟨rfl,-⟩:=hgs;rw[List.append_nil] at h3;exact run H enc W base args ds [] before hval hW hL h3 h4
end
end Go.Proofs.YtgpbhjjajpbeeaaGreatDoor.counts
