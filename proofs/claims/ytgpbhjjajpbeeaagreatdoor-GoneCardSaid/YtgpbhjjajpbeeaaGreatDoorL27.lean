/-
  Gone: for any directory (built by the law out of any rows of records) and any bits, the law 'Gone' of the given program answers as its card says, whatever the schedule of its goroutines.
  Conditions: none but the card's own.
-/
import Derived.Test.YtgpbhjjajpbeeaaGreatDoorL26
import Derived.Conc.LeavingOf
set_option linter.all false
set_option maxRecDepth 100000
namespace Go.Fs
section
open Go.Conc
open Zn (Gr tp tp_self)
open To (To ToB Ctx Shn)
set_option linter.unusedSectionVars false
variable{P:Program}{Post:Value->World->Prop}
abbrev lo0:To.Lo:=⟨0⟩
def Fin(P:Program)(Post:Value->World->Prop)(g:Goroutine)(w:World)(t:Trace):Prop:=
 ∃M last o w' t',runNT P (M+1) (solo g w) t=(.ended o w',t')/\runN P M (solo g w)=.next last/\step P last=.ended o w'/\Conc.Good P Post last o w' t'
def So(P:Program)(Post:Value->World->Prop)(g:Goroutine)(w:World):Prop:=∀t,@Ctx lo0 P (fun _=>False) #[g] t (fun _=>0) w.heap.size->Fin P Post g w t
theorem So.mono{Post':Value->World->Prop}{g:Goroutine}{w:World}(h:So P Post g w)(hp:∀v w',Post v w'->Post' v w'):So P Post' g w:=fun t hc=>by
 obtain⟨M,last,o,w',t',h1,h2,h3,h4⟩:=h t hc;exact⟨M,last,o,w',t',h1,h2,h3,h4.mono fun v=>hp v w'⟩
theorem So.fin{g:Goroutine}{w:World}(h:So P Post g w):Fin P Post g w #[]:=h #[] (@Nm.ctx_nil lo0 P g _ (Nat.zero_le _))
theorem Fin.of_run{N:Nat}{g g':Goroutine}{w w':World}{t t':Trace}(h:runNT P N (solo g w) t=(.next (solo g' w'),t'))(k:Fin P Post g' w' t'):Fin P Post g w t:=by
 obtain⟨M,last,o,w2,t2,h1,h2,h3,h4⟩:=k;refine⟨N+M,last,o,w2,t2,?_,?_,h3,h4⟩
 ·rw[show N+M+1=N+(M+1) by omega,runNT_add,h];exact h1
 ·have e:runN P N (solo g w)=.next (solo g' w'):=by rw[<-runNT_fst P N _ t,h]
  rw[runN_add,e];exact h2
theorem So.move{g g':Goroutine}{w:World}(hrun:g.status=.running)(h:∀w,stepG P true g w=.go g' w)(k:So P Post g' w):So P Post g w:=by
 intro t hc;letI:=lo0
 have hst:=runT_solo_go (P:=P) (h w);have hc':=hc.own (g:=g) (a':=g') (w':=w) (es:=#[]) (fn:=g.frame.fn) (pos:=g.frame.place) (by simp) (Nat.le_refl _) (fun e he=>by simp at he);have e1:((#[g].map (woken P g g' w)).setIfInBounds 0 g')=#[g']:=by simp[Array.setIfInBounds]
 rw[e1] at hc';have:=k _ hc';refine Fin.of_run (N:=1) ?_ this;simp only[runNT];rw[stepT_solo hrun,hst]
theorem So.piece{D:Nm.Disc}(hP:Nm.PNC D P){c:Code}(hc:Nm.CodeN D c){a:Act}{w:World}(hd:a.defers=[])(hW:∀g,g<P.globals.size->Nm.IsRow w g){Q0:Exit->Act->World->Prop}(h:c.wp P Q0 a w)(hQ:∀e a' w',Q0 e a' w'->e=.normal\/e=.ret)(b:Frame)(hk:b.kind=.normal)(k:List Item)(cs:List Frame)
 (next:∀a' w',Q0 .normal a' w'->Nm.Rows w w'->So P Post (G (b.at a' k) cs) w')(back:∀a' w' todo,Q0 .ret a' w'->Nm.Rows w w'->So P Post (G {b.at a' todo with mode:=.returning} cs) w'):So P Post (G (b.at a (.code c::k)) cs) w:=by
 intro t hx;letI:=lo0
 let A:Frame->World->Prop:=fun F w'=>∃a',(F=b.at a' Zn.K0/\Q0 .normal a' w')\/(∃todo,F={b.at a' todo with mode:=.returning}/\Q0 .ret a' w')
 have hA:∀F w',A F w'->∀c,F.mode≠.panicking c:=by
  rintro F w' ⟨a',⟨rfl,_⟩|⟨todo,rfl,_⟩⟩ c h
  ·cases h
  ·cases h
 have hI:Nm.NInv D (b.at a [.code c]) []:=⟨⟨fun x hx=>by
  obtain rfl:x=.code c:=by simpa [Frame.at] using hx
  exact .code c hc,hd,.inl rfl,hk,rfl⟩,fun x hx=>by cases hx⟩
 have hw:Nm.Way P A (b.at a [.code c]) [] w:=by
  obtain⟨e,a',w',hq,har⟩:=h b Zn.K0 [Zn.c0];rcases hQ _ _ _ hq with rfl|rfl
  ·obtain⟨n,hr⟩:=har;exact Nm.way_of_run hA hP n _ [] w hW hI ⟨_,hr,_,_,rfl,a',.inl ⟨rfl,hq⟩⟩
  ·obtain⟨todo,n,hr⟩:=har;exact Nm.way_of_run hA hP n _ [] w hW hI ⟨_,hr,_,_,rfl,a',.inr ⟨todo,rfl,hq⟩⟩
 obtain⟨N,F,w',t',⟨a',ha⟩,h1,h2,h3⟩:=hw.runs k cs t hx;rcases ha with⟨e,hq⟩|⟨todo,e,hq⟩
 ·obtain⟨f1,f2,f3,f4,f5,f6,f7⟩:=F;simp only[Zn.ext,Frame.at,Frame.mk.injEq] at e;obtain⟨rfl,rfl,e3,rfl,rfl,rfl,rfl⟩:=e;obtain rfl:=To.append_self e3;exact Fin.of_run h1 (next a' w' hq h3 t' h2)
 ·obtain⟨f1,f2,f3,f4,f5,f6,f7⟩:=F;simp only[Zn.ext,Frame.at,Frame.mk.injEq] at e;obtain⟨rfl,rfl,e3,rfl,rfl,rfl,rfl⟩:=e;exact Fin.of_run h1 (back a' w' (f3++k) hq h3 t' h2)
def b2N(P:Program)(Post:Value->World->Prop)(g:Goroutine)(w:World):Prop:=
 g.status=.running/\∃v,∀τ p,stepG P true g (tp w τ p)=.ended (.done v) (tp w τ p) #[]/\Post v (tp w τ p)
theorem So.to[To.Lo]{g:Goroutine}{w:World}{Sh:Nat->Prop}(hlo:To.Lo.n<=w.heap.size)(h:To P g w Sh fun g' w' _=>b2N P Post g' w'):So P Post g w:=by
 intro t hc;have hc':Ctx P Sh #[g] t (fun _=>0) w.heap.size:=Nm.ctx_more (Nm.ctx_of (@Nm.ctx_none lo0 _ _ _ _ _ hc) hlo) fun _ h=>h.elim;obtain⟨N,gs',w',sl',t',q',Sh',g',τ',p',h1,h2,h3,h4,v,h5⟩:=h w.tape w.drawn #[g] none t (fun _=>0) rfl hc';rw[tp_self] at h1;have hG:Goes P true AtRel (fun _ _ _=>False) (AtEnd P (Shn Sh') w'.heap.size Post) 0 g' (tp w' τ' p'):=by
  refine Goes.stop fun w₁ h₁=>?_;obtain⟨d,rfl⟩:=h₁;have:=h5 τ' d;exact⟨h4,v,#[],this.1,fun e he=>by simp at he,this.2⟩
 obtain⟨M,last,o,w2,t2,k1,k2,k3,k4⟩:=beside_ends (fun _ _ _ h=>h.elim) h2 h3.L h3.past hG (sl:=sl');refine⟨N+M,last,o,w2,t2,?_,?_,k3,k4⟩
 ·rw[show N+M+1=N+(M+1) by omega,runNT_add,solo_eq_crowd,h1];exact k1
 ·have e:runN P N (solo g w)=.next (crowd gs' (tp w' τ' p') sl'):=by rw[<-runNT_fst P N _ t,solo_eq_crowd,h1]
  rw[runN_add,e];exact k2
theorem ended_leave{b:Frame}{a:Act}{todo:List Item}{fn:Func}{v:Value}{w:World}(hn:b.kind=.normal)(hd:a.defers=[])(hf:P.funcs[b.fn]?=some fn)(hin:P.inits.idxOf? b.fn=none)
 (hr:ResultsC P fn a.tmps v)(hp:∀τ p,Post v (tp w τ p)):b2N P Post (G {b.at a todo with mode:=.returning} []) w:=by
 refine⟨rfl,v,fun τ p=>⟨?_,hp τ p⟩⟩;have h1:=(hr (tp w τ p)).1;have h2:=(hr (tp w τ p)).2;simp[G,stepG,unwind,doReturn,Frame.at,hn,hd,hf,h1,h2,hin,seen,GStep.after]
theorem So.ended{g:Goroutine}{w:World}(h:b2N P Post g w):So P Post g w:=@So.to P Post lo0 g w (fun _=>False) (Nat.zero_le _) (@To.To.done lo0 P g w (fun _=>False) _ h)
theorem to_body[To.Lo]{f:FuncId}{fn:Func}{c:Code}{a:Act}{w:World}{Sh:Nat->Prop}{b:Frame}(hb:b.fn=f)(hk:b.kind=.normal)(hf:P.funcs[f]?=some fn)(hin:P.inits.idxOf? f=none)
 (h:To.wpT P f c (To.bodyT P fn fun v w _=>∀τ p,Post v (tp w τ p)) a w Sh):To P (G (b.at a [.code c]) []) w Sh fun g' w' _=>b2N P Post g' w':=by
 refine h b [] [] _ hb hk ?_;intro e a' w' Sh' q
 cases e with
 | normal=>
  obtain⟨hd,v,hr,hp⟩:=q
  exact To.move rfl (fun _=>stepG_end) (To.done (ended_leave hk hd (by rw[hb];exact hf) (by rw[hb];exact hin) hr hp))
 | ret=>
  obtain⟨hd,v,hr,hp⟩:=q
  exact fun todo=>To.done (ended_leave hk hd (by rw[hb];exact hf) (by rw[hb];exact hin) hr hp)
 | exit id=>exact q.elim
 | goto l=>exact q.elim
 | panic ch=>exact q.elim
 | outgrown=>exact q.elim
section
variable{H:Type}{enc:TypeId×Value->H}
theorem returnsInLeaving_of_row{a:Assume}{C:Checked}{os:Os}{f:FuncId}{fn:Func}{s:OpenSpec}{F:Stop.Interp}{conds:List PathCond}{apart fresh handsOn again:Bool}{laid:List (String×DataW Unit)}
 (own:ownKnob C.prog.godebug=none)(started:os.Started)(hfn:C.prog.funcs[f]?=some fn)
 (witness:∃(w:World)(tape:Tape)(i:Input),w.os=os/\(w.forCall tape i).Shaped C.prog/\i.vars=[]/\Input.okWide C.prog (w.forCall tape i) .any w.heap.size f i/\
   s.preRow enc C.prog fn conds apart laid (w.forCall tape i).memory i.args/\a.holds C.prog (lone (Frame.enter C.prog f i.args .normal) [] (w.forCall tape i)))
 (runs:∀(W:World)(base:Nat)(args:Array Value)(ds gs:List (DataW H))(before:List MemPlace),
   (∀(j:Nat)t v,fn.params[j]?=some t->args[j]?=some v->Value.okWide C.prog W .any base t v)->
   DataW.Whole enc C.prog fn.params.toList s.vars apart W args.toList ds gs before->
   conds.all (PathCond.test C.prog ⟨fn.params.toList,ds,s.bare.plain.varTypes C.prog,gs⟩)=true->
   (∀k,s.cond=some k->k H (ds++gs)=true)->
   (DataW.weightsEach C.prog (fn.params.toList++s.bare.plain.varTypes C.prog) (ds++gs)).all (· ≤ reachBytes)=true->
   laidMetH C.prog laid W->
   W.ShapedOpen C.prog->
   a.holds C.prog (lone (Frame.enter C.prog f args .normal) [] W)->
   So C.prog (fun v W'=>(s.at F).post enc C.prog fn apart fresh handsOn again W args v W') (G (Frame.enter C.prog f args .normal) []) W):
 ReturnsInLeavingWide a C os f .any (s.preRow enc C.prog fn conds apart laid) ((s.at F).post enc C.prog fn apart fresh handsOn again):=by
 refine returnsInLeavingWide_of_good own started witness ?_;intro w tape i _ hsh _ hok hpre hholds;obtain⟨_,_,_,fn',hfn',_,_,_,_,hval⟩:=hok;have e:fn'=fn:=Option.some.inj (hfn'.symm.trans hfn);subst e;obtain⟨⟨hp,hl⟩,hz⟩:=hpre;obtain⟨ds,gs,before,hw,hc,hk⟩:=OpenSpec.pre_parts hp;have hw':=DataW.Whole.of_heap (w':=w.forCall tape i) (by rfl) hw;obtain⟨M,last,o,w',t',h1,h2,h3,h4⟩:=(runs (w.forCall tape i) w.heap.size i.args ds gs before hval hw' hc hk (hz.weights hw) (hl.of_heap (by rfl)) hsh hholds).fin;exact⟨M,last,o,w',t',h1,h2,h3,h4.mono fun v hp=>ChangeSpec.post_blind hp⟩
end
end
end Go.Fs
namespace Go.Proofs.YtgpbhjjajpbeeaaGreatDoor
section
open Go.ChangeShapes Go.WideShapes Go.ChangeAt Go.RowKit Go.Joins Go.Lib Pl
structure a95(W W':World):Prop where
 os:W'.os=W.os
 output:W'.output=W.output
 size:W.heap.size<=W'.heap.size
 block:∀b,b<W.heap.size->W'.heap[b]?=W.heap[b]?
theorem a95.of_ext{W W':World}(h:Ext W W'):a95 W W':=⟨h.os,h.output,h.size,fun b hb=>h.block b hb⟩
theorem a95.tp{W W':World}(h:a95 W W')(τ:Nat->Question->Nat)(p:Nat):a95 W (Zn.tp W' τ p):=⟨h.os,h.output,h.size,h.block⟩
namespace zpost
variable{H:Type}{enc:TypeId×Value->H}{P:Program}
theorem post_of_old{f:Func}{s:ChangeSpec}{apart fresh handsOn:Bool}{W W':World}{args:Array Value}{v:Value}{ds gs:List (DataW H)}{before pa pv:List MemPlace}
 (hW:DataW.Whole enc P f.params.toList s.vars apart W args.toList ds gs before)
 (hres:∀(b:Nat)(sp:Nat->Bool)(hd:Bool),DataW.TrodAll enc P W' b sp hd f.resultTypes.toList (v.resultList f.resultTypes.size) (s.fn H (ds++gs)).results [])
 (hargs:∀sp:Nat->Bool,(∀p∈before,sp p.block=true)->DataW.TrodAll enc P W' 0 sp true f.params.toList args.toList (s.fn H (ds++gs)).args pa)
 (hvars:∀sp:Nat->Bool,(∀p∈before,sp p.block=true)->DataW.TrodVars enc P W' sp s.vars (s.fn H (ds++gs)).vars pv)
 (hE:a95 W W'):s.post enc P f apart fresh handsOn false W args v W':=by
 have hold:∀p∈before,(fun b=>decide (b<W.heap.size)) p.block=true:=fun p hp=>by simpa using hW.lt p hp
 refine⟨ds,gs,before,[],pa,pv,hW,hres _ _ _,hargs _ hold,hvars _ hold,⟨hE.os,hE.output,fun i hi=>?_⟩,fun h=>by cases h⟩;rw[hE.block i hi];split<;>simp_all
theorem same_of_old{w w':World}(hE:a95 w w'){p:MemPlace}(h:p.block<w.heap.size):w.sameAt w' p:=by
 have:=hE.block p.block h
 cases p with
 | cell b off=>exact World.cell?_of_block this
 | map b=>exact this
end zpost
end
section
open Go.RowKit Go.Lib Go.Maps Dk
section
variable{w w':World}{F:Nat->Prop}{a m1 m2:Nat}{mv:Value}{gs:List Nat}{dv:Nat->Value}{d:D}
theorem DiskRep.fresh(h:DiskRep w F a m1 m2 mv gs dv d):DiskRep (((((w.alloc (.map #[] 0)).setCell ⟨a,0,none⟩ (.map (some w.heap.size))).setCell ⟨a,2,none⟩ (.slice none 0 0)).setCell ⟨a,4,none⟩ (.int .i64 0)).setCell ⟨a,5,none⟩ (.int .i64 0))
 (fun b=>F b\/b=w.heap.size) a w.heap.size m2 (.slice none 0 0) [] dv {d with now:=[],moves:=[],wait:=0,bad:=0}:=by
 have hE:Ext w (w.alloc (.map #[] 0)):=(Ext.refl w).new _;have h1:=h.ext hE;have hb:=h1.box;have hO:=((((Off.refl a (w.alloc (.map #[] 0))).setCell 0 (.map (some w.heap.size))).setCell 2 (.slice none 0 0)).setCell 4 (.int .i64 0)).setCell 5 (.int .i64 0);have hlow:=h.low;have hba:a≠w.heap.size:=by have:=hlow a h.fa;omega
 exact{
  box:=by
   have:=(((hb.set 0 (.map (some w.heap.size))).set 2 (.slice none 0 0)).set 4 (.int .i64 0)).set 5 (.int .i64 0);simpa using this
  now:=(MapOf.made w).off hO (Ne.symm hba)
  safe:=h1.safe.off hO (h1.map_ne hb).2
  ne:=by have:=hlow m2 h.fm.2;omega
  rows:=⟨rfl,by simp⟩
  outer:=⟨rfl,Or.inl ⟨rfl,rfl⟩⟩
  outf:=fun g c e fr h=>by cases h
  flat:=fun x hx=>(h1.flat x hx).keep fun b hb'=>hO.block b (fun e=>G5 (h1.file x hx).2 hb (by decide) (e▸hb'))
  file:=fun x hx=>⟨(hO.block x (a3T (h1.file x hx).1 hb (by decide))).trans (h1.file x hx).1,Dep.row (h1.file x hx).2 _ fun b hb'=>hO.block b (fun e=>G5 (h1.file x hx).2 hb (by decide) (e▸hb'))⟩
  apart:=h.apart
  fa:=.inl h.fa
  fm:=⟨.inr rfl,.inl h.fm.2⟩
  fg:=by simp
  fo:=by simp[Value.ownBlock]
  fx:=fun x hx=>⟨.inl (h.fx x hx).1,fun b hb'=>.inl ((h.fx x hx).2 b hb')⟩
  low:=fun b hb'=>by
   rw[hO.size];simp;rcases hb' with h'|h'
   ·have:=hlow b h';omega
   ·omega
  wf:=⟨by simp,h.wf.safe,by simp,h.wf.part,h.wf.ids⟩
  num:=⟨by simp,by simp,h.num.2.2⟩}
end
end
section
open Go.RowKit Go.Lib Go.Maps Dk Pl
theorem a0F.held{w:World}(h:a0F w):Held w (fun _=>False) a0F:=by
 cases hg:Program.globalNamed Tryz.prog "internal/strconv.uint64pow10" with
 | none=>unfold a0F Lib.TabIs World.var? at h;simp[hg] at h
 | some g=>
  have h':=h;unfold a0F Lib.TabIs World.var? at h';simp only[hg,Option.bind_some] at h';have hlt:g<w.heap.size:=by
   rcases Nat.lt_or_ge g w.heap.size with h1|h1
   ·exact h1
   ·rw[Array.getElem?_eq_none h1] at h';cases h'
  refine .of (S:=fun b=>b=g) (fun w' hw=>?_) fun b e=>by subst e;exact⟨hlt,id⟩
  unfold a0F Lib.TabIs World.var?;simp only[hg,Option.bind_some];rw[hw g rfl];exact h'
end
section
open Go.RowKit Go.Lib Go.Maps Dk Pl
open Go.Conc Go.Mw
open Zn (tp WPs VP Zf Le)
open Fs (So b2N)
instance payloadG:Go.ConcR.Payload:=⟨3⟩
def SmG(Z:Zn.Zone)(T:Array Value):Prop:=∀k,gX k=true->VP Z (T.getD k undef)
theorem c4y(v0 v1:Value)(n:Nat):∀k,2<=k->(#[v0,v1]++Array.replicate n undef).getD k undef=undef:=by
 intro k hk;rw[Array.getD_eq_getD_getElem?,Array.getElem?_append_right (by simpa using hk),Array.getElem?_replicate];split<;>rfl
section
def b2R(W:World)(v:Value)(W':World):Prop:=v=.bool true/\a95 W W'
theorem c2z(v:Value)(d:Dr)(ba:Option Addr)(n bc:Nat)(W:World)(h:b1z W v d)(hf:d.Fits 281474976710656)(hS:W.ShapedOpen Tryz.prog)(hL:Laid W)(hP:a0F W)
 (hb:0<n->∃ad u,ba=some ad/\W.cell? (ad.add 0)=some (.int .u64 u)/\(0<=u/\u<=18446744073709551615)):
 So Tryz.prog (b2R W) (G (Frame.enter Tryz.prog 3 #[v,.slice ba n bc] .normal) []) W:=by
 obtain⟨v0,v1,v3,rfl,hr0,hr1,hr3⟩:=id h;have hbody:Tryz.f3.body=some (U6 0):=by kernel_rfl
 have hnt:Tryz.f3.ntmps=154:=by kernel_rfl
 have hin:Tryz.prog.inits.idxOf? 3=none:=by kernel_rfl
 rw[enter_at _ Tryz.func3 hbody,hnt];have e3:(#[Value.agg #[v0,v1,.int .u64 d.gen,v3,.bool d.whole,.bool d.without],.slice ba n bc]:Array Value).size=2:=rfl;rw[e3];have hk0:=c4y (.agg #[v0,v1,.int .u64 d.gen,v3,.bool d.whole,.bool d.without]) (.slice ba n bc) (154 - 2);have hT0:(#[Value.agg #[v0,v1,.int .u64 d.gen,v3,.bool d.whole,.bool d.without],.slice ba n bc]++Array.replicate (154 - 2) undef).size=154:=by simp
 have g0:(#[Value.agg #[v0,v1,.int .u64 d.gen,v3,.bool d.whole,.bool d.without],.slice ba n bc]++Array.replicate (154 - 2) undef)[0]?=some (.agg #[v0,v1,.int .u64 d.gen,v3,.bool d.whole,.bool d.without]):=by rw[Array.getElem?_append_left (by simp)];rfl
 have g1:(#[Value.agg #[v0,v1,.int .u64 d.gen,v3,.bool d.whole,.bool d.without],.slice ba n bc]++Array.replicate (154 - 2) undef)[1]?=some (.slice ba n bc):=by rw[Array.getElem?_append_left (by simp)];rfl
 generalize #[Value.agg #[v0,v1,.int .u64 d.gen,v3,.bool d.whole,.bool d.without],.slice ba n bc]++Array.replicate (154 - 2) undef=T0 at hk0 hT0 g0 g1⊢;have hr:=a8Y hS;have step:∀(T:Array Value)(i:Nat)(v:Value),T.size=154->i<154->∃T',T.setIfInBounds i v=T'/\T'.size=154/\T'[i]?=some v/\∀k,k≠i->T'[k]?=T[k]?:=fun T i v hs hi=>
  ⟨_,rfl,by rw[Array.size_setIfInBounds,hs],a0o (by omega),fun k hk=>Array.getElem?_setIfInBounds_ne (Ne.symm hk)⟩
 rw[c5z];refine So.move rfl (fun _=>stepG_seq) ?_;refine So.piece pnc (Nm.codeB.sound (show Nm.codeB db (U0 0)=true by kernel_rfl)) rfl hr (c4i T0 v0 v1 _ v3 _ _ W hT0 g0) (fun e a' w' q=>by cases e<;>first|exact .inl rfl|exact q.elim) (base 3) rfl [.code (U6 1)] [] ?_ (fun a' w' todo q=>q.elim);rintro a1 w1 ⟨rfl,rfl⟩ hR1;have hE1:Ext W (W.alloc (.cells (Value.agg #[v0,v1,.int .u64 d.gen,v3,.bool d.whole,.bool d.without]).cells 27)):=(Ext.refl W).new _;have hb1:o7 (W.alloc (.cells (Value.agg #[v0,v1,.int .u64 d.gen,v3,.bool d.whole,.bool d.without]).cells 27)) W.heap.size 27 #[v0,v1,.int .u64 d.gen,v3,.bool d.whole,.bool d.without]:=o7.new _ _ rfl;generalize W.alloc (.cells (Value.agg #[v0,v1,.int .u64 d.gen,v3,.bool d.whole,.bool d.without]).cells 27)=w1 at hR1 hE1 hb1⊢;have hr1':∀g,g<Tryz.prog.globals.size->Nm.IsRow w1 g:=fun g hg=>hR1.2 g (hr g hg);obtain⟨T1a,e1a,s1a,g3a,k1a⟩:=step T0 2 (.pointer (some ⟨W.heap.size,0,none⟩)) hT0 (by decide);rw[e1a];obtain⟨T1,e1b,s1,g6,k1⟩:=step T1a 4 (.bool false) s1a (by decide);rw[e1b];have g3:T1[2]?=some (.pointer (some ⟨W.heap.size,0,none⟩)):=(k1 2 (by decide)).trans g3a;rw[c5A];refine So.move rfl (fun _=>stepG_seq) ?_;refine So.piece pnc (Nm.codeB.sound (show Nm.codeB db (U0 1)=true by kernel_rfl)) rfl hr1' (c4j T1 W.heap.size v0 v1 v3 d w1 s1 g3 hb1 (h.ext hE1) hf) (fun e a' w' q=>by cases e<;>first|exact .inl rfl|exact q.elim) (base 3) rfl [.code (U6 2)] [] ?_ (fun a' w' todo q=>q.elim);rintro a2 w2 ⟨bb,rfl,hsm,hE2⟩ hR2;have hr2:∀g,g<Tryz.prog.globals.size->Nm.IsRow w2 g:=fun g hg=>hR2.2 g (hr1' g hg);obtain⟨T2a,e2a,s2a,-,k2a⟩:=step T1 25 (.agg #[v0,v1,.int .u64 d.gen,v3,.bool d.whole,.bool d.without]) s1 (by decide);rw[e2a];obtain⟨T2b,e2b,s2b,g26,k2b⟩:=step T2a 26 (.bool bb) s2a (by decide);rw[e2b];obtain⟨T2,e2c,s2,g7,k2c⟩:=step T2b 5 (.bool bb) s2b (by decide);rw[e2c];have hE02:=hE1.trans hE2;have kk2:∀k,k≠2->k≠4->k≠5->k≠25->k≠26->T2[k]?=T0[k]?:=fun k h1 h2 h3 h4 h5=>(k2c k h3).trans ((k2b k h5).trans ((k2a k h4).trans ((k1 k h2).trans (k1a k h1))));have g1':T2[1]?=some (.slice ba n bc):=(kk2 1 (by decide) (by decide) (by decide) (by decide) (by decide)).trans g1;rw[c5B];refine So.move rfl (fun _=>stepG_seq) ?_;refine So.piece pnc (Nm.codeB.sound (show Nm.codeB db (U0 2)=true by kernel_rfl)) rfl hr2 (c4q T2 bb ba n bc w2 s2 g7 g1') (fun e a' w' q=>by cases e<;>first|exact .inl rfl|exact .inr rfl|exact q.elim) (base 3) rfl [.code (U6 3)] [] ?_ ?_;rotate_left
 ·rintro a' w' todo ⟨q1,q2,rfl⟩ -;refine So.ended (Fs.ended_leave rfl q1 Tryz.func3 hin (resultsC_tmp rfl a'.tmps) fun τ p=>?_);exact⟨b9t q2,(a95.of_ext hE02).tp τ p⟩
 rintro⟨T3,d3⟩ w3 ⟨hbb,hn3,rfl,hkp,rfl⟩ -;subst hbb;dsimp only at hkp;have s3:T3.size=154:=hkp.size.trans s2;have g3':T3[2]?=some (.pointer (some ⟨W.heap.size,0,none⟩)):=(hkp.keep 2 rfl).trans ((k2c 2 (by decide)).trans ((k2b 2 (by decide)).trans ((k2a 2 (by decide)).trans g3)));have hb3:o7 w3 W.heap.size 27 #[v0,v1,.int .u64 d.gen,v3,.bool d.whole,.bool d.without]:=(hE2.block _ hb1.lt).trans hb1;rw[c5C];refine So.move rfl (fun _=>stepG_seq) ?_;refine So.piece pnc (Nm.codeB.sound (show Nm.codeB db (U0 3)=true by kernel_rfl)) rfl hr2 (c4k T3 W.heap.size v0 v1 v3 d w3 s3 g3' hb3 (h.ext hE02) (hsm rfl) (hL.ext hE02)) (fun e a' w' q=>by cases e<;>first|exact .inl rfl|exact q.elim) (base 3) rfl [.code (U6 4)] [] ?_ (fun a' w' todo q=>q.elim);rintro a4 w4 ⟨a,F,D,rfl,hD,hsafe,hfit,hE4,hF⟩ hR4;obtain⟨T4a,e4a,s4a,-,k4a⟩:=step T3 34 (.agg #[v0,v1,.int .u64 d.gen,v3,.bool d.whole,.bool d.without]) s3 (by decide);rw[e4a];obtain⟨T4b,e4b,s4b,g35,k4b⟩:=step T4a 35 (y8 a) s4a (by decide);rw[e4b];obtain⟨T4,e4c,s4,g8,k4c⟩:=step T4b 6 (y8 a) s4b (by decide);rw[e4c];have hE04:=hE02.trans hE4;have g14:T4[1]?=some (.slice ba n bc):=(k4c 1 (by decide)).trans ((k4b 1 (by decide)).trans ((k4a 1 (by decide)).trans ((hkp.keep 1 rfl).trans g1')));obtain⟨m1,m2,mv,gs,dv,hrep⟩:=id hD;have h7W:7<W.heap.size:=by
  rcases Nat.lt_or_ge 7 W.heap.size with h|h
  ·exact h
  ·have hh:=a8F;unfold a6w at hh
   cases e:(begin Tryz.prog (fun _ _=>0) default).world.heap[7]? with
   | none=>rw[e] at hh;cases hh
   | some o0=>
    have hlt:7<(begin Tryz.prog (fun _ _=>0) default).world.heap.size:=by
     rcases Nat.lt_or_ge 7 (begin Tryz.prog (fun _ _=>0) default).world.heap.size with h|h
     ·exact h
     ·rw[Array.getElem?_eq_none h] at e;cases e
    obtain⟨o1,o2,q1,-⟩:=hS.2 7 (by rw[globals_size];exact Nat.le_refl _) hlt;rw[Array.getElem?_eq_none h] at q1;cases q1
 have hbase:∀b o,b<=7->w4.heap[b]?=some o->Zn.ObjP zone o:=fun b o hb ho=>b6S hS hL b o hb (by rw[<-hE04.block b (by omega)];exact ho);have h74:7<w4.heap.size:=Nat.lt_of_lt_of_le h7W hE04.size;have hW4:=hrep.wps hbase h74;have hva:=hrep.vp;have hF7:∀b,F b->7<b:=fun b hb=>by have:=hF b hb;have:=hE02.size;omega
 letI:To.Lo:=⟨w4.heap.size⟩
 have hsm4:SmG (Zf zone (Shun a m1 m2 mv gs dv D.ids w4.heap.size) w4.heap.size) T4:=by
  intro k hk;have gx:∀j,gX j=false->k≠j:=fun j hj e=>by subst e;rw[hj] at hk;cases hk
  have n2:=gx 2 rfl;have n25:=gx 25 rfl;have n34:=gx 34 rfl;have nch:ch2 k=false:=by
   cases hc:ch2 k with
   | false=>rfl
   | true=>
    exfalso;unfold ch2 at hc;simp at hc;rcases hc with((((((rfl|rfl)|rfl)|rfl)|rfl)|rfl)|rfl)<;>cases hk
  show VP _ (T4.getD k undef);rw[Array.getD_eq_getD_getElem?];by_cases e6:k=6
  ·subst e6;rw[g8];exact hva
  rw[k4c k e6];by_cases e35:k=35
  ·subst e35;rw[g35];exact hva
  rw[k4b k e35,k4a k n34,hkp.keep k nch];by_cases e5:k=5
  ·subst e5;rw[g7];exact .bool _
  rw[k2c k e5];by_cases e26:k=26
  ·subst e26;rw[g26];exact .bool _
  rw[k2b k e26,k2a k n25];by_cases e4:k=4
  ·subst e4;rw[g6];exact .bool _
  rw[k1 k e4,k1a k n2];have n0:=gx 0 rfl;have n1:=gx 1 rfl
  have h2:2<=k:=match k,n0,n1 with
   | 0,h,_=>absurd rfl h
   | 1,_,h=>absurd rfl h
   | k+2,_,_=>Nat.le_add_left 2 k
  rw[<-Array.getD_eq_getD_getElem?,hk0 k h2];exact Zn.vp_undef
 have hI:To.Iv zone (Shun a m1 m2 mv gs dv D.ids w4.heap.size) (fun k=>gX k=true) ⟨T4,[]⟩ w4:=⟨hsm4,fun d hd=>(by cases hd),hW4⟩;refine So.to (Sh:=Shun a m1 m2 mv gs dv D.ids w4.heap.size) (Nat.le_refl _) (Fs.to_body (f:=3) rfl rfl Tryz.func3 hin ?_);have hcb:=b9K (Sh:=Shun a m1 m2 mv gs dv D.ids w4.heap.size) hI s4 g14 g8 (by rw[globals_size];omega) hD hsafe.calm hfit (hL.ext hE04) hF7 ((a0F.held hP).lift hE04 fun b hb=>by have:=hF b hb;have:=hE02.size;omega) (fun hn=>by
  obtain⟨ad,u,e1,e2,e3⟩:=hb hn;have eb:(ad.add 0).block=ad.block:=by unfold Addr.add;split<;>rfl
  have hlt:ad.block<W.heap.size:=by rw[<-eb];exact World.block_lt_of_cell? W _ e2
  refine⟨ad,u,e1,hE04.cell e2,e3,Nat.lt_of_lt_of_le hlt hE04.size,fun hf=>by have:=hF _ hf;have:=hE02.size;omega⟩)
 refine To.wpT_mono hcb fun e a' w' Sh' q=>?_;have hpost:∀v,(v=Value.bool true/\Chh F w4 w')->∀τ p,b2R W v (tp w' τ p):=fun v⟨hv,hC⟩τ p=>
  ⟨hv,(a95.mk (W:=W) (W':=w') (hC.os.trans hE04.os) (hC.output.trans hE04.output) (Nat.le_trans hE04.size hC.size) fun b hb=>(hC.block b (Nat.lt_of_lt_of_le hb hE04.size) fun hF'=>by have:=hF b hF';have:=hE02.size;omega).trans (hE04.block b hb)).tp τ p⟩
 cases e with
 | normal=>
  obtain⟨q1,v,q2,q3⟩:=q
  exact⟨q1,v,q2,hpost v q3⟩
 | ret=>
  obtain⟨q1,v,q2,q3⟩:=q
  exact⟨q1,v,q2,hpost v q3⟩
 | exit id=>exact q.elim
 | goto l=>exact q.elim
 | panic ch=>exact q.elim
 | outgrown=>exact q.elim
end
end
section
open Go.ChangeShapes Go.WideShapes Go.ChangeAt Go.RowKit Go.Joins Go.Lib Pl Go.Deep
namespace zopen
variable{H:Type}{enc:TypeId×Value->H}{W:World}
noncomputable abbrev Rd(enc:TypeId×Value->H)(W:World)(n:Nat)(t:TypeId)(cs:List Value):Option (DataW H×List MemPlace):=DataW.trod enc Tryz.prog W 0 (fun _=>true) true n t cs
def Wt(d:DataW H)(t:TypeId)(B:Nat):Prop:=∀n∈d.weights Tryz.prog t,n<=B
theorem a8x{n:Nat}{v:Value}{y:DataW H×List MemPlace}(h:Rd enc W n 25 [v]=some y):∃l:List UInt8,Bytes W v l/\∀B,Wt y.1 25 B->l.length<=B:=by
 rcases open_ints Tryz.underlying25 Tryz.underlying5 (by kernel_rfl) h with⟨hcs,hx⟩|⟨a,len,cap,zs,hcs,hb,hl,hm,hz,hx,hcell,hwz⟩
 ·simp only[List.cons.injEq,and_true] at hcs;subst hcs;exact⟨[],⟨none,0,rfl,Nat.le_refl _,⟨by omega,fun _=>rfl⟩,fun h=>absurd rfl h⟩,fun B _=>by simp⟩
 ·simp only[List.cons.injEq,and_true] at hcs;subst hcs;simp only[if_true] at hz;have hlen:(zs.take len).length=len:=by rw[List.length_take];omega
  have hmap:((zs.take len).map fun n=>UInt8.ofNat n.toNat).map byteV=(zs.take len).map (Value.int .u8):=by
   rw[List.map_map];apply List.map_congr_left;intro n hn;have:=hwz n (List.mem_of_mem_take hn);simp only[Lit.wf,Bool.and_eq_true,decide_eq_true_eq] at this;have h0:(0:Int)<=n:=this.1;have h1:n<=255:=this.2;simp only[Function.comp,byteV,Value.int.injEq,true_and];rw[UInt8.toNat_ofNat_of_lt' (by show n.toNat<256;omega)];omega
  refine⟨(zs.take len).map fun n=>UInt8.ofNat n.toNat,?_,fun B hB=>?_⟩
  ·unfold Bytes;rw[hmap,List.length_map,hlen];refine⟨_,_,rfl,hl,⟨hm,fun h=>by cases h⟩,fun _=>⟨a,rfl,fun i x hi=>?_⟩⟩;rw[List.getElem?_map,List.getElem?_take] at hi;split at hi
   ·have hil:i<zs.length:=by omega
    have hce:=hcell i hil;rw[List.getD_eq_getElem?_getD] at hce;rw[List.getElem?_eq_getElem hil] at hi hce;injection hi with hi;rw[<-hi];exact hce
   ·cases hi
  ·rw[List.length_map,hlen];subst hx;have e2:=hB (((lits (H:=H) .u8 (zs.take len)).length+(lits (H:=H) .u8 (zs.drop len)).length)*Tryz.prog.bytesOf 5) (by simp[DataW.weights,Tryz.underlying25]);have e3:(lits (H:=H) .u8 (zs.take len)).length=len:=by rw[<-hlen];simp[lits]
   rw[e3,show Tryz.prog.bytesOf 5=1 by kernel_rfl] at e2;omega
theorem b9q{e:TypeId}:∀{l:List (DataW H)}{d:DataW H},d∈l->∀n∈d.weights Tryz.prog e,n∈DataW.weightsAll Tryz.prog e l
 | x::l,d,hd,n,hn=>by
  rcases List.mem_cons.1 hd with rfl|hd
  ·exact List.mem_append.2 (.inl hn)
  ·exact List.mem_append.2 (.inr (b9q hd n hn))
theorem row_in{α:Type}[Inhabited α]{t e:TypeId}{sz:Nat}(ht:Tryz.prog.underlying t=some (.slice e))(hsz:Tryz.prog.cellsOf e=sz)(at_:World->Addr->α->Prop)(fits:α->Nat->Prop)
 (hel:∀(b:Addr)(n:Nat)(cs:List Value)(y:DataW H×List MemPlace),W.cells? 0 b sz=some cs->Rd enc W n e cs=some y->∃x,at_ W b x/\∀B,Wt y.1 e B->fits x B)
 {n:Nat}{v:Value}{y:DataW H×List MemPlace}(h:Rd enc W n t [v]=some y):∃l:List α,RowOf W v l sz at_/\∀B,Wt y.1 t B->∀x∈l,fits x B:=by
 rcases open_slice ht h with⟨hcs,hx⟩|⟨a,len,cap,m,k,D,Pl,hcs,hb,hl,hm,hmm,hy,hi⟩
 ·simp only[List.cons.injEq,and_true] at hcs;subst hcs;exact⟨[],⟨none,0,rfl,Nat.le_refl _,by omega,fun i x hx=>by cases hx⟩,fun B _ x hx=>by cases hx⟩
 ·simp only[List.cons.injEq,and_true] at hcs;subst hcs;simp only[if_true] at hmm;rw[hsz] at hi;obtain⟨f,hf⟩:=choose_lt (p:=fun i x=>at_ W (a.add (i*sz)) x/\∀B,Wt (D i) e B->fits x B) (fun i hil=>by
   obtain⟨cs,h1,h2⟩:=hi i hil;exact hel _ _ _ _ h1 h2)
  have hml:maxLen<=9223372036854775807:=by unfold maxLen;omega
  refine⟨(List.range len).map f,⟨some a,cap,by simp,by simpa using hl,by omega,fun i x hx=>?_⟩,fun B hB x hx=>?_⟩
  ·rw[List.getElem?_map] at hx;obtain⟨j,hj,rfl⟩:=Option.map_eq_some_iff.1 hx;rw[List.getElem?_range] at hj
   ·injection hj with hj;subst hj;exact⟨a,rfl,(hf i (by
     have:i<len:=by
      rcases Nat.lt_or_ge i len with h|h
      ·exact h
      ·rw[List.getElem?_eq_none (by simpa using h)] at hx;cases hx
     omega)).1⟩
   ·rcases Nat.lt_or_ge i len with h|h
    ·exact h
    ·rw[List.getElem?_eq_none (by simpa using h)] at hx;cases hx
  ·obtain⟨i,hil,rfl⟩:=List.mem_map.1 hx;have hil':i<len:=List.mem_range.1 hil;refine(hf i (by omega)).2 B fun n hn=>hB n ?_;subst hy;have:n∈DataW.weightsAll Tryz.prog e ((List.range len).map D):=b9q (List.mem_map.2 ⟨i,hil,rfl⟩) n hn;unfold DataW.weights;rw[ht];exact List.mem_cons.2 (.inr (List.mem_append.2 (.inl this)))
theorem c5l{cs:List Value}(h:cs.length=3):∃c0 c1 c2,cs=[c0,c1,c2]:=by
 match cs,h with
 | [c0,c1,c2],_=>exact⟨c0,c1,c2,rfl⟩
theorem list4{cs:List Value}(h:cs.length=4):∃c0 c1 c2 c3,cs=[c0,c1,c2,c3]:=by
 match cs,h with
 | [c0,c1,c2,c3],_=>exact⟨c0,c1,c2,c3,rfl⟩
theorem c5m{cs:List Value}(h:cs.length=5):∃c0 c1 c2 c3 c4,cs=[c0,c1,c2,c3,c4]:=by
 match cs,h with
 | [c0,c1,c2,c3,c4],_=>exact⟨c0,c1,c2,c3,c4,rfl⟩
theorem c5n{cs:List Value}(h:cs.length=6):∃c0 c1 c2 c3 c4 c5,cs=[c0,c1,c2,c3,c4,c5]:=by
 match cs,h with
 | [c0,c1,c2,c3,c4,c5],_=>exact⟨c0,c1,c2,c3,c4,c5,rfl⟩
theorem c4c:Tryz.prog.cellsOf 4=1:=by kernel_rfl
theorem c5o:Tryz.prog.cellsOf 3=1:=by kernel_rfl
theorem c5p:Tryz.prog.cellsOf 9=1:=by kernel_rfl
theorem c5q:Tryz.prog.cellsOf 22=1:=by kernel_rfl
theorem c5r:Tryz.prog.cellsOf 23=1:=by kernel_rfl
theorem c3H:Tryz.prog.cellsOf 24=1:=by kernel_rfl
theorem b9r:Tryz.prog.cellsOf 25=1:=by kernel_rfl
theorem c5s:Tryz.prog.cellsOf 92=1:=by kernel_rfl
theorem a01(b:Addr){n:Nat}(h:n≠0):b.add n=⟨b.block,b.off+n,none⟩:=by unfold Addr.add;rw[if_neg h]
theorem add_zero(b:Addr):b.add 0=b:=rfl
theorem c5t(b:Addr)(n:Nat)(cs:List Value)(y:DataW H×List MemPlace)(hc:W.cells? 0 b 4=some cs)(h:Rd enc W n 111 cs=some y):∃r,b1x W b r/\∀B,Wt y.1 111 B->r.key.size<=B/\r.val.size<=B:=by
 obtain⟨-,hl,hcell⟩:=World.cells?_some hc;obtain⟨c0,c1,c2,c3,rfl⟩:=list4 hl;obtain⟨y0,y1,y2,y3,k,rfl,-,h0,h1,h2,h3⟩:=trod_struct4 Tryz.underlying111 h;simp only[c3H,c5p,c4c,List.drop_succ_cons,List.drop_zero,List.take_succ_cons,List.take_zero] at h0 h1 h2 h3;obtain⟨a,e0,rfl,wa⟩:=DataW.trod_int Tryz.underlying24 h0;obtain⟨ky,e1,rfl,hk⟩:=DataW.trod_string Tryz.underlying9 h1;obtain⟨v,e2,rfl,hv⟩:=DataW.trod_string Tryz.underlying9 h2;obtain⟨d,e3,rfl⟩:=DataW.trod_bool Tryz.underlying4 h3;simp only[List.cons.injEq,and_true] at e0 e1 e2 e3;subst e0;subst e1;subst e2;subst e3;have wa0:0<=a:=by
  have:=wa;simp only[Lit.wf,Bool.and_eq_true,decide_eq_true_eq] at this;exact this.1
 obtain⟨seq,rfl⟩:=Int.eq_ofNat_of_zero_le wa0;refine⟨⟨seq,ky,v,d⟩,⟨hcell 0 (by omega),(a01 b (n:=1) (by omega))▸hcell 1 (by omega),(a01 b (n:=2) (by omega))▸hcell 2 (by omega),(a01 b (n:=3) (by omega))▸hcell 3 (by omega)⟩,fun B hB=>?_⟩;have m0:=hB ky.size (by simp[DataW.weights,DataW.weightsEach,Tryz.underlying111,I8]);have m1:=hB v.size (by simp[DataW.weights,DataW.weightsEach,Tryz.underlying111,I8]);exact⟨m0,m1⟩
instance:Inhabited Rc:=⟨⟨0,.empty,.empty,false⟩⟩
instance:Inhabited Sg:=⟨⟨0,[],[],false,false⟩⟩
instance:Inhabited Ot:=⟨⟨.empty,0,[]⟩⟩
theorem c5u(b:Addr)(n:Nat)(cs:List Value)(y:DataW H×List MemPlace)(hc:W.cells? 0 b 3=some cs)(h:Rd enc W n 113 cs=some y):∃r,b1y W b r/\∀B,Wt y.1 113 B->r.name.size<=B/\r.bytes.length<=B:=by
 obtain⟨-,hl,hcell⟩:=World.cells?_some hc;obtain⟨c0,c1,c2,rfl⟩:=c5l hl;obtain⟨y0,y1,y2,k,rfl,-,h0,h1,h2⟩:=trod_struct3 Tryz.underlying113 h;simp only[c5o,c5p,b9r,List.drop_succ_cons,List.drop_zero,List.take_succ_cons,List.take_zero] at h0 h1 h2;obtain⟨ky,e0,rfl,hk⟩:=DataW.trod_string Tryz.underlying9 h0;obtain⟨a,e1,rfl,wa⟩:=DataW.trod_int Tryz.underlying3 h1;obtain⟨l,hb,hw⟩:=a8x h2;simp only[List.cons.injEq,and_true] at e0 e1;subst e0;subst e1;refine⟨⟨ky,a,l⟩,⟨c2,hcell 0 (by omega),(a01 b (n:=1) (by omega))▸hcell 1 (by omega),(a01 b (n:=2) (by omega))▸hcell 2 (by omega),hb⟩,fun B hB=>⟨?_,?_⟩⟩
 ·exact hB ky.size (by simp[DataW.weights,DataW.weightsEach,Tryz.underlying113,I8])
 ·exact hw B fun n hn=>hB n (by
   unfold DataW.weights;rw[Tryz.underlying113];exact DataW.weights_mem_each (j:=2) (t:=25) rfl rfl n hn)
theorem b1u{t:TypeId}{f0 f1 f2 f3 f4:Field}{fuel:Nat}{cs:List Value}{x:DataW H×List MemPlace}(ht:Tryz.prog.underlying t=some (.struct #[f0,f1,f2,f3,f4]))(h:Rd enc W fuel t cs=some x):
 ∃y0 y1 y2 y3 y4 n,x.1=.agg [y0.1,y1.1,y2.1,y3.1,y4.1]/\Rd enc W n f0.type ((cs.drop f0.offset).take (Tryz.prog.cellsOf f0.type))=some y0/\
  Rd enc W n f1.type ((cs.drop f1.offset).take (Tryz.prog.cellsOf f1.type))=some y1/\Rd enc W n f2.type ((cs.drop f2.offset).take (Tryz.prog.cellsOf f2.type))=some y2/\
  Rd enc W n f3.type ((cs.drop f3.offset).take (Tryz.prog.cellsOf f3.type))=some y3/\Rd enc W n f4.type ((cs.drop f4.offset).take (Tryz.prog.cellsOf f4.type))=some y4:=by
 obtain⟨xs,n,_,rfl,hl,hlen,hf⟩:=DataW.trod_struct ht h
 match xs,hlen with
 | [y0,y1,y2,y3,y4],_=>exact⟨y0,y1,y2,y3,y4,n,by simp,by simpa using hf 0 f0 rfl,by simpa using hf 1 f1 rfl,by simpa using hf 2 f2 rfl,by simpa using hf 3 f3 rfl,by simpa using hf 4 f4 rfl⟩
theorem b1v{t:TypeId}{f0 f1 f2 f3 f4 f5:Field}{fuel:Nat}{cs:List Value}{x:DataW H×List MemPlace}(ht:Tryz.prog.underlying t=some (.struct #[f0,f1,f2,f3,f4,f5]))(h:Rd enc W fuel t cs=some x):
 ∃y0 y1 y2 y3 y4 y5 n,x.1=.agg [y0.1,y1.1,y2.1,y3.1,y4.1,y5.1]/\Rd enc W n f0.type ((cs.drop f0.offset).take (Tryz.prog.cellsOf f0.type))=some y0/\
  Rd enc W n f1.type ((cs.drop f1.offset).take (Tryz.prog.cellsOf f1.type))=some y1/\Rd enc W n f2.type ((cs.drop f2.offset).take (Tryz.prog.cellsOf f2.type))=some y2/\
  Rd enc W n f3.type ((cs.drop f3.offset).take (Tryz.prog.cellsOf f3.type))=some y3/\Rd enc W n f4.type ((cs.drop f4.offset).take (Tryz.prog.cellsOf f4.type))=some y4/\
  Rd enc W n f5.type ((cs.drop f5.offset).take (Tryz.prog.cellsOf f5.type))=some y5:=by
 obtain⟨xs,n,_,rfl,hl,hlen,hf⟩:=DataW.trod_struct ht h
 match xs,hlen with
 | [y0,y1,y2,y3,y4,y5],_=>exact⟨y0,y1,y2,y3,y4,y5,n,by simp,by simpa using hf 0 f0 rfl,by simpa using hf 1 f1 rfl,by simpa using hf 2 f2 rfl,by simpa using hf 3 f3 rfl,by simpa using hf 4 f4 rfl,by simpa using hf 5 f5 rfl⟩
theorem c5v(b:Addr)(n:Nat)(cs:List Value)(y:DataW H×List MemPlace)(hc:W.cells? 0 b 5=some cs)(h:Rd enc W n 94 cs=some y):
 ∃s,a9K W b s/\∀B,Wt y.1 94 B->s.tail.length<=B/\∀r∈s.recs,r.key.size<=B/\r.val.size<=B:=by
 obtain⟨-,hl,hcell⟩:=World.cells?_some hc;obtain⟨c0,c1,c2,c3,c4,rfl⟩:=c5m hl;obtain⟨y0,y1,y2,y3,y4,k,hy,h0,h1,h2,h3,h4⟩:=b1u Tryz.underlying94 h;simp only[c5o,c5s,b9r,c4c,List.drop_succ_cons,List.drop_zero,List.take_succ_cons,List.take_zero] at h0 h1 h2 h3 h4;obtain⟨a,e0,rfl,wa⟩:=DataW.trod_int Tryz.underlying3 h0;obtain⟨rs,hr,hrw⟩:=row_in (α:=Rc) (sz:=4) Tryz.underlying92 (by kernel_rfl) b1x (fun r B=>r.key.size<=B/\r.val.size<=B) c5t h1;obtain⟨l,hb,hw⟩:=a8x h2;obtain⟨d3,e3,rfl⟩:=DataW.trod_bool Tryz.underlying4 h3;obtain⟨d4,e4,rfl⟩:=DataW.trod_bool Tryz.underlying4 h4;simp only[List.cons.injEq,and_true] at e0 e3 e4;subst e0;subst e3;subst e4;refine⟨⟨a,rs,l,d3,d4⟩,⟨c1,c2,hcell 0 (by omega),(a01 b (n:=1) (by omega))▸hcell 1 (by omega),(a01 b (n:=2) (by omega))▸hcell 2 (by omega),(a01 b (n:=3) (by omega))▸hcell 3 (by omega),(a01 b (n:=4) (by omega))▸hcell 4 (by omega),hr,hb⟩,fun B hB=>?_⟩;unfold Wt at hB;rw[hy] at hB;have hm:∀j t d,([3,92,25,4,4]:List TypeId)[j]?=some t->([DataW.lit (.int .i64 a),y1.1,y2.1,.lit (.bool d3),.lit (.bool d4)]:List (DataW H))[j]?=some d->Wt d t B:=fun j t d e1 e2 n hn=>hB n (by
  unfold DataW.weights;rw[Tryz.underlying94];exact DataW.weights_mem_each e1 e2 n hn)
 exact⟨hw B (hm 2 25 _ rfl rfl),hrw B (hm 1 92 _ rfl rfl)⟩
theorem dr_in{base:Nat}{v:Value}{d:DataW H}{p:List MemPlace}(hval:Value.okWide Tryz.prog W .any base 27 v)(h:DataW.Trod enc Tryz.prog W 0 (fun _=>true) true 27 v d p):
 ∃D:Dr,b1z W v D/\∀B,Wt d 27 B->D.Fits B:=by
 obtain⟨cs,rfl,hsz⟩:=okWide_struct Tryz.underlying27 hval;obtain⟨n,h⟩:=h;have hl:cs.toList.length=6:=by
  have e:Tryz.prog.cellsOf 27=6:=by kernel_rfl
  rw[Array.length_toList,hsz];exact e
 obtain⟨c0,c1,c2,c3,c4,c5,hcs⟩:=c5n hl;obtain rfl:cs=#[c0,c1,c2,c3,c4,c5]:=by cases cs;simp_all
 obtain⟨y0,y1,y2,y3,y4,y5,k,hy,h0,h1,h2,h3,h4,h5⟩:=b1v Tryz.underlying27 h;simp only[Value.cells,c5q,c5r,c3H,b9r,c4c,List.drop_succ_cons,List.drop_zero,List.take_succ_cons,List.take_zero] at h0 h1 h2 h3 h4 h5;obtain⟨ss,hs,hsw⟩:=row_in (α:=Sg) (sz:=5) Tryz.underlying22 (by kernel_rfl) a9K (fun s B=>s.tail.length<=B/\∀r∈s.recs,r.key.size<=B/\r.val.size<=B) c5v h0;obtain⟨os,ho,how⟩:=row_in (α:=Ot) (sz:=3) Tryz.underlying23 (by kernel_rfl) b1y (fun r B=>r.name.size<=B/\r.bytes.length<=B) c5u h1;obtain⟨a,e2,rfl,wa⟩:=DataW.trod_int Tryz.underlying24 h2;obtain⟨l,hb,hw⟩:=a8x h3;obtain⟨d4,e4,rfl⟩:=DataW.trod_bool Tryz.underlying4 h4;obtain⟨d5,e5,rfl⟩:=DataW.trod_bool Tryz.underlying4 h5;simp only[List.cons.injEq,and_true] at e2 e4 e5;subst e2;subst e4;subst e5;have wa0:0<=a:=by
  have:=wa;simp only[Lit.wf,Bool.and_eq_true,decide_eq_true_eq] at this;exact this.1
 obtain⟨g,rfl⟩:=Int.eq_ofNat_of_zero_le wa0;refine⟨⟨ss,os,g,l,d4,d5⟩,⟨c0,c1,c3,rfl,hs,ho,hb⟩,fun B hB=>?_⟩;have hy':d=.agg [y0.1,y1.1,.lit (.int .u64 (g:Int)),y3.1,.lit (.bool d4),.lit (.bool d5)]:=hy;unfold Wt at hB;rw[hy'] at hB;have hm:∀j t d,([22,23,24,25,4,4]:List TypeId)[j]?=some t->([y0.1,y1.1,.lit (.int .u64 (g:Int)),y3.1,.lit (.bool d4),.lit (.bool d5)]:List (DataW H))[j]?=some d->Wt d t B:=fun j t d e1 e2 n hn=>hB n (by
  unfold DataW.weights;rw[Tryz.underlying27];exact DataW.weights_mem_each e1 e2 n hn)
 have q0:=hsw B (hm 0 22 _ rfl rfl);exact⟨fun s hs=>(q0 s hs).1,fun s hs=>(q0 s hs).2,how B (hm 1 23 _ rfl rfl)⟩
end zopen
end
end Go.Proofs.YtgpbhjjajpbeeaaGreatDoor
namespace Go.Proofs.YtgpbhjjajpbeeaaGreatDoor.gone
section
open Go.ChangeShapes Go.WideShapes Go.ChangeAt Go.RowKit Go.Joins Go.Lib Pl
theorem laidOut:laidOutB Tryz.prog=true:=by kernel_rfl
theorem b4g:Tryz.prog.readableRec 27=true:=by kernel_rfl
theorem b4h:Tryz.prog.readableRec 28=true:=by kernel_rfl
abbrev laid:List (String×DataW Unit):=Rows.goneRow.laid
theorem c2A{W:World}(h:laidMetH Tryz.prog laid W):Laid W:=by
 have h':laidMet Tryz.prog (laid.filter fun x=>x.2.handleName?.isNone) W/\handlesMet Tryz.prog [("errors.errorType",Rows.laid_errors_errorType)] W:=h;obtain⟨name,u,ty,e1,e2,e3,e4,e5⟩:=h'.2 _ (List.mem_singleton.2 rfl);have en:name=[101,114,114,111,114]:=(Option.some.inj e1).symm;subst en;obtain rfl:=Option.some.inj (zpost.rt.symm.trans e2);have hm:ty∈(List.range 395).filter fun t=>Tryz.prog.rowNamed t [101,114,114,111,114]:=List.mem_filter.2 ⟨List.mem_range.2 (by rw[<-zpost.size];exact e3),e4⟩;rw[zpost.oneRow] at hm;obtain rfl:=List.mem_singleton.1 hm;rw[zpost.handle] at e5;have:=World.var?_cell zpost.et e5 0;unfold Laid;simpa using this
theorem b9M{W:World}(h:laidMetH Tryz.prog laid W):a0F W:=by
 have h':laidMet Tryz.prog [("math/bits.deBruijn32tab",Rows.laid_math_bits_deBruijn32tab),("math/bits.deBruijn64tab",Rows.laid_math_bits_deBruijn64tab),("internal/strconv.uint64pow10",Rows.laid_internal_strconv_uint64pow10)] W:=
  (show laidMet Tryz.prog (laid.filter fun x=>x.2.handleName?.isNone) W/\handlesMet Tryz.prog [("errors.errorType",Rows.laid_errors_errorType)] W from h).1
 obtain⟨ps,⟨_,_,_,_,_,_,_,_,_,_,⟨_,_,_,_,_,_,_,_,_,_,⟨g',t',cs,fuel,p,q,hg',ht',hvar,hd,_,_⟩,_⟩,_⟩,_⟩:=h';obtain rfl:=Option.some.inj (zpost.g10.symm.trans hg');obtain rfl:=Option.some.inj (zpost.ty10.symm.trans ht');unfold a0F TabIs;have hd':DataW.trod (fun _=>()) Tryz.prog W 0 (fun _=>true) false fuel 353 cs.toList=some (tabData .u64 pow10Tab,p):=hd;rw[hvar,<-cells_of_tab Tryz.underlying353 Tryz.underlying24 (by kernel_rfl) (by kernel_rfl) hd']
theorem laidWorld_met(os:Os)(args:Array Value):laidMetH Tryz.prog laid ((zpost.laidWorld os #[]).forCall (fun _ _=>0) ⟨#[],args,[]⟩).memory:=
 laidMetH_of_parts (laidMet_of_run3 8 (by kernel_rfl) (by kernel_rfl) (by kernel_rfl)) (by kernel_rfl)
theorem c2B{H:Type}{enc:TypeId×Value->H}{W:World}{base:Nat}{v:Value}{d:DataW H}{p:List MemPlace}(hval:Value.okWide Tryz.prog W .any base 28 v)(h:DataW.Trod enc Tryz.prog W 0 (fun _=>true) true 28 v d p):
 ∃ba n bc,v=.slice ba n bc/\(0<n->∃ad u,ba=some ad/\W.cell? (ad.add 0)=some (.int .u64 u)/\(0<=u/\u<=18446744073709551615)):=by
 obtain⟨a0,len0,cap0,rfl⟩:=okWide_slice Tryz.underlying28 hval;obtain⟨fuel,hf⟩:=h;refine⟨a0,len0,cap0,rfl,fun hn=>?_⟩;rcases open_ints Tryz.underlying28 Tryz.underlying56 (by kernel_rfl) hf with⟨hcs,hx⟩|⟨a,len,cap,zs,hcs,hb,hl,hm,hz,hx,hcell,hwz⟩
 ·simp only[Value.cells,List.cons.injEq,and_true] at hcs;injection hcs with e1 e2 e3;omega
 ·simp only[Value.cells,List.cons.injEq,and_true] at hcs;injection hcs with e1 e2 e3;subst e1;subst e2;subst e3;simp only[if_true] at hz;have h0:0<zs.length:=by omega
  have hc:=hcell 0 h0;rw[List.getD_eq_getElem?_getD,List.getElem?_eq_getElem h0] at hc;have hw:=hwz zs[0] (List.getElem_mem h0);simp only[Lit.wf,Bool.and_eq_true,decide_eq_true_eq] at hw;exact⟨a,zs[0],rfl,hc,hw.1,hw.2⟩
theorem run(H:Type)(enc:TypeId×Value->H)(W:World)(base:Nat)(args:Array Value)(ds gs:List (DataW H))(before:List MemPlace)
 (hval:∀(j:Nat)t v,Tryz.f3.params[j]?=some t->args[j]?=some v->Value.okWide Tryz.prog W .any base t v)
 (hW:DataW.Whole enc Tryz.prog Tryz.f3.params.toList Rows.goneSpec.vars false W args.toList ds gs before)(hL:laidMetH Tryz.prog Rows.goneRow.laid W)
 (hB:(DataW.weightsEach Tryz.prog [27,28] ds).all (· ≤ reachBytes)=true)(hS:W.ShapedOpen Tryz.prog):
 Fs.So Tryz.prog (fun v W'=>Rows.goneSpec.post enc Tryz.prog Tryz.f3 false true false false W args v W') (Go.Conc.G (Frame.enter Tryz.prog 3 args .normal) []) W:=by
 have hW':=hW;obtain⟨p,q,hA0,hV,rfl,hfz,hnd⟩:=hW;have hA:DataW.TrodAll enc Tryz.prog W 0 (fun _=>true) true Tryz.f3.params.toList args.toList ds p:=hA0;rw[Tryz.params3] at hA hval;obtain⟨v0,vs0,d0,ds0,p0,q0,hargs,rfl,rfl,h0,r0⟩:=trodAll_cons hA;obtain⟨v1,vs1,d1,ds1,p1,q1,rfl,rfl,rfl,h1,r1⟩:=trodAll_cons r0;obtain⟨rfl,rfl,rfl⟩:=trodAll_nil r1;obtain rfl:args=#[v0,v1]:=by cases args;simp_all
 obtain⟨rfl,rfl⟩:=trodVars_none hV;obtain⟨D,hD,hDw⟩:=zopen.dr_in (hval 0 27 v0 rfl rfl) h0;obtain⟨ba,n,bc,rfl,hb⟩:=c2B (hval 1 28 v1 rfl rfl) h1;clear hA hA0 r0 r1 hargs hval hfz hnd;have hfit:D.Fits 281474976710656:=by
  have hall:=List.all_eq_true.1 hB;have:=hDw reachBytes (fun n hn=>of_decide_eq_true (hall n (DataW.weights_mem_each (j:=0) (t:=27) rfl rfl n hn)));unfold reachBytes at this;exact⟨fun s hs=>by have:=this.tail s hs;omega,fun s hs r hr=>by have:=this.recs s hs r hr;omega,fun s hs=>by have:=this.other s hs;omega⟩
 simp only[List.append_nil] at hW';refine(c2z v0 D ba n bc W hD hfit hS (c2A hL) (b9M hL) hb).mono fun v W'⟨he,hE⟩=>?_;subst he;refine zpost.post_of_old (pa:=p0++p1) (pv:=[]) hW' (fun _ _ _=>trodAll_cons_mk (shut_bool Tryz.underlying4 _) trodAll_mk0) (fun sp hsp=>?_) (fun _ _=>rfl) hE;have hlt:=hW'.lt;have t0:DataW.Trod enc Tryz.prog W' 0 sp true 27 v0 d0 p0:=Go.WideElems.Trod_stays laidOut b4g (of_decide_eq_true (by kernel_rfl)) h0 (fun q hq=>zpost.same_of_old hE (hlt q (by simp[hq]))) (fun q hq=>hsp q (by simp[hq]));have t1:DataW.Trod enc Tryz.prog W' 0 sp true 28 (.slice ba n bc) d1 p1:=Go.WideElems.Trod_stays laidOut b4h (of_decide_eq_true (by kernel_rfl)) h1 (fun q hq=>zpost.same_of_old hE (hlt q (by simp[hq]))) (fun q hq=>hsp q (by simp[hq]));have t3:=trodAll_cons_mk t0 (trodAll_cons_mk t1 trodAll_mk0);simp only[List.append_nil] at t3;rw[Tryz.params3];exact t3
abbrev b9N:Array Value:=#[.agg #[.slice none 0 0,.slice none 0 0,.int .u64 0,.slice none 0 0,.bool false,.bool false],.slice none 0 0]
theorem reads(os:Os){H:Type}(enc:TypeId×Value->H):∃places,DataW.whole enc Tryz.prog ((zpost.laidWorld os #[]).forCall (fun _ _=>0) ⟨#[],b9N,[]⟩).memory Tryz.f3.params.toList Rows.goneSpec.vars false b9N.toList 8=some ([.agg [.nil,.nil,.lit (.int .u64 0),.nil,.lit (.bool false),.lit (.bool false)],.nil],[],places):=
 ⟨[],by kernel_rfl⟩
theorem lifted(os:Os)(started:os.Started)(H:Type)(enc:TypeId×Value->H)(F:Stop.Interp):
 ReturnsInLeavingWide {} Tryz.checked os 3 .any ((OpenSpec.ofChange Rows.goneSpec).preRow enc Tryz.prog Tryz.f3 Rows.goneRow.domain false Rows.goneRow.laid) (((OpenSpec.ofChange Rows.goneSpec).at F).post enc Tryz.prog Tryz.f3 false true false false):=by
 obtain⟨places,hx⟩:=reads os enc;refine Fs.returnsInLeaving_of_row (C:=Tryz.checked) (s:=OpenSpec.ofChange Rows.goneSpec) zpost.own started Tryz.func3
  (witness_row_at (enc:=enc) (C:=Tryz.checked) false (zpost.laidWorld os #[]) b9N rfl (by kernel_rfl) (by kernel_rfl) (by kernel_rfl)
    (OpenSpec.preRow_of_cond 8 hx (by kernel_rfl) (fun k hk=>by cases hk) (by kernel_rfl) (laidWorld_met os _))) ?_
 intro W base args ds gs before hval hW hcond h2 h3 hL h4 h5;have hgs:gs=[]/\ds=ds++gs:=by
  obtain⟨p,q,_,hV,_⟩:=hW;obtain⟨rfl,_⟩:=trodVars_none hV;exact⟨rfl,(List.append_nil _).symm⟩
 obtain⟨rfl,-⟩:=hgs;rw[List.append_nil] at h3;exact run H enc W base args ds [] before hval hW hL h3 h4
theorem j1:(Rows.goneRow.inPlace==Tryz.prog.inPlace 3)=true:=by kernel_rfl
theorem j2:(Rows.goneRow.unfollowed==Tryz.prog.unfollowed 3)=true:=by kernel_rfl
theorem j3:(Rows.goneRow.recurses==Tryz.prog.recurses 3)=true:=by kernel_rfl
theorem j4:(Rows.goneRow.named==Tryz.prog.varsNamed 3)=true:=by kernel_rfl
theorem j5:Tryz.prog.mayEnter=true:=by kernel_rfl
theorem j6:laidOutB Tryz.prog=true:=by kernel_rfl
theorem j7:mapsRowed Tryz.prog=true:=by kernel_rfl
theorem j8:Rows.goneRow.wf (OpenSpec.ofChange Rows.goneSpec)=true:=by kernel_rfl
theorem closed:joinedFacts Tryz.prog 3 Tryz.f3 Rows.goneSpec Rows.goneRow=true:=by
 unfold joinedFacts;simp only[Bool.and_eq_true];repeat' apply And.intro
 all_goals first|(with_reducible exact j1)|(with_reducible exact j2)|(with_reducible exact j3)|(with_reducible exact j4)|(with_reducible exact j5)|(with_reducible exact j6)|(with_reducible exact j7)|(with_reducible exact j8)|kernel_rfl
theorem proved:Rows.GoneSaid:=
 OpenClaim.holds_of_wide_leaving 3 Tryz.f3 rfl rfl rfl rfl rfl rfl rfl ⟨rfl,rfl,rfl,rfl,rfl⟩ rfl rfl rfl rfl rfl (by kernel_rfl) Tryz.func3 closed
  (of_decide_eq_true (by kernel_rfl)) (by unfold Func.isWrapper;first|(rw[if_pos (by decide +kernel)];kernel_rfl)|(rw[if_neg (by decide +kernel)];exact⟨rfl,rfl⟩))
  (fun os started H enc _=>by rw[OpenClaim.pre_eq_preRow];exact lifted os started H enc (fun _ _ _=>default))
theorem plain(f:FuncId)(fn:Func)(hf:Tryz.pinned.checked.prog.funcNamed "keydir/keydirlaw.Gone" = some f)(hfn:Tryz.pinned.checked.prog.funcs[f]?=some fn):
 true=Tryz.pinned.checked.prog.looks []/\∀(j:Nat)t,fn.params[j]?=some t->Tryz.pinned.checked.prog.wantsStandIn t=false:=by
 obtain rfl:f=3:=Option.some.inj ((show Tryz.prog.funcNamed "keydir/keydirlaw.Gone" = some 3 by kernel_rfl).symm.trans hf) |>.symm;obtain rfl:fn=Tryz.f3:=(Option.some.inj (Tryz.func3.symm.trans hfn)).symm;refine⟨by kernel_rfl,fun j t ht=>?_⟩;rw[Tryz.params3] at ht;have hm:t=27\/t=28:=by simpa using Array.mem_of_getElem? ht
 rcases hm with rfl|rfl
 ·exact(show Tryz.prog.wantsStandIn 27=false by kernel_rfl)
 ·exact(show Tryz.prog.wantsStandIn 28=false by kernel_rfl)
theorem card:Rows.GoneCardSaid:=
 zpost.card_goes _ _ _ proved (by kernel_rfl) gone_row_tie rfl ⟨rfl,rfl⟩ (by kernel_rfl) rfl plain (by kernel_rfl)
#print axioms card
end
end Go.Proofs.YtgpbhjjajpbeeaaGreatDoor.gone
