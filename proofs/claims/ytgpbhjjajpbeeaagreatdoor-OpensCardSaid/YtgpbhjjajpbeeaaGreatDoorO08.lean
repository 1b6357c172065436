/- A part of what the last file proves. -/
import Derived.Test.YtgpbhjjajpbeeaaGreatDoorO07
set_option linter.all false
set_option maxHeartbeats 1600000
namespace Go.Mc
section
open Go.Conc
open Go.ConcR (KK wgBlock WgAt stA smA rd wr mk DC0 Bk g_of_ofEvents)
open Go.ConcN (WgLive ShN WD CTag sumTo upd upd_same upd_ne cnt Vc Ssum pend isOpen isW3 isFin phi phi_mono phi_retag norel_of Deaf_absent get_map_set get_map_set_same sumTo_upd sumTo_congr)
variable[Go.ConcR.Payload](Z:Pz)(Cont AnchW:Goroutine->World->Prop)(t0:Trace)(B0:Nat)(w0:World)
structure Com(j:Nat)(gs:Array Goroutine)(w:World)(t:Trace)(D:Nat->WD)(O:Nat->Nat->Prop)(bx:Nat->Nat)(T:Nat->Tr)(q:Nat->Nat)(d0:Nat)(x:Option Nat):Prop where
 size:gs.size=Z.c+j
 old:∀i g,0<i->i<Z.c->gs[i]?=some g->QuitsD Z.P (q i) (Deaf t i) g
 wk:∀i,i<j->∃g,gs[Z.c+i]?=some g/\WS Z i (bx i) (O i) (D i).stage (T i) (D i).deaf g w
 geo:Geo Z j w O bx x
 ct:CT Z.c (u_ Z) (wC Z) (yY Z O) (vg Z bx) t j
 norel:NoRelease (stA Z.Wg) t
 deaf0:Deaf t 0=d0
 deafW:∀i,i<j->Deaf t (Z.c+i)=(D i).deaf
 rel:∀i,i<j->(D i).stage<=6->∃r,Rel Z.Wg t (Z.c+i) r
 elder:∀b,Z.lN b\/Z.wS b->w.heap[b]?=w0.heap[b]?
 al:kY Z w
 cb:kS Z w
 low:∀op∈t,op.act.low w.heap.size
 sfx:∃u,t=t0++u/\∀op∈u,op.g=0\/op.act.touch?=none\/∃i,i<j/\op.g=Z.c+i
 env:w.tape=w0.tape/\w.os=w0.os/\w.output=w0.output
def nJ:CTag->Nat
 | .w3=>1
 | _=>0
def Inv(μ:Mu)(m:Machine)(t:Trace):Prop:=
 ∃(gs:Array Goroutine)(w:World)(sl:Option (Nat×Nat))(j:Nat)(D:Nat->WD)(O:Nat->Nat->Prop)(bx:Nat->Nat)(T:Nat->Tr)(q:Nat->Nat)(tag:CTag)(T0:Tr)(d0:Nat)(x:Option Nat)(a:Goroutine)(st sm:Int),
  m=crowd gs w sl/\gs[0]?=some a/\CS Z Cont AnchW tag j T0 d0 x a w/\Com Z t0 w0 j gs w t D O bx T q d0 x/\WgAt Z.ty Z.Wg w st sm/\ConcN.Mode j D tag st sm/\
  μ = ⟨phi Z.n (Vc j D) tag+Ssum j D+sumTo Z.c q,T,T0,nJ tag⟩
variable{Z Cont AnchW t0 w0}
variable{gs:Array Goroutine}{w w':World}{sl:Option (Nat×Nat)}{j:Nat}{t:Trace}{D:Nat->WD}{O:Nat->Nat->Prop}{bx:Nat->Nat}{T:Nat->Tr}{q:Nat->Nat}{tag:CTag}{T0:Tr}{d0:Nat}{x:Option Nat}{a:Goroutine}{st sm:Int}
theorem CS.bound(h:CS Z Cont AnchW tag j T0 d0 x a w):j+pend tag<=Z.n:=by
 cases h<;>simp only[pend]<;>(try simp)<;>omega
theorem Qp{B B':Nat}{t v:Trace}(h:∀op∈t,op.act.low B)(hB:B<=B')(hv:∀op∈v,op.act.low B'):∀op∈t++v,op.act.low B':=
 λop hop=>(dh.1 hop).elim (λx=>MemAct.low_mono hB (h op x)) (hv op)
theorem Zm{B g:Nat}{fn:FuncId}{pos:String}{es:Array Event}(h:∀e∈es,(MemAct.ofEvent e).low B):∀op∈MemOp.ofEvents g fn pos es,op.act.low B:=λop hop=>by
 obtain⟨e,he,rfl⟩:=Go.Conc.mem_ofEvents hop;exact h e he
theorem workerStep(hZ:jY Z)(hAr:∀g w,AnchW g w->g.status=.running)
 (ha:gs[0]?=some a)(hcs:CS Z Cont AnchW tag j T0 d0 x a w)(hcom:Com Z t0 w0 j gs w t D O bx T q d0 x)
 {i:Nat}(hi:i<j){g g':Goroutine}{es:Array Event}{s' dd':Nat}{T':Tr}{O':Nat->Prop}{st' sm':Int}(hg:gs[Z.c+i]?=some g)(hgo:stepG Z.P false g w=.go g' w' es)
 (hR0:R0 Z x w w')(X_:∀k,k<j->k≠i->RW Z k (bx k) (O k) w w')(mV:Geo Z j w' (upd O i O') bx x)
 (hct:CT Z.c (u_ Z) (wC Z) (yY Z (upd O i O')) (vg Z bx) (t++MemOp.ofEvents (Z.c+i) g.frame.fn g.frame.place es) j)
 (hs':WS Z i (bx i) O' s' T' dd' g' w')(hnr:∀e∈es,e.loc≠.mark (.release (stA Z.Wg)))(hdeaf:deafBehind (D i).deaf es=dd')
 (hrel:s'<=6->∃r,Rel Z.Wg (t++MemOp.ofEvents (Z.c+i) g.frame.fn g.frame.place es) (Z.c+i) r)
 (hal:kY Z w')(hcb:kS Z w')(hlow:∀e∈es,(MemAct.ofEvent e).low w'.heap.size)(henv:w'.tape=w.tape/\w'.os=w.os/\w'.output=w.output)(hwg:WgAt Z.ty Z.Wg w' st' sm')
 (hmode:∀tag',(tag'=tag\/(tag=.blk/\tag'=.w3))->(mayWake Z.P g=true->g'.status=.running->tag'≠.blk)->ConcN.Mode j (upd D i ⟨s',0,dd'⟩) tag' st' sm')
 (hlt:(s'<(D i).stage/\cnt ⟨s',0,dd'⟩<=cnt (D i))\/(s'=(D i).stage/\qc T' (T i))):
 ∃m₁ ops μ',runT Z.P (crowd gs w sl) (Z.c+i)=(.next m₁,ops)/\qJ Z.n μ' ⟨phi Z.n (Vc j D) tag+Ssum j D+sumTo Z.c q,T,T0,nJ tag⟩/\Inv Z Cont AnchW t0 w0 μ' m₁ (t++ops):=by
 obtain⟨tag',qM,hcs',htag,hwk⟩:=hcs.wokenBy hAr hR0 g g';have hc:=hZ.c;have h0:(Z.c+i==0)=false:=by simp;omega
 have hrun:=runT_crowd_go (P:=Z.P) (sl:=sl) (i:=Z.c+i) hg (by rw[h0];exact hgo);have e1:=sumTo_upd D (⟨s',0,dd'⟩:WD) cnt hi;have e2:=sumTo_upd D (⟨s',0,dd'⟩:WD) WD.stage hi;have hbd:=hcs.bound;have hgs:Z.c+i<gs.size:=by rw[hcom.size];omega
 refine⟨_,_,⟨phi Z.n (Vc j (upd D i ⟨s',0,dd'⟩)) tag'+Ssum j (upd D i ⟨s',0,dd'⟩)+sumTo Z.c q,upd T i T',qM,nJ tag'⟩,hrun,?_,
  _,w',sl,j,upd D i ⟨s',0,dd'⟩,upd O i O',bx,upd T i T',q,tag',qM,d0,x,woken Z.P g g' w' a,st',sm',rfl,by rw[get_map_set _ _ _ _ (by omega),ha];rfl,hcs',?_,hwg,hmode tag' htag hwk,rfl⟩
 ·simp only[Vc,Ssum] at *;rcases hlt with⟨h1,h2⟩|⟨h1,h2⟩
  ·refine .stage _ _ ?_;dsimp only;rw[phi_retag Z.n _ htag];have:=phi_mono Z.n (v':=sumTo j λa=>cnt (upd D i ⟨s',0,dd'⟩ a)) (v:=sumTo j λa=>cnt (D a)) (by omega) tag;omega
  ·have ec:cnt (⟨s',0,dd'⟩:WD)=cnt (D i):=by simp only[cnt,h1]
   have ev:(sumTo j λa=>cnt (upd D i ⟨s',0,dd'⟩ a))=sumTo j λa=>cnt (D a):=by omega
   have es':(sumTo j λa=>(upd D i ⟨s',0,dd'⟩ a).stage)=sumTo j λa=>(D a).stage:=by omega
   refine .worker _ _ ?_ ⟨i,by omega,by dsimp only;rw[upd_same];exact h2,λk hk=>upd_ne T _ hk⟩;dsimp only;rw[phi_retag Z.n _ htag,ev,es']
 ·refine⟨by simp[hcom.size],λk y hk hkc hy=>?_,λk hk=>?_,mV,hct,hcom.norel.app (norel_of hnr),by rw[Deaf_other _ (by omega) _ g_of_ofEvents,hcom.deaf0],λk hk=>?_,λk hk hst=>?_,λb hb=>(hb.elim (hR0.iP b) (hR0.xP b)).trans (hcom.elder b hb),hal,hcb,Qp hcom.low hR0.size (Zm hlow),?_,⟨henv.1.trans hcom.env.1,henv.2.1.trans hcom.env.2.1,henv.2.2.trans hcom.env.2.2⟩⟩
  ·rw[get_map_set _ _ _ _ (by omega)] at hy;obtain⟨z,hz,rfl⟩:=aS.1 hy;have hq:=hcom.old k z hk hkc hz;rw[woken_quitsD hq,Deaf_other _ (by omega) _ g_of_ofEvents];exact hq
  ·by_cases e:k=i
   ·subst e;exact⟨g',get_map_set_same _ _ _ hgs,by rw[upd_same,upd_same,upd_same];exact hs'⟩
   ·obtain⟨y,hy,hsy⟩:=hcom.wk k hk;refine⟨y,by rw[get_map_set _ _ _ _ (by omega),hy,dH,hsy.woken],?_⟩;rw[upd_ne D _ e,upd_ne T _ e,upd_ne O _ e];exact hsy.rely hZ (X_ k hk e)
  ·by_cases e:k=i
   ·subst e;rw[Deaf_own,hcom.deafW k hk,upd_same];exact hdeaf
   ·rw[Deaf_other _ (by omega) _ g_of_ofEvents,hcom.deafW k hk,upd_ne D _ e]
  ·by_cases e:k=i
   ·subst e;rw[upd_same] at hst;exact hrel hst
   ·rw[upd_ne D _ e] at hst;obtain⟨r,hr⟩:=hcom.rel k hk hst;exact⟨r,hr.appNot λop hop=>by rw[g_of_ofEvents op hop];omega⟩
  ·obtain⟨u,rfl,hu⟩:=hcom.sfx;refine⟨u++MemOp.ofEvents (Z.c+i) g.frame.fn g.frame.place es,gU,λop hop=>?_⟩;rcases dh.1 hop with h|h
   ·exact hu op h
   ·exact .inr (.inr ⟨i,hi,g_of_ofEvents op h⟩)
theorem callerStep(hZ:jY Z)(ha:gs[0]?=some a)(hcom:Com Z t0 w0 j gs w t D O bx T q d0 x)
 {a':Goroutine}{es:Array Event}{tag':CTag}{qM:Tr}{x':Option Nat}{st' sm':Int}(hgo:stepG Z.P true a w=.go a' w' es)
 (X_:∀k,k<j->RW Z k (bx k) (O k) w w')(hel:∀b,Z.lN b\/Z.wS b->w'.heap[b]?=w.heap[b]?)(hsz:w.heap.size<=w'.heap.size)(mV:Geo Z j w' O bx x')
 (hok:∀op∈MemOp.ofEvents 0 a.frame.fn a.frame.place es,Ok0 (u_ Z) (wC Z) (yY Z O) (vg Z bx) j op)(hnr:∀e∈es,e.loc≠.mark (.release (stA Z.Wg)))
 (hal:kY Z w')(hcb:kS Z w')(hlow:∀e∈es,(MemAct.ofEvent e).low w'.heap.size)(henv:w'.tape=w.tape/\w'.os=w.os/\w'.output=w.output)
 (hcs':CS Z Cont AnchW tag' j qM (deafBehind d0 es) x' a' w')(hwg:WgAt Z.ty Z.Wg w' st' sm')(hmode:ConcN.Mode j D tag' st' sm')
 (hlt:phi Z.n (Vc j D) tag'<phi Z.n (Vc j D) tag\/(phi Z.n (Vc j D) tag'=phi Z.n (Vc j D) tag/\(qc qM T0\/(qM=T0/\nJ tag'<nJ tag)))):
 ∃m₁ ops μ',runT Z.P (crowd gs w sl) 0=(.next m₁,ops)/\qJ Z.n μ' ⟨phi Z.n (Vc j D) tag+Ssum j D+sumTo Z.c q,T,T0,nJ tag⟩/\Inv Z Cont AnchW t0 w0 μ' m₁ (t++ops):=by
 have hrun:=runT_crowd_go (P:=Z.P) (sl:=sl) (i:=0) ha (by simpa using hgo);have hc:=hZ.c;refine⟨_,_,⟨phi Z.n (Vc j D) tag'+Ssum j D+sumTo Z.c q,T,qM,nJ tag'⟩,hrun,?_,
  _,w',sl,j,D,O,bx,T,q,tag',qM,deafBehind d0 es,x',a',st',sm',rfl,get_map_set_same _ _ _ (by rw[hcom.size];omega),hcs',?_,hwg,hmode,rfl⟩
 ·rcases hlt with h|⟨h1,h2|⟨h2,h3⟩⟩
  ·exact .stage _ _ (by dsimp only;omega)
  ·exact .starter _ _ (by dsimp only;rw[h1]) rfl h2
  ·exact .blocks _ _ (by dsimp only;rw[h1]) rfl h2 h3
 ·refine⟨by simp[hcom.size],λk y hk hkc hy=>?_,λk hk=>?_,mV,hcom.ct.app0 hc (hcom.geo.apart hZ) hok,hcom.norel.app (norel_of hnr),by rw[Deaf_own,hcom.deaf0],λk hk=>by rw[Deaf_other _ (by omega) _ g_of_ofEvents,hcom.deafW k hk],λk hk hst=>?_,λb hb=>(hel b hb).trans (hcom.elder b hb),hal,hcb,Qp hcom.low hsz (Zm hlow),?_,⟨henv.1.trans hcom.env.1,henv.2.1.trans hcom.env.2.1,henv.2.2.trans hcom.env.2.2⟩⟩
  ·rw[get_map_set _ _ _ _ (by omega)] at hy;obtain⟨z,hz,rfl⟩:=aS.1 hy;have hq:=hcom.old k z hk hkc hz;rw[woken_quitsD hq,Deaf_other _ (by omega) _ g_of_ofEvents];exact hq
  ·obtain⟨y,hy,hsy⟩:=hcom.wk k hk;exact⟨y,by rw[get_map_set _ _ _ _ (by omega),hy,dH,hsy.woken],hsy.rely hZ (X_ k hk)⟩
  ·obtain⟨r,hr⟩:=hcom.rel k hk hst;exact⟨r,hr.appNot λop hop=>by rw[g_of_ofEvents op hop];omega⟩
  ·obtain⟨u,rfl,hu⟩:=hcom.sfx;refine⟨u++MemOp.ofEvents 0 a.frame.fn a.frame.place es,gU,λop hop=>?_⟩;rcases dh.1 hop with h|h
   ·exact hu op h
   ·exact .inl (g_of_ofEvents op h)
theorem b48(hZ:jY Z)(hAr:∀g w,AnchW g w->g.status=.running)(ha:gs[0]?=some a)(hcs:CS Z Cont AnchW tag j T0 d0 x a w)(hcom:Com Z t0 w0 j gs w t D O bx T q d0 x)(hwg:WgAt Z.ty Z.Wg w st sm)(hmode:ConcN.Mode j D tag st sm)
 (NS:R0 Z x w w){i:Nat}(h0:0<i)(hi:i<Z.c){g:Goroutine}(hg:gs[i]?=some g)(hrun:g.status=.running):
 ∃m₁ ops μ',runT Z.P (crowd gs w sl) i=(.next m₁,ops)/\qJ Z.n μ' ⟨phi Z.n (Vc j D) tag+Ssum j D+sumTo Z.c q,T,T0,nJ tag⟩/\Inv Z Cont AnchW t0 w0 μ' m₁ (t++ops):=by
 have hq:=hcom.old i g h0 hi hg
 cases hqi:q i with
 | zero=>rw[hqi] at hq;rw[hq.1] at hrun;cases hrun
 | succ k=>
  rw[hqi] at hq;rcases hq with⟨hf,_⟩|⟨_,g',es,hm,hstp,hq'⟩
  ·rw[hf] at hrun;cases hrun
  have hi0:(i==0)=false:=by simp;omega
  have hrunT:=runT_crowd_go (P:=Z.P) (sl:=sl) (i:=i) hg (by rw[hi0];exact hstp w);have hlt:i<gs.size:=(aN.1 hg).1;have hsum:sumTo Z.c (upd q i k)+(k+1)=sumTo Z.c q+k:=by
   have:=sumTo_upd q k id hi;simpa [hqi] using this
  obtain⟨tag',qM,hcs',htag,_⟩:=hcs.wokenBy hAr NS g g';have yj:∀op∈MemOp.ofEvents i g.frame.fn g.frame.place es,op.act.touch?=none:=λop hop=>by
   obtain⟨e,he,rfl⟩:=Go.Conc.mem_ofEvents hop;exact touch_mute (hm e he)
  refine⟨_,_,⟨phi Z.n (Vc j D) tag'+Ssum j D+sumTo Z.c (upd q i k),T,qM,nJ tag'⟩,hrunT,.stage _ _ (by dsimp only;rw[phi_retag Z.n _ htag];omega),
   _,w,sl,j,D,O,bx,T,upd q i k,tag',qM,d0,x,woken Z.P g g' w a,st,sm,rfl,by rw[get_map_set _ _ _ _ (by omega),ha];rfl,hcs',?_,hwg,hmode.retag htag,rfl⟩
  refine⟨by simp[hcom.size],λm y hk hkc hy=>?_,λm hk=>?_,hcom.geo,hcom.ct.appMute (by omega) g_of_ofEvents yj,hcom.norel.app (norel_of λe he hl=>?_),by rw[Deaf_other _ (by omega) _ g_of_ofEvents,hcom.deaf0],λm hk=>by rw[Deaf_other _ (by omega) _ g_of_ofEvents,hcom.deafW m hk],λm hk hst=>?_,hcom.elder,hcom.al,hcom.cb,Qp hcom.low (aj _) (Zm λe he=>low_mute (hm e he) _),?_,hcom.env⟩
  ·by_cases e:m=i
   ·subst e;rw[get_map_set_same _ _ _ hlt] at hy;obtain rfl:=aF hy;rw[upd_same,Deaf_own];exact hq'
   ·rw[get_map_set _ _ _ _ (bP e)] at hy;obtain⟨z,hz,rfl⟩:=aS.1 hy;have hq:=hcom.old m z hk hkc hz;rw[woken_quitsD hq,upd_ne q k e,Deaf_other _ (by omega) _ g_of_ofEvents];exact hq
  ·obtain⟨y,hy,hsy⟩:=hcom.wk m hk;exact⟨y,by rw[get_map_set _ _ _ _ (by omega),hy,dH,hsy.woken],hsy⟩
  ·have:=hm e he;rw[show e=⟨.mark (.release (stA Z.Wg)),e.write,e.sync⟩ by rw[<-hl]] at this;cases this
  ·obtain⟨r,hr⟩:=hcom.rel m hk hst;exact⟨r,hr.appNot λop hop=>by rw[g_of_ofEvents op hop];omega⟩
  ·obtain⟨u,rfl,hu⟩:=hcom.sfx;refine⟨u++MemOp.ofEvents i g.frame.fn g.frame.place es,gU,λop hop=>?_⟩;rcases dh.1 hop with h|h
   ·exact hu op h
   ·exact .inr (.inl (yj op h))
end
section
open Go.Conc
open Go.ConcR (KK wgBlock WgAt stA smA rd wr mk DC0 Bk g_of_ofEvents bk_of_mute ofEvent_loc_mark)
open Go.ConcN (WgLive ShN WD CTag sumTo upd upd_same upd_ne cnt Vc Ssum pend isOpen isW3 isFin phi deafBehind_idle bk_cell Vc_upd OpenSt AllQuit others_uncounted Vc_le le_sumTo)
variable[Go.ConcR.Payload]{Z:Pz}{Cont AnchW:Goroutine->World->Prop}{t0:Trace}{w0:World}
variable{gs:Array Goroutine}{w w':World}{sl:Option (Nat×Nat)}{j:Nat}{t:Trace}{D:Nat->WD}{O:Nat->Nat->Prop}{bx:Nat->Nat}{T:Nat->Tr}{q:Nat->Nat}{tag:CTag}{T0:Tr}{d0:Nat}{x:Option Nat}{a:Goroutine}{st sm:Int}
theorem tW{es:Array Event}(hZ:jY Z){B:Nat}(hB:Z.L0<=B)(hes:∀e∈es,Bk Z.Wg e):∀e∈es,(MemAct.ofEvent e).low B:=λe he=>by
 rcases hes e he with h1|h1|⟨a,wr,rfl,hb⟩
 ·rw[ofEvent_loc_mark h1];trivial
 ·rw[ofEvent_loc_mark h1];trivial
 ·rw[Go.ConcR.ofEvent_cell];show a.block<B;have:=hZ.W0;omega
theorem UI{i b:Nat}{O':Nat->Prop}{B:Nat}{es:Array Event}(hes:∀e∈es,EvW Z i b O' B e):∀e∈es,(MemAct.ofEvent e).low B:=λe he=>by
 have h:=hes e he;obtain⟨loc,wr,sy⟩:=e;unfold EvW at h
 cases loc with
 | cell a=>exact h.1
 | obj r=>
  obtain⟨h1,h2,_⟩:=h;dsimp only at h2;subst h2
  cases wr<;>exact h1
 | mark m=>cases m<;>first|exact(h:False).elim|trivial
 | _=>exact(h:False).elim
theorem c0N{i b:Nat}{O':Nat->Prop}{B:Nat}{es:Array Event}(hes:∀e∈es,EvW Z i b O' B e):∀e∈es,e.loc≠.mark .disable/\e.loc≠.mark .enable/\e.loc≠.mark (.release (stA Z.Wg)):=λe he=>by
 have h:=hes e he;obtain⟨loc,wr,sy⟩:=e;unfold EvW at h
 cases loc with
 | mark m=>cases m<;>first|exact(h:False).elim|(refine⟨?_,?_,?_⟩<;>simp)
 | cell a=>exact⟨by simp,by simp,by simp⟩
 | obj r=>exact⟨by simp,by simp,by simp⟩
 | _=>exact(h:False).elim
theorem c0O{α:Type}(f:Nat->α)(i:Nat):upd f i (f i)=f:=by
 funext k
 by_cases e:k=i
 ·subst e;rw[upd_same]
 ·rw[upd_ne f _ e]
theorem bw{i:Nat}(hm:ConcN.Mode j D tag st sm)(dd':Nat):ConcN.Mode j (upd D i ⟨(D i).stage,0,dd'⟩) tag st sm:=hm.same 0 dd'
theorem stepWorker(hZ:jY Z)(hAr:∀g w,AnchW g w->g.status=.running)(hn:Z.n<2147483648)
 (ha:gs[0]?=some a)(hcs:CS Z Cont AnchW tag j T0 d0 x a w)(hcom:Com Z t0 w0 j gs w t D O bx T q d0 x)(hwg:WgAt Z.ty Z.Wg w st sm)(hmode:ConcN.Mode j D tag st sm)
 {i:Nat}(hi:i<j){g:Goroutine}(hg:gs[Z.c+i]?=some g)(hrun:g.status=.running):
 ∃m₁ ops μ',runT Z.P (crowd gs w sl) (Z.c+i)=(.next m₁,ops)/\qJ Z.n μ' ⟨phi Z.n (Vc j D) tag+Ssum j D+sumTo Z.c q,T,T0,nJ tag⟩/\Inv Z Cont AnchW t0 w0 μ' m₁ (t++ops):=by
 obtain⟨g₁,hg₁,hs⟩:=hcom.wk i hi;obtain rfl:g=g₁:=by rw[hg] at hg₁;exact aF hg₁
 generalize hst:(D i).stage=s at hs;generalize ow:T i=Ti at hs;generalize hde:(D i).deaf=dd at hs;have hb:=hcs.bound;have hVj:=Vc_le j D;have hc:=hZ.c;have hdk:Deaf t (Z.c+i)=dd:=by rw[hcom.deafW i hi,hde]
 have eO:upd O i (O i)=O:=c0O O i;have bookG:∀{g':Goroutine}{w':World}{es:Array Event}{s' dd' m':Nat}{st' sm':Int},stepG Z.P false g w=.go g' w' es->Conc.Aside Z.Wg w w'->WgAt Z.ty Z.Wg w' st' sm'->(∀e∈es,Bk Z.Wg e)->
  (∀jx e,es[jx]?=some e->(MemAct.ofEvent e).touch?=none\/0<deafBehind dd (es.extract 0 jx))->WS Z i (bx i) (O i) s' (zV m') dd' g' w'->deafBehind dd es=dd'->s<=6->
  (∀tag',(tag'=tag\/(tag=.blk/\tag'=.w3))->(mayWake Z.P g=true->g'.status=.running->tag'≠.blk)->ConcN.Mode j (upd D i ⟨s',0,dd'⟩) tag' st' sm')->((s'<s/\cnt ⟨s',0,dd'⟩<=cnt (D i))\/(s'=s/\qc (zV m') Ti))->
  ∃m₁ ops μ',runT Z.P (crowd gs w sl) (Z.c+i)=(.next m₁,ops)/\qJ Z.n μ' ⟨phi Z.n (Vc j D) tag+Ssum j D+sumTo Z.c q,T,T0,nJ tag⟩/\Inv Z Cont AnchW t0 w0 μ' m₁ (t++ops):=by
  intro g' w' es s' dd' m' st' sm' hgo hAs hwg' hbk hd hs' hdd h6 hmode' hlt;have hl:WgLive Z.ty Z.Wg w':=⟨_,_,hwg'⟩;refine workerStep (O':=O i) hZ hAr ha hcs hcom hi hg hgo (ME hZ hcom.geo hAs hl) (λk _ _=>bA hZ hcom.geo hAs hl k) (by rw[eO];exact ux hZ hcom.geo hAs hl) (by rw[eO];exact hcom.ct.appW (hcom.geo.apart hZ) hi (Eq hbk rfl)) hs' (ConcN.norel_of_Bk hbk) (by rw[hde];exact hdd)
   (λ_=>let ⟨r,hr⟩:=hcom.rel i hi (by omega);⟨r,hr.book hdk _ _ hbk hd⟩) (kY.of (hAs.block _ (bP hZ.WA)) hcom.al) (kS.of (hAs.block _ (bP hZ.WC)) hcom.cb) (tW hZ (by rw[hAs.size];exact hcom.geo.size) hbk) ⟨hAs.tape,hAs.os,hAs.output⟩ hwg' hmode'
   (by rw[hst,ow];exact hlt)
 have book:∀{g':Goroutine}{w':World}{es:Array Event}{s' dd' m':Nat}{st' sm':Int},stepG Z.P false g w=.go g' w' es->Conc.Aside Z.Wg w w'->WgAt Z.ty Z.Wg w' st' sm'->(∀e∈es,Bk Z.Wg e)->
  (∀jx e,es[jx]?=some e->(MemAct.ofEvent e).touch?=none\/0<deafBehind dd (es.extract 0 jx))->WS Z i (bx i) (O i) s' (zV m') dd' g' w'->deafBehind dd es=dd'->s<=6->
  ConcN.Mode j (upd D i ⟨s',0,dd'⟩) tag st' sm'->((s'<s/\cnt ⟨s',0,dd'⟩<=cnt (D i))\/(s'=s/\qc (zV m') Ti))->
  ∃m₁ ops μ',runT Z.P (crowd gs w sl) (Z.c+i)=(.next m₁,ops)/\qJ Z.n μ' ⟨phi Z.n (Vc j D) tag+Ssum j D+sumTo Z.c q,T,T0,nJ tag⟩/\Inv Z Cont AnchW t0 w0 μ' m₁ (t++ops):=
  λhgo hAs hwg' hbk hd hs' hdd h6 hmode' hlt=>bookG hgo hAs hwg' hbk hd hs' hdd h6 (λ_ ht _=>hmode'.retag ht) hlt
 cases hs with
 | work T1 g w h=>
  rcases Wk.cases h with hstop|hstep
  ·
   obtain⟨hR0,hres⟩:=hstop w (RW.refl Z _ _ _ w);obtain⟨_,hhas,g',hgo,m₂,hk⟩:=hR0;have hAs:Conc.Aside Z.Wg w w:=.refl _ w;have hl:WgLive Z.ty Z.Wg w:=⟨_,_,hwg⟩;refine workerStep (O':=O i) (s':=6) (T':=zV m₂) hZ hAr ha hcs hcom hi hg hgo (ME hZ hcom.geo hAs hl) (λk _ _=>bA hZ hcom.geo hAs hl k) (by rw[eO];exact hcom.geo) (by rw[eO];exact hcom.ct.appMute (by omega) g_of_ofEvents (λop hop=>by obtain⟨e,he,rfl⟩:=Go.Conc.mem_ofEvents hop;simp at he;subst he;rfl)) (.rest 6 m₂ 0 g' w (by omega) (.k1 hk) hres)
    (by intro e he;simp at he;subst he;simp[mk]) (by rw[hde];rfl) (λ_=>⟨t.size,Rel.new hdk _ _⟩) hcom.al hcom.cb (by intro e he;simp at he;subst he;show Z.Wg<_;have:=hZ.W0;have:=hcom.geo.size;omega) ⟨rfl,rfl,rfl⟩ hwg (λ_ ht _=>(hmode.counted hi (by omega) (.inl rfl) _ _).retag ht) (.inl ⟨by omega,by simp[cnt,hst]⟩)
  ·obtain⟨T',g',w',es,O',hlt,hgo,hD,hg'⟩:=hstep w (RW.refl Z _ _ _ w);have hmk:=c0N hD.ev;refine workerStep (O':=O') (s':=7) (T':=T') hZ hAr ha hcs hcom hi hg hgo (b45 hZ hcom.geo hD) (λk _ hk=>b78 hZ hcom.geo hD hk) (uE hZ hcom.geo hD hi) (vy hZ hcom.geo hD hi hcom.ct hcom.low _ _) (.work T' g' w' hg') (λe he=>(hmk e he).2.2)
    (by rw[hde];exact deafBehind_idle (λe he=>⟨(hmk e he).1,(hmk e he).2.1⟩) 0) (λh=>by omega) (hD.al hcom.al) (hD.cb hcom.cb) (UI hD.ev) ⟨hD.tape,hD.os,hD.output⟩ (hwg.of_block (Ko hZ hcom.geo hD hZ.W0 hZ.WA hZ.WC))
    (λ_ ht _=>ConcN.Mode.retag (by have:=bw (i:=i) hmode 0;rwa [hst] at this) ht) (.inr ⟨hst.symm,by rw[ow];exact hlt⟩)
 | rest s m d g w h6 h hres=>
  have idle:∀{g':Goroutine}{m':Nat},stepG Z.P false g w=.go g' w #[]->ConcN.WSit Z.P Z.ty Z.Wg Z.e0 Z.n JI JI 0 1 Z.v0 s m' dd g' w->m'+1=m->
   ∃m₁ ops μ',runT Z.P (crowd gs w sl) (Z.c+i)=(.next m₁,ops)/\qJ Z.n μ' ⟨phi Z.n (Vc j D) tag+Ssum j D+sumTo Z.c q,T,T0,nJ tag⟩/\Inv Z Cont AnchW t0 w0 μ' m₁ (t++ops):=by
   intro g' m' hgo hs' hm;subst hm;exact book hgo (.refl Z.Wg w) hwg (by simp) (by simp) (.rest s m' dd g' w h6 hs' hres) rfl h6 (by have:=bw (i:=i) hmode dd;rwa [hst] at this) (.inr ⟨rfl,uL m'⟩)
  have hbW:bx i≠Z.Wg:=by
   rcases hcom.geo.wZ i with h|⟨_,h,_⟩
   ·exact(hZ.iP _ h).2.1
   ·have:=hZ.W0;omega
  have uD:∀(v:Value),Z.kG i (bx i) (O i) (w.setCell (stA Z.Wg) v):=λv=>hZ.res _ _ _ _ _ (dS (aside_setCell w (stA Z.Wg) v).size.symm) ((aside_setCell w (stA Z.Wg) v).block _ hbW) (λb hb=>by
   have:=(hcom.geo.lt i b hb).1;have:=hZ.W0;exact(aside_setCell w (stA Z.Wg) v).block b (by show b≠Z.Wg;omega)) (λk _=>ConcN.cell_of_block ((aside_setCell w (stA Z.Wg) v).block _ (bP hZ.WC)) k) hres
  have Ll:∀(v:Value),Z.kG i (bx i) (O i) (w.setCell (smA Z.Wg) v):=λv=>hZ.res _ _ _ _ _ (dS (aside_setCell w (smA Z.Wg) v).size.symm) ((aside_setCell w (smA Z.Wg) v).block _ hbW) (λb hb=>by
   have:=(hcom.geo.lt i b hb).1;have:=hZ.W0;exact(aside_setCell w (smA Z.Wg) v).block b (by show b≠Z.Wg;omega)) (λk _=>ConcN.cell_of_block ((aside_setCell w (smA Z.Wg) v).block _ (bP hZ.WC)) k) hres
  cases h with
  | r0 h=>omega
  | k1 h=>
   rcases Goes.cases h with hstop|⟨m',rfl,hstep⟩
   ·obtain⟨_,g',hgo,m₂,hk⟩:=hstop w (ConcN.RW.refl w);exact book hgo (.refl Z.Wg w) hwg (by intro e he;simp at he;subst he;exact .inl rfl) (by intro jx e he;exact .inl (by have:=Array.mem_of_getElem? he;simp at this;subst this;rfl)) (.rest 5 m₂ 1 g' w (by omega) (.d1 hk) hres) rfl (by omega)
     (hmode.counted hi (by omega) (.inr rfl) _ _) (.inl ⟨by omega,by simp[cnt,hst]⟩)
   ·obtain⟨g',w',es,hgo,⟨rfl,rfl⟩,hg'⟩:=hstep w (ConcN.RW.refl w)
    exact idle hgo (.k1 hg') rfl
  | d1 h=>
   rcases Goes.cases h with hstop|⟨m',rfl,hstep⟩
   ·obtain⟨_,hall⟩:=hstop w (ConcN.RW.refl w);have hc1:cnt (D i)=1:=by simp[cnt,hst]
    have hV1:1<=Vc j D:=by have:=le_sumTo (f:=λx=>cnt (D x)) hi;simp only[Vc];omega
    have bk2:∀e∈#[rd (stA Z.Wg),wr (stA Z.Wg)],Bk Z.Wg e:=by intro e he;simp at he;rcases he with rfl|rfl<;>exact bk_cell _ _ rfl
    have df2:∀jx e,(#[rd (stA Z.Wg),wr (stA Z.Wg)]:Array Event)[jx]?=some e->(MemAct.ofEvent e).touch?=none\/0<deafBehind 1 ((#[rd (stA Z.Wg),wr (stA Z.Wg)]:Array Event).extract 0 jx):=by
     intro jx e he
     match jx,he with
     | 0,_=>exact .inr (by simp[deafBehind])
     | 1,_=>exact .inr (by simp[deafBehind,rd])
     | jx+2,he=>simp at he
    have hq0:cnt (⟨1,0,1⟩:WD)=0:=rfl;have opq:OpenSt j D->OpenSt j (upd D i ⟨1,0,1⟩):=λh a ha=>by
     by_cases e:a=i
     ·subst e;rw[upd_same];simp
     ·rw[upd_ne D _ e];exact h a ha
    have hvu:=Vc_upd D (⟨1,0,1⟩:WD) hi
    cases hmode with
    | opn h1 h2 h3=>
     obtain⟨v,hv⟩:∃v,Vc j D+pend tag=v+1:=⟨Vc j D+pend tag - 1,by omega⟩;rw[hv] at hwg;have hw1:WgAt Z.ty Z.Wg w (((v:Nat)+1)*KK+((0:Nat):Int)) 0:=by simpa using hwg
     obtain⟨g',hgo,_,hq⟩:=hall v 0 (by omega) (by omega) hw1;obtain⟨q',hq⟩:=hq (by omega);have hv':Vc j (upd D i ⟨1,0,1⟩)+pend tag=v:=by omega
     refine book hgo (aside_setCell w (stA Z.Wg) _) (hwg.setSt _) bk2 df2 (.rest 1 q' 1 _ _ (by omega) (.quit hq) (uD _)) rfl (by omega) ?_ (.inl ⟨by omega,by simp[cnt]⟩);have e:((v:Nat):Int)*KK+((0:Nat):Int)=((Vc j (upd D i ⟨1,0,1⟩)+pend tag:Nat):Int)*KK:=by rw[hv'];simp
     rw[e]
     exact .opn h1 (opq h2) (λvs ev=>by have:=h3 vs ev;omega)
    | reg h1 h2 h3=>
     obtain⟨v,hv⟩:∃v,Vc j D=v+1:=⟨Vc j D - 1,by omega⟩;rw[hv] at hwg;have hp:pend tag=0:=by cases tag<;>first|rfl|exact h1.elim
     have hw1:WgAt Z.ty Z.Wg w (((v:Nat)+1)*KK+((1:Nat):Int)) 0:=by simpa using hwg
     obtain⟨g',hgo,hlast,hq⟩:=hall v 1 (by omega) (by omega) hw1;by_cases hv0:v=0
     ·subst hv0;obtain⟨m₂,hk⟩:=hlast ⟨rfl,rfl⟩;refine book hgo (aside_setCell w (stA Z.Wg) _) (hwg.setSt _) bk2 df2 (.rest 4 m₂ 1 _ _ (by omega) (.d2 hk) (uD _)) rfl (by omega) ?_ (.inl ⟨by omega,by simp[cnt]⟩);have hoth:∀a,a<j->a≠i->(D a).stage=1:=λa ha e=>by
       have c0:=others_uncounted hi hv hc1 a ha e;have:=h2 a ha;simp only[cnt] at c0;split at c0<;>omega
      have:=ConcN.Mode.last (j:=j) (D:=upd D i ⟨4,0,1⟩) (tag:=tag) i h1 hi (by rw[upd_same];simp) (λa ha e=>by rw[upd_ne D _ e];exact hoth a ha e);rw[upd_same] at this;simpa using this
     ·obtain⟨q',hq⟩:=hq (by omega);have hv':Vc j (upd D i ⟨1,0,1⟩)=v:=by omega
      refine book hgo (aside_setCell w (stA Z.Wg) _) (hwg.setSt _) bk2 df2 (.rest 1 q' 1 _ _ (by omega) (.quit hq) (uD _)) rfl (by omega) ?_ (.inl ⟨by omega,by simp[cnt]⟩);have e:((v:Nat):Int)*KK+((1:Nat):Int)=((Vc j (upd D i ⟨1,0,1⟩):Nat):Int)*KK+1:=by rw[hv'];simp
      rw[e]
      exact .reg h1 (opq h2) (by omega)
    | last L _ h2 h3 h4=>
     by_cases e:i=L
     ·subst e;omega
     ·have:=h4 i hi e;omega
    | sema h2=>have:=h2 i hi;omega
    | fin _ h2=>have:=h2 i hi;omega
   ·obtain⟨g',w',es,hgo,⟨rfl,rfl⟩,hg'⟩:=hstep w (ConcN.RW.refl w)
    exact idle hgo (.d1 hg') rfl
  | d2 h=>
   rcases Goes.cases h with hstop|⟨m',rfl,hstep⟩
   ·obtain⟨_,hx⟩:=hstop w (ConcN.RW.refl w);obtain⟨hW3,hoth,rfl,rfl⟩:=hmode.isLast hi (by omega);simp only[hst] at hwg;obtain⟨g',hgo,m₂,hk⟩:=hx (by simpa using hwg);refine book hgo (.refl Z.Wg w) hwg (by intro e he;simp at he;subst he;exact bk_cell _ _ rfl) (by intro jx e he;match jx,he with|0,_=>exact .inr (by simp[deafBehind])|jx+1,he=>simp at he) (.rest 3 m₂ 1 _ _ (by omega) (.d3 hk) hres) rfl (by omega) ?_ (.inl ⟨by omega,by simp[cnt]⟩);have:=ConcN.Mode.last (j:=j) (D:=upd D i ⟨3,0,1⟩) (tag:=tag) i hW3 hi (by rw[upd_same];simp) (λa ha e=>by rw[upd_ne D _ e];exact hoth a ha e);rw[upd_same] at this;simpa using this
   ·obtain⟨g',w',es,hgo,⟨rfl,rfl⟩,hg'⟩:=hstep w (ConcN.RW.refl w)
    exact idle hgo (.d2 hg') rfl
  | d3 h=>
   rcases Goes.cases h with hstop|⟨m',rfl,hstep⟩
   ·obtain⟨_,hx⟩:=hstop w (ConcN.RW.refl w);obtain⟨hW3,hoth,rfl,rfl⟩:=hmode.isLast hi (by omega);simp only[hst] at hwg;obtain⟨g',hgo,m₂,hk⟩:=hx (by simpa using hwg);refine book hgo (aside_setCell w (stA Z.Wg) _) (hwg.setSt 0) (by intro e he;simp at he;subst he;exact bk_cell _ _ rfl) (by intro jx e he;match jx,he with|0,_=>exact .inr (by simp[deafBehind])|jx+1,he=>simp at he) (.rest 2 m₂ 1 _ _ (by omega) (.d4 hk) (uD _)) rfl (by omega) ?_ (.inl ⟨by omega,by simp[cnt]⟩);have:=ConcN.Mode.last (j:=j) (D:=upd D i ⟨2,0,1⟩) (tag:=tag) i hW3 hi (by rw[upd_same];simp) (λa ha e=>by rw[upd_ne D _ e];exact hoth a ha e);rw[upd_same] at this;simpa using this
   ·obtain⟨g',w',es,hgo,⟨rfl,rfl⟩,hg'⟩:=hstep w (ConcN.RW.refl w)
    exact idle hgo (.d3 hg') rfl
  | d4 h=>
   rcases Goes.cases h with hstop|⟨m',rfl,hstep⟩
   ·obtain⟨_,hmw,hx⟩:=hstop w (ConcN.RW.refl w);obtain⟨hW3,hoth,rfl,rfl⟩:=hmode.isLast hi (by omega);simp only[hst] at hwg;obtain⟨g',hgo,q',hq⟩:=hx (by simpa using hwg);have hrun':g'.status=.running:=by
     cases q' with
     | zero=>exact absurd hq.2 (by decide)
     | succ q'=>exact hq.elim (λx=>absurd x.2 (by decide)) (λx=>x.1)
    refine bookG hgo (aside_setCell w (smA Z.Wg) _) (hwg.setSm 1) (es:=semEvents (smA Z.Wg)) ConcN.bk_sem ?_ (.rest 1 q' 1 _ _ (by omega) (.quit hq) (Ll _)) (by simp[deafBehind,semEvents]) (by omega) ?_ (.inl ⟨by omega,by simp[cnt]⟩)
    ·intro jx e he
     match jx,he with
     | 0,he=>simp[semEvents] at he;subst he;exact .inl rfl
     | 1,_=>exact .inr (by simp[deafBehind,semEvents])
     | 2,_=>exact .inr (by simp[deafBehind,semEvents])
     | 3,he=>simp[semEvents] at he;subst he;exact .inl rfl
     | jx+4,he=>simp[semEvents] at he
    ·intro tag' ht hw;have hnb:=hw hmw hrun';have e3:tag'=.w3:=by
      rcases ht with rfl|⟨_,rfl⟩
      ·cases tag'<;>first|rfl|exact hW3.elim|exact absurd rfl hnb
      ·rfl
     subst e3;simp only[if_true];exact .sema λa ha=>by
      by_cases e:a=i
      ·subst e;rw[upd_same]
      ·rw[upd_ne D _ e];exact hoth a ha e
   ·obtain⟨g',w',es,hgo,⟨rfl,rfl⟩,hg'⟩:=hstep w (ConcN.RW.refl w)
    exact idle hgo (.d4 hg') rfl
  | quit h=>
   cases m with
   | zero=>rw[h.1] at hrun;cases hrun
   | succ q'=>
    rcases h with⟨hf,_⟩|⟨_,g',es,hmute,hstep,hq⟩
    ·rw[hf] at hrun;cases hrun
    ·have hbk:∀e∈es,Bk Z.Wg e:=λe he=>bk_of_mute (hmute e he);have hno:∀jx e,es[jx]?=some e->(MemAct.ofEvent e).touch?=none\/0<deafBehind dd (es.extract 0 jx):=λjx e he=>.inl (touch_mute (hmute e (Array.mem_of_getElem? he)));exact book (hstep w) (.refl Z.Wg w) hwg hbk hno (.rest 1 q' _ _ _ (by omega) (.quit hq) hres) rfl (by omega) (by have:=bw (i:=i) hmode (deafBehind dd es);rwa [hst] at this) (.inr ⟨rfl,uL q'⟩)
end
section
open Go.Conc
open Go.ConcR (KK wgBlock WgAt stA smA rd wr mk DC0 Bk g_of_ofEvents bk_of_mute ofEvent_loc_mark ofEvent_mk)
open Go.ConcN (WgLive ShN WD CTag sumTo upd upd_same upd_ne cnt Vc Ssum pend isOpen isW3 isFin phi deafBehind_idle bk_cell Vc_upd OpenSt AllQuit others_uncounted Vc_le le_sumTo bk_dis bk_en bk_rd bk_rw bk_sem allQuit_of sumTo_upd_out exists_counted Deaf_absent get_map_set get_map_set_same)
variable[Go.ConcR.Payload]{Z:Pz}{Cont AnchW:Goroutine->World->Prop}{t0:Trace}{B0:Nat}{w0:World}
variable{gs:Array Goroutine}{w w':World}{sl:Option (Nat×Nat)}{j:Nat}{t:Trace}{D:Nat->WD}{O:Nat->Nat->Prop}{bx:Nat->Nat}{T:Nat->Tr}{q:Nat->Nat}{tag:CTag}{T0:Tr}{d0:Nat}{x:Option Nat}{a:Goroutine}{st sm:Int}
def Done(Z:Pz)(Cont:Goroutine->World->Prop)(w0:World)(m:Machine)(t:Trace):Prop:=
 ∃(gs:Array Goroutine)(w:World)(sl:Option (Nat×Nat))(q:Nat->Nat)(g:Goroutine)(O:Nat->Nat->Prop)(bx:Nat->Nat),
  m=crowd gs w sl/\gs.size=Z.c+Z.n/\gs[0]?=some g/\g.status=.running/\Cont g w/\Leavers Z.P t gs q/\Past (λl=>Shun Z l\/ShN Z.Wg l) w.heap.size t/\
   (∀b,Z.lN b\/Z.wS b->w.heap[b]?=w0.heap[b]?)/\(∀i,i<Z.n->Z.kG i (bx i) (O i) w)/\(∀i b,O i b->Z.L0<=b/\b<w.heap.size)/\(∀i k b,O i b->O k b->i=k)/\kY Z w/\kS Z w/\Z.L0<=w.heap.size/\w.tape=w0.tape/\w.os=w0.os/\w.output=w0.output/\
   (∀(i:Nat)(op:MemOp),t[i]?=some op->op.g<Z.c+Z.n)
theorem UB{B:Nat}{es:Array Event}(hZ:jY Z)(hB:Z.L0<=B)(hes:∀e∈es,Ev0 Z x B e):∀e∈es,(MemAct.ofEvent e).low B:=λe he=>by
 have h:=hes e he;obtain⟨loc,wr,sy⟩:=e;unfold Ev0 at h
 cases loc with
 | cell a=>exact h.1
 | obj r=>
  obtain⟨h1,h2,_⟩:=h;dsimp only at h2;subst h2
  cases wr<;>exact h1
 | mark m=>
  dsimp only at h;rcases h with h|⟨a,hm,hb⟩
  ·cases m<;>first|exact(h:False).elim|trivial
  ·have hW:=hZ.W0
   rcases hm with rfl|rfl<;>(show a.block<B;omega)
 | _=>exact(h:False).elim
theorem c0P{B:Nat}{es:Array Event}(hes:∀e∈es,Ev0 Z x B e):∀e∈es,e.loc≠.mark .disable/\e.loc≠.mark .enable/\e.loc≠.mark (.release (stA Z.Wg)):=λe he=>by
 have h:=hes e he;obtain⟨loc,wr,sy⟩:=e;unfold Ev0 at h
 cases loc with
 | mark m=>
  dsimp only at h;rcases h with h|⟨a,hm,hb⟩
  ·cases m<;>first|exact(h:False).elim|(refine⟨?_,?_,?_⟩<;>simp)
  ·rcases hm with rfl|rfl<;>(refine⟨?_,?_,?_⟩<;>simp)
 | cell a=>exact⟨by simp,by simp,by simp⟩
 | obj r=>exact⟨by simp,by simp,by simp⟩
 | _=>exact(h:False).elim
abbrev KJ(Z:Pz)(Cont AnchW:Goroutine->World->Prop)(t0:Trace)(w0:World)(gs:Array Goroutine)(w:World)(sl:Option (Nat×Nat))(t:Trace)(μ:Mu)(i:Nat):Prop:=
 ∃m₁ ops μ',runT Z.P (crowd gs w sl) i=(.next m₁,ops)/\qJ Z.n μ' μ/\Inv Z Cont AnchW t0 w0 μ' m₁ (t++ops)
theorem idleC(hZ:jY Z)(ha:gs[0]?=some a)(hcom:Com Z t0 w0 j gs w t D O bx T q d0 x)(hwg:WgAt Z.ty Z.Wg w st sm)(hmode:ConcN.Mode j D tag st sm){a':Goroutine}{es:Array Event}{x':Option Nat}{qM:Tr}
 (hgo:stepG Z.P true a w=.go a' w' es)(hD:D0 Z x x' w w' es)(hcs':CS Z Cont AnchW tag j qM d0 x' a' w')(hf:qc qM T0):
 KJ Z Cont AnchW t0 w0 gs w sl t ⟨phi Z.n (Vc j D) tag+Ssum j D+sumTo Z.c q,T,T0,nJ tag⟩ 0:=by
 have hmk:=c0P hD.ev;have hdf:deafBehind d0 es=d0:=deafBehind_idle (λe he=>⟨(hmk e he).1,(hmk e he).2.1⟩) d0;have hg':=ud hZ hcom.geo hD;exact callerStep hZ ha hcom hgo (λk _=>b46 hZ hcom.geo hD k) (λb hb=>CV hZ hcom.geo hD (hb.elim (λh=>(hZ.iP b h).1) λh=>(hZ.sh b h).1)) hD.size hg' (vx hZ hcom.geo hD) (λe he=>(hmk e he).2.2)
  (kY.of (CV hZ hcom.geo hD hZ.A0) hcom.al) (kS.of (CV hZ hcom.geo hD hZ.C0) hcom.cb) (UB hZ hg'.size hD.ev) ⟨hD.tape,hD.os,hD.output⟩ (by rw[hdf];exact hcs') (hwg.of_block (CV hZ hcom.geo hD hZ.W0)) hmode (.inr ⟨rfl,.inl hf⟩)
theorem bookC(hZ:jY Z)(ha:gs[0]?=some a)(hcom:Com Z t0 w0 j gs w t D O bx T q d0 x){a':Goroutine}{es:Array Event}{tag':CTag}{qM:Tr}{st' sm':Int}
 (hgo:stepG Z.P true a w=.go a' w' es)(hAs:Conc.Aside Z.Wg w w')(hwg':WgAt Z.ty Z.Wg w' st' sm')(hbk:∀e∈es,Bk Z.Wg e)(hcs':CS Z Cont AnchW tag' j qM (deafBehind d0 es) x a' w')
 (hmode':ConcN.Mode j D tag' st' sm')(hlt:phi Z.n (Vc j D) tag'<phi Z.n (Vc j D) tag\/(phi Z.n (Vc j D) tag'=phi Z.n (Vc j D) tag/\(qc qM T0\/(qM=T0/\nJ tag'<nJ tag)))):
 KJ Z Cont AnchW t0 w0 gs w sl t ⟨phi Z.n (Vc j D) tag+Ssum j D+sumTo Z.c q,T,T0,nJ tag⟩ 0:=by
 have hl:WgLive Z.ty Z.Wg w':=⟨_,_,hwg'⟩;exact callerStep hZ ha hcom hgo (λk _=>bA hZ hcom.geo hAs hl k) (λb hb=>hAs.block b (hb.elim (λh=>(hZ.iP b h).2.1) λh=>(hZ.sh b h).2.1)) (dS hAs.size.symm) (ux hZ hcom.geo hAs hl) (Eg hbk) (ConcN.norel_of_Bk hbk)
  (kY.of (hAs.block _ (bP hZ.WA)) hcom.al) (kS.of (hAs.block _ (bP hZ.WC)) hcom.cb) (tW hZ (by rw[hAs.size];exact hcom.geo.size) hbk) ⟨hAs.tape,hAs.os,hAs.output⟩ hcs' hwg' hmode' hlt
theorem w1Step(hZ:jY Z)(hn:Z.n<2147483648)(ha:gs[0]?=some a)(hcom:Com Z t0 w0 Z.n gs w t D O bx T q 1 x)(hwg:WgAt Z.ty Z.Wg w st sm)(hmode:ConcN.Mode Z.n D .w1 st sm)(h:W0 Z (AtW1 Z Cont AnchW) T0 x a w):
 KJ Z Cont AnchW t0 w0 gs w sl t ⟨phi Z.n (Vc Z.n D) .w1+Ssum Z.n D+sumTo Z.c q,T,T0,0⟩ 0:=by
 rcases Wk.cases h with hstop|hstep
 ·obtain⟨_,hall⟩:=hstop w (R0.refl Z x w);obtain⟨ho,rfl,rfl,_⟩:=hmode.open_inv trivial;have hV:=Vc_le Z.n D;obtain⟨a',hgo,h0,hne⟩:=hall (Vc Z.n D) (by omega) (by simpa [pend] using hwg);by_cases hv:Vc Z.n D=0
  ·obtain⟨T2,hk⟩:=h0 hv;refine bookC hZ ha hcom hgo (.refl Z.Wg w) hwg bk_rd (tag':=.ke) (.ke hk) ?_ (.inl (by simp only[phi];omega));have e:((Vc Z.n D+pend .w1:Nat):Int)*KK=0:=by rw[hv];simp[pend]
   rw[e];exact .fin trivial (allQuit_of ho hv)
  ·obtain⟨T2,hk⟩:=hne hv;exact bookC hZ ha hcom hgo (.refl Z.Wg w) hwg bk_rd (tag':=.w2 (Vc Z.n D)) (.w2 hk) (hmode.reopen trivial trivial rfl (λvs e=>by cases e;omega)) (.inl (by simp only[phi];omega))
 ·obtain⟨T',a',w',es,x',hlt,hgo,hD,hg'⟩:=hstep w (R0.refl Z x w);exact idleC hZ ha hcom hwg hmode hgo hD (.w1 hg') hlt
theorem b79(hZ:jY Z){r:Nat}(hr:r<Z.n)(ha:gs[0]?=some a)(hcom:Com Z t0 w0 (Z.n - (r+1)) gs w t D O bx T q 0 x)(hwg:WgAt Z.ty Z.Wg w st sm)(hmode:ConcN.Mode (Z.n - (r+1)) D (.sp r 2) st sm)
 (h:AtGoS Z (Z.n - (r+1)) (Spawns Z (Fin Z AnchW) r) x a w):
 KJ Z Cont AnchW t0 w0 gs w sl t ⟨phi Z.n (Vc (Z.n - (r+1)) D) (.sp r 2)+Ssum (Z.n - (r+1)) D+sumTo Z.c q,T,T0,nJ (.sp r 2)⟩ 0:=by
 obtain⟨_,b,a',child,rfl,hsp,hcr,hwk0,hnext⟩:=h;obtain⟨Tc,hwk⟩:=hwk0 hcom.al hcom.cb ⟨_,_,hwg⟩;obtain⟨ho,rfl,rfl,_⟩:=hmode.open_inv trivial;have hc:=hZ.c;have mV:=hcom.geo;generalize hj:Z.n - (r+1)=j at *;have ej:j+1=Z.n - r:=by omega
 have hrun':=runT_crowd_spawn (P:=Z.P) (sl:=sl) (i:=0) ha (by simpa using hsp);rw[hcom.size] at hrun'
 let X:MemOp:={g:=0,fn:=a.frame.fn,pos:=a.frame.place,act:=.go (Z.c+j)}
 let Y:MemOp:={g:=Z.c+j,fn:=child.frame.fn,pos:=a.frame.place,act:=.start}
 have YB:((MemOp.ofEvents 0 a.frame.fn a.frame.place #[]).push X).push Y=#[X,Y]:=rfl;rw[YB] at hrun';have hm:∀op∈#[X,Y],op=X\/op=Y:=by intro op hop;simpa using hop
 have hst:∀op∈#[X,Y],op.act≠.mark .disable/\op.act≠.mark .enable:=by
  intro op hop;rcases hm op hop with rfl|rfl<;>exact⟨by simp[X,Y],by simp[X,Y]⟩
 have hg1:Geo Z (j+1) w O (upd bx j b) none:=by
  obtain⟨x1,x2,x3⟩:=mV.xl b rfl;refine⟨mV.size,mV.lt,mV.dj,λi b' hi=>mV.out i b' (by omega),λi k b' hb=>?_,λi b' _=>by simp,λk=>?_,λb' hb=>by cases hb⟩
  ·by_cases e:k=j
   ·subst e;rw[upd_same];intro e';exact mV.cur i b' hb (by rw[e'])
   ·rw[upd_ne bx _ e];exact mV.nb i k b' hb
  ·by_cases e:k=j
   ·subst e;rw[upd_same];exact .inr ⟨by omega,x1,x2⟩
   ·rw[upd_ne bx _ e];exact(mV.wZ k).imp id λy=>⟨by omega,y.2⟩
 have XQ:CT Z.c (u_ Z) (wC Z) (yY Z O) (vg Z (upd bx j b)) t j:=by
  have e:∀i,i<j->vg Z (upd bx j b) i=vg Z bx i:=λi hi=>by
   funext l
   cases l<;>simp only[vg,upd_ne bx b (show i≠j by omega)]
  exact⟨hcom.ct.quiet,hcom.ct.own,λi hi l hl=>hcom.ct.rd i hi l (by rw[<-e i hi];exact hl),λl hs ho hl=>hcom.ct.free l hs ho λi hi=>⟨(hl i hi).1,by rw[<-e i hi];exact(hl i hi).2⟩,hcom.ct.mine,hcom.ct.nr,hcom.ct.gs⟩
 have XP:CT Z.c (u_ Z) (wC Z) (yY Z O) (vg Z (upd bx j b)) (t++#[X,Y]) (j+1):=XQ.fork hc (hg1.apart hZ) ⟨rfl,rfl⟩ ⟨rfl,rfl⟩ hcom.deaf0;have hsize:((gs.setIfInBounds 0 a').push child).size=Z.c+(j+1):=by simp[hcom.size];omega
 have hcom':Com Z t0 w0 (j+1) ((gs.setIfInBounds 0 a').push child) w (t++#[X,Y]) (upd D j ⟨7,0,0⟩) O (upd bx j b) (upd T j Tc) q 0 none:=by
  refine⟨hsize,λi y hi hic hy=>?_,λi hi=>?_,hg1,XP,hcom.norel.app λop hop=>?_,by rw[ConcN.Deaf_still t 0 _ hst,hcom.deaf0],λi hi=>?_,λi hi hs=>?_,hcom.elder,hcom.al,hcom.cb,Qp hcom.low (aj _) λop hop=>?_,?_,hcom.env⟩
  ·rw[gG (by simp[hcom.size];omega),<-bK,aK (by omega)] at hy;rw[ConcN.Deaf_still t i _ hst];exact hcom.old i y hi hic hy
  ·rcases aX i j with hlt|hge
   ·obtain⟨g,hg,hsg⟩:=hcom.wk i hlt;refine⟨g,?_,by rw[upd_ne D _ (by omega),upd_ne T _ (by omega),upd_ne bx _ (by omega)];exact hsg⟩;rw[gG (by simp[hcom.size];omega),<-bK,aK (by omega)];exact hg
   ·obtain rfl:i=j:=by omega
    refine⟨child,?_,?_⟩
    ·rw[show Z.c+i=(gs.setIfInBounds 0 a').size by simp[hcom.size],iC]
    ·rw[upd_same,upd_same,upd_same];have eO:O i=λ_=>False:=by funext b';exact propext ⟨λhb=>mV.out i b' (aj _) hb,False.elim⟩
     rw[eO];exact .work Tc child w hwk
  ·rcases hm op hop with rfl|rfl<;>simp[X,Y]
  ·rw[ConcN.Deaf_still t _ _ hst];rcases aX i j with hlt|hge
   ·rw[hcom.deafW i hlt,upd_ne D _ (by omega)]
   ·obtain rfl:i=j:=by omega
    rw[upd_same];exact Deaf_absent λk op hk e=>by have:=hcom.ct.gs k op hk;omega
  ·rcases aX i j with hlt|hge
   ·rw[upd_ne D _ (by omega)] at hs;obtain⟨r,hr⟩:=hcom.rel i hlt hs;exact⟨r,hr.appNot λop hop=>by rcases hm op hop with rfl|rfl<;>simp[X,Y]<;>omega⟩
   ·obtain rfl:i=j:=by omega
    rw[upd_same] at hs;simp at hs
  ·rcases hm op hop with rfl|rfl<;>trivial
  ·obtain⟨u,rfl,hu⟩:=hcom.sfx;refine⟨u++#[X,Y],gU,λop hop=>?_⟩;rcases dh.1 hop with h|h
   ·exact(hu op h).imp id (Or.imp id λ⟨i,hi,e⟩=>⟨i,by omega,e⟩)
   ·rcases hm op h with rfl|rfl
    ·exact .inl rfl
    ·exact .inr (.inl rfl)
 have eV:Vc (j+1) (upd D j ⟨7,0,0⟩)=Vc j D+1:=by
  simp only[Vc,sumTo,upd_same];rw[sumTo_upd_out D _ cnt (aj _)];rfl
 have eS:Ssum (j+1) (upd D j ⟨7,0,0⟩)=Ssum j D+7:=by
  simp only[Ssum,sumTo,upd_same];rw[sumTo_upd_out D _ WD.stage (aj _)]
 have ho':OpenSt (j+1) (upd D j ⟨7,0,0⟩):=λi hi=>by
  by_cases e:i=j
  ·subst e;rw[upd_same];simp
  ·rw[upd_ne D _ e];exact ho i (by omega)
 have ha':((gs.setIfInBounds 0 a').push child)[0]?=some a':=by
  rw[gG (by simp[hcom.size];omega),<-bK,bT (by rw[hcom.size];omega)]
 rw[ej] at hcom' eV eS ho';have est:∀tag',pend tag'=0->((Vc j D+pend (.sp r 2):Nat):Int)*KK=((Vc (Z.n - r) (upd D j ⟨7,0,0⟩)+pend tag':Nat):Int)*KK:=λtag' hp=>by rw[eV,hp];simp[pend]
 cases r with
 | zero=>
  obtain⟨-,T3,hk⟩:=hnext;simp only[Nat.sub_zero] at hcom' eV eS ho' est;refine⟨_,_,⟨phi Z.n (Vc Z.n (upd D j ⟨7,0,0⟩)) .kd+Ssum Z.n (upd D j ⟨7,0,0⟩)+sumTo Z.c q,upd T j Tc,T3,nJ .kd⟩,hrun',.stage _ _ (by simp only[phi];omega),
   _,w,sl,Z.n,_,O,_,_,q,.kd,T3,0,none,a',_,_,rfl,ha',.kd hk,hcom',hwg,?_,rfl⟩
  rw[est .kd rfl]
  exact .opn trivial ho' (by simp)
 | succ r'=>
  obtain⟨T3,hk⟩:=hnext;refine⟨_,_,⟨phi Z.n (Vc (Z.n - (r'+1)) (upd D j ⟨7,0,0⟩)) (.sp r' 5)+Ssum (Z.n - (r'+1)) (upd D j ⟨7,0,0⟩)+sumTo Z.c q,upd T j Tc,T3,nJ (.sp r' 5)⟩,hrun',.stage _ _ (by simp only[phi];omega),
   _,w,sl,Z.n - (r'+1),_,O,_,_,q,.sp r' 5,T3,0,none,a',_,_,rfl,ha',.skd (by omega) hk,hcom',hwg,?_,rfl⟩
  rw[est (.sp r' 5) rfl];exact .opn trivial ho' (by simp)
theorem b49{s m d:Nat}{g:Goroutine}(h:ConcN.WSit Z.P Z.ty Z.Wg Z.e0 Z.n JI JI 0 1 Z.v0 s m d g w)(hs:s=1):QuitsD Z.P m d g:=by
 cases h<;>first|(exact absurd hs (by decide))|assumption
theorem Up(hZ:jY Z)(hp:Past (Shun Z) B0 t0)(hB:B0<=Z.L0)(ha:gs[0]?=some a)(hcom:Com Z t0 w0 Z.n gs w t D O bx T q 0 x)(hwg:WgAt Z.ty Z.Wg w st sm)(hmode:ConcN.Mode Z.n D .acq st sm)(h:AtAcq Z Cont x a w):
 ∃m₁ ops,runT Z.P (crowd gs w sl) 0=(.next m₁,ops)/\Done Z Cont w0 m₁ (t++ops):=by
 obtain⟨_,g',hgo,hgr,hcont⟩:=h;obtain⟨hall,rfl,rfl⟩:=hmode.fin_inv trivial;have hc:=hZ.c;have hrun:=runT_crowd_go (P:=Z.P) (sl:=sl) (i:=0) ha (by simpa using hgo);have e1:MemOp.ofEvents 0 a.frame.fn a.frame.place #[mk (.acquire (stA Z.Wg))]=#[{g:=0,fn:=a.frame.fn,pos:=a.frame.place,act:=.mark (.acquire (stA Z.Wg))}]:=by rw[ofEvents_eq];simp[ofEvent_mk]
 have hlast:(t++MemOp.ofEvents 0 a.frame.fn a.frame.place #[mk (.acquire (stA Z.Wg))])[t.size]?=some {g:=0,fn:=a.frame.fn,pos:=a.frame.place,act:=.mark (.acquire (stA Z.Wg))}:=by rw[e1];simp
 have hop:∀op∈MemOp.ofEvents 0 a.frame.fn a.frame.place #[mk (.acquire (stA Z.Wg))],op={g:=0,fn:=a.frame.fn,pos:=a.frame.place,act:=.mark (.acquire (stA Z.Wg))}:=λop h=>by rw[e1] at h;simpa using h
 have hsz:((gs.map (woken Z.P a g' w)).setIfInBounds 0 g').size=Z.c+Z.n:=by simp[hcom.size]
 have hd0:Deaf (t++MemOp.ofEvents 0 a.frame.fn a.frame.place #[mk (.acquire (stA Z.Wg))]) 0=0:=by rw[Deaf_own,hcom.deaf0];rfl
 have hct:CT Z.c (u_ Z) (wC Z) (yY Z O) (vg Z bx) (t++MemOp.ofEvents 0 a.frame.fn a.frame.place #[mk (.acquire (stA Z.Wg))]) Z.n:=hcom.ct.app0 hc (hcom.geo.apart hZ) λop h=>by
  rw[hop op h];exact⟨rfl,λy hy=>by cases hy⟩
 have hnr:NoRelease (stA Z.Wg) (t++MemOp.ofEvents 0 a.frame.fn a.frame.place #[mk (.acquire (stA Z.Wg))]):=hcom.norel.app λop h=>by rw[hop op h];simp
 have hlow:∀op∈t++MemOp.ofEvents 0 a.frame.fn a.frame.place #[mk (.acquire (stA Z.Wg))],op.act.low w.heap.size:=Qp hcom.low (aj _) λop h=>by
  rw[hop op h];show Z.Wg<_;have:=hZ.W0;have:=hcom.geo.size;omega
 have hrel:∀i,i<Z.n->∃r,Rel Z.Wg (t++MemOp.ofEvents 0 a.frame.fn a.frame.place #[mk (.acquire (stA Z.Wg))]) (Z.c+i) r/\r<t.size:=λi hi=>by
  obtain⟨r,hr⟩:=hcom.rel i hi (by rw[hall i hi];omega);exact⟨r,hr.appNot λop h=>by rw[hop op h];show 0≠_;omega,lt_of_act? hr.act⟩
 have hq:(t++MemOp.ofEvents 0 a.frame.fn a.frame.place #[mk (.acquire (stA Z.Wg))]).act? t.size=some (.mark (.acquire (stA Z.Wg))):=act?_of hlast;have hg:(t++MemOp.ofEvents 0 a.frame.fn a.frame.place #[mk (.acquire (stA Z.Wg))]).g? t.size=some 0:=by simp[Trace.g?,hlast]
 have hh:(t++MemOp.ofEvents 0 a.frame.fn a.frame.place #[mk (.acquire (stA Z.Wg))]).heard t.size:=⟨0,hg,by rw[deaf_old (aj _)];exact hcom.deaf0⟩;have hwk:∀i,i<Z.n->∃g m,gs[Z.c+i]?=some g/\QuitsD Z.P m (D i).deaf g/\Z.kG i (bx i) (O i) w:=λi hi=>by
  obtain⟨g,hg,hs⟩:=hcom.wk i hi;have h1:=hall i hi;generalize (D i).stage=s at hs h1;generalize T i=Ti at hs;generalize (D i).deaf=dd at hs;subst h1
  cases hs with
  | rest s m d g w _ h hres=>exact⟨g,m,hg,b49 h rfl,hres⟩
 have hwq:∀k,Z.c<=k->k<Z.c+Z.n->∃m,∀g,gs[k]?=some g->QuitsD Z.P m (Deaf t k) g:=λk h1 h2=>by
  obtain⟨g,m,h3,h4,-⟩:=hwk (k - Z.c) (by omega);have e2:Z.c+(k - Z.c)=k:=by omega
  have h5:=hcom.deafW (k - Z.c) (by omega);rw[e2] at h3 h5;exact⟨m,λz hz=>by rw[h3] at hz;injection hz with hz;rw[<-hz,h5];exact h4⟩
 classical
 let q':Nat->Nat:=λk=>if k<Z.c then q k else if h:Z.c<=k/\k<Z.c+Z.n then Classical.choose (hwq k h.1 h.2) else 0
 refine⟨_,_,hrun,(gs.map (woken Z.P a g' w)).setIfInBounds 0 g',w,sl,q',g',O,bx,rfl,hsz,get_map_set_same _ _ _ (by rw[hcom.size];omega),hgr,hcont,⟨λi y hi hy=>?_,λk hk=>?_⟩,?_,hcom.elder,λi hi=>?_,hcom.geo.lt,hcom.geo.dj,hcom.al,hcom.cb,hcom.geo.size,hcom.env.1,hcom.env.2.1,hcom.env.2.2,hct.gs⟩
 ·rw[get_map_set _ _ _ _ (by omega)] at hy;obtain⟨z,hz,rfl⟩:=aS.1 hy;have hde:Deaf (t++MemOp.ofEvents 0 a.frame.fn a.frame.place #[mk (.acquire (stA Z.Wg))]) i=Deaf t i:=Deaf_other _ (by omega) _ g_of_ofEvents;rw[hde];by_cases hic:i<Z.c
  ·have hq:=hcom.old i z hi hic hz;rw[woken_quitsD hq];simp only[q',if_pos hic];exact hq
  ·have hlt:Z.c<=i/\i<Z.c+Z.n:=by
    have:=(aN.1 hz).1;rw[hcom.size] at this;omega
   have h2:=fM (hwq i hlt.1 hlt.2) z hz;rw[woken_quitsD h2];simp only[q',if_neg hic,dif_pos hlt];exact h2
 ·rw[hsz] at hk;exact Deaf_absent λi op hi e=>by have:=hct.gs i op hi;omega
 ·obtain⟨u,rfl,hu⟩:=hcom.sfx;rw[gU] at *;refine c0H (c:=Z.c) (j:=Z.n) hp (ay hB hcom.geo.size) hct (λop h=>?_) hnr hq hg hh hrel hd0 λop h=>hlow op (by simp at h⊢;exact .inr h);rcases dh.1 h with h|h
  ·exact hu op h
  ·rw[hop op h];exact .inl rfl
 ·obtain⟨_,_,_,_,h⟩:=hwk i hi;exact h
theorem b8a{n:Nat}{a b c:Mu}(h:qJ n a b)(hs:b.S<c.S):qJ n a c:=by
 cases h with
 | stage h=>exact .stage _ _ (by omega)
 | worker h _=>exact .stage _ _ (by omega)
 | starter h _ _=>exact .stage _ _ (by omega)
 | blocks h _ _ _=>exact .stage _ _ (by omega)
theorem stepCaller(hZ:jY Z)(hp:Past (Shun Z) B0 t0)(hB:B0<=Z.L0)(hn:Z.n<2147483648)(hAn:∀x g w,AnchW g w->∃T,W0 Z (AtW1 Z Cont AnchW) T x g w)
 (ha:gs[0]?=some a)(hcs:CS Z Cont AnchW tag j T0 d0 x a w)(hcom:Com Z t0 w0 j gs w t D O bx T q d0 x)(hwg:WgAt Z.ty Z.Wg w st sm)(hmode:ConcN.Mode j D tag st sm)(hrun:a.status=.running):
 (∃m₁ ops,runT Z.P (crowd gs w sl) 0=(.next m₁,ops)/\Done Z Cont w0 m₁ (t++ops))\/KJ Z Cont AnchW t0 w0 gs w sl t ⟨phi Z.n (Vc j D) tag+Ssum j D+sumTo Z.c q,T,T0,nJ tag⟩ 0:=by
 have hVj:=Vc_le j D
 cases hcs with
 | skd hr h=>
  rcases Wk.cases h with hstop|hstep
  ·obtain⟨_,a',hgo,T2,hk⟩:=hstop w (R0.refl Z x w);exact .inr (bookC hZ ha hcom hgo (.refl Z.Wg w) hwg bk_dis (.sa1 hr hk) (hmode.reopen trivial trivial rfl (by simp)) (.inl (by simp only[phi];omega)))
  ·obtain⟨T',a',w',es,x',hlt,hgo,hD,hg'⟩:=hstep w (R0.refl Z x w)
   exact .inr (idleC hZ ha hcom hwg hmode hgo hD (.skd hr hg') hlt)
 | sa1 hr h=>
  rename_i r;rcases Wk.cases h with hstop|hstep
  ·obtain⟨_,hall⟩:=hstop w (R0.refl Z x w);obtain⟨ho,rfl,rfl,_⟩:=hmode.open_inv trivial;obtain⟨a',hgo,T2,hk⟩:=hall (Vc (Z.n - (r+1)) D) (by omega) (by simpa [pend] using hwg);refine .inr (bookC hZ ha hcom hgo (aside_setCell w (stA Z.Wg) _) (hwg.setSt _) bk_rw (.ske hr hk) ?_ (.inl (by simp only[phi];omega)));have e:(((Vc (Z.n - (r+1)) D:Nat):Int)+1)*KK=((Vc (Z.n - (r+1)) D+pend (.sp r 3):Nat):Int)*KK:=by simp[pend]
   rw[e];exact .opn trivial ho (by simp)
  ·obtain⟨T',a',w',es,x',hlt,hgo,hD,hg'⟩:=hstep w (R0.refl Z x w)
   exact .inr (idleC hZ ha hcom hwg hmode hgo hD (.sa1 hr hg') hlt)
 | ske hr h=>
  rcases Wk.cases h with hstop|hstep
  ·obtain⟨_,a',hgo,T2,hk⟩:=hstop w (R0.refl Z x w);exact .inr (bookC hZ ha hcom hgo (.refl Z.Wg w) hwg bk_en (.sgo hr hk) (hmode.reopen trivial trivial rfl (by simp)) (.inl (by simp only[phi];omega)))
  ·obtain⟨T',a',w',es,x',hlt,hgo,hD,hg'⟩:=hstep w (R0.refl Z x w)
   exact .inr (idleC hZ ha hcom hwg hmode hgo hD (.ske hr hg') hlt)
 | sgo hr h=>
  rcases Wk.cases h with hstop|hstep
  ·exact .inr (b79 hZ hr ha hcom hwg hmode (hstop w (R0.refl Z x w)))
  ·obtain⟨T',a',w',es,x',hlt,hgo,hD,hg'⟩:=hstep w (R0.refl Z x w)
   exact .inr (idleC hZ ha hcom hwg hmode hgo hD (.sgo hr hg') hlt)
 | kd h=>
  rcases Wk.cases h with hstop|hstep
  ·obtain⟨_,a',hgo,T2,hk⟩:=hstop w (R0.refl Z x w);exact .inr (bookC hZ ha hcom hgo (.refl Z.Wg w) hwg bk_dis (.anch hk) (hmode.reopen trivial trivial rfl (by simp)) (.inl (by simp only[phi];omega)))
  ·obtain⟨T',a',w',es,x',hlt,hgo,hD,hg'⟩:=hstep w (R0.refl Z x w)
   exact .inr (idleC hZ ha hcom hwg hmode hgo hD (.kd hg') hlt)
 | anch h=>
  rcases Wk.cases h with hstop|hstep
  ·obtain⟨T2,hk⟩:=hAn x a w (hstop w (R0.refl Z x w));obtain⟨m₁,ops,μ',h1,h2,h3⟩:=w1Step (sl:=sl) (q:=q) (T:=T) hZ hn ha hcom hwg (hmode.reopen trivial trivial rfl (by simp)) hk;exact .inr ⟨m₁,ops,μ',h1,b8a h2 (by simp only[phi];omega),h3⟩
  ·obtain⟨T',a',w',es,x',hlt,hgo,hD,hg'⟩:=hstep w (R0.refl Z x w)
   exact .inr (idleC hZ ha hcom hwg hmode hgo hD (.anch hg') hlt)
 | w1 h=>exact .inr (w1Step hZ hn ha hcom hwg hmode h)
 | w2 h=>
  rename_i vs;rcases Wk.cases h with hstop|hstep
  ·obtain⟨_,hall⟩:=hstop w (R0.refl Z x w);obtain⟨ho,rfl,rfl,hw2⟩:=hmode.open_inv trivial;obtain⟨hle,h1⟩:=hw2 vs rfl;obtain⟨hhit,hmiss⟩:=hall (Vc Z.n D) (by omega) (by simpa [pend] using hwg);by_cases e:Vc Z.n D=vs
   ·obtain⟨a',hgo,T2,hk⟩:=hhit e;exact .inr (bookC hZ ha hcom hgo (aside_setCell w (stA Z.Wg) _) (hwg.setSt _) bk_rw (.w3 hk) (.reg trivial ho (by omega)) (.inl (by simp only[phi];omega)))
   ·obtain⟨a',hgo,T2,hk⟩:=hmiss e;exact .inr (bookC hZ ha hcom hgo (.refl Z.Wg w) hwg bk_rd (.anch hk) (hmode.reopen trivial trivial rfl (by simp)) (.inl (by simp only[phi];omega)))
  ·obtain⟨T',a',w',es,x',hlt,hgo,hD,hg'⟩:=hstep w (R0.refl Z x w)
   exact .inr (idleC hZ ha hcom hwg hmode hgo hD (.w2 hg') hlt)
 | w3 h=>
  rcases Wk.cases h with hstop|hstep
  ·obtain⟨_,hoff,hblk,htake⟩:=hstop w (R0.refl Z x w)
   cases hmode with
   | opn h1 _ _=>exact h1.elim
   | reg h1 h2 h3=>exact .inr (bookC hZ ha hcom (hblk ⟨_,hwg⟩) (.refl Z.Wg w) hwg (by simp) (.blk (T:=T0) hstop) (.reg trivial h2 h3) (.inr ⟨rfl,.inr ⟨rfl,by simp[nJ]⟩⟩))
   | last L h1 h2 h3 h4=>exact .inr (bookC hZ ha hcom (hblk ⟨_,hwg⟩) (.refl Z.Wg w) hwg (by simp) (.blk (T:=T0) hstop) (.last L trivial h2 h3 h4) (.inr ⟨rfl,.inr ⟨rfl,by simp[nJ]⟩⟩))
   | sema h2=>
    obtain⟨a',hgo,T2,hk⟩:=htake hwg
    exact .inr (bookC hZ ha hcom hgo (aside_setCell w (smA Z.Wg) _) (hwg.setSm 0) bk_sem (.w4 hk) (.fin trivial h2) (.inl (by simp only[phi];omega)))
   | fin h1 _=>exact h1.elim
  ·obtain⟨T',a',w',es,x',hlt,hgo,hD,hg'⟩:=hstep w (R0.refl Z x w)
   exact .inr (idleC hZ ha hcom hwg hmode hgo hD (.w3 hg') hlt)
 | blk h=>exact absurd hrun (by simp)
 | w4 h=>
  rcases Wk.cases h with hstop|hstep
  ·obtain⟨_,hx⟩:=hstop w (R0.refl Z x w);obtain⟨h2,rfl,rfl⟩:=hmode.fin_inv trivial;obtain⟨a',hgo,T2,hk⟩:=hx hwg;exact .inr (bookC hZ ha hcom hgo (.refl Z.Wg w) hwg bk_rd (.ke hk) (.fin trivial h2) (.inl (by simp only[phi];omega)))
  ·obtain⟨T',a',w',es,x',hlt,hgo,hD,hg'⟩:=hstep w (R0.refl Z x w)
   exact .inr (idleC hZ ha hcom hwg hmode hgo hD (.w4 hg') hlt)
 | ke h=>
  rcases Wk.cases h with hstop|hstep
  ·obtain⟨_,a',hgo,T2,hk⟩:=hstop w (R0.refl Z x w);obtain⟨h2,rfl,rfl⟩:=hmode.fin_inv trivial;exact .inr (bookC hZ ha hcom hgo (.refl Z.Wg w) hwg bk_en (.acq hk) (.fin trivial h2) (.inl (by simp only[phi];omega)))
  ·obtain⟨T',a',w',es,x',hlt,hgo,hD,hg'⟩:=hstep w (R0.refl Z x w)
   exact .inr (idleC hZ ha hcom hwg hmode hgo hD (.ke hg') hlt)
 | acq h=>
  rcases Wk.cases h with hstop|hstep
  ·exact .inl (Up hZ hp hB ha hcom hwg hmode (hstop w (R0.refl Z x w)))
  ·obtain⟨T',a',w',es,x',hlt,hgo,hD,hg'⟩:=hstep w (R0.refl Z x w);exact .inr (idleC hZ ha hcom hwg hmode hgo hD (.acq hg') hlt)
theorem someone_runs(hAr:∀g w,AnchW g w->g.status=.running)(ha:gs[0]?=some a)(hcs:CS Z Cont AnchW tag j T0 d0 x a w)(hcom:Com Z t0 w0 j gs w t D O bx T q d0 x)(hmode:ConcN.Mode j D tag st sm):
 ∃(i:Nat)(g:Goroutine),gs[i]?=some g/\g.status=.running:=by
 rcases hcs.status hAr with⟨hs,_⟩|⟨_,rfl⟩
 ·exact⟨0,a,ha,hs⟩
 ·cases hmode with
  | opn h1 _ _=>exact h1.elim
  | reg _ _ h3=>
   obtain⟨i,hi,h5⟩:=exists_counted h3;obtain⟨g,hg,hs⟩:=hcom.wk i hi
   exact⟨Z.c+i,g,hg,hs.running_of (by omega)⟩
  | last L _ h2 h3 _=>
   obtain⟨g,hg,hs⟩:=hcom.wk L h2
   exact⟨Z.c+L,g,hg,hs.running_of (by omega)⟩
  | fin h1 _=>exact h1.elim
theorem all_awake(hAr:∀g w,AnchW g w->g.status=.running)(ha:gs[0]?=some a)(hcs:CS Z Cont AnchW tag j T0 d0 x a w)(hcom:Com Z t0 w0 j gs w t D O bx T q d0 x):∀g∈gs,awake g:=by
 intro g hg tm;obtain⟨i,hi⟩:=gB.1 hg;rcases dU i with rfl|h0
 ·rw[ha] at hi;cases hi;rcases hcs.status hAr with⟨hs,_⟩|⟨hs,_⟩<;>rw[hs]<;>simp
 ·by_cases hic:i<Z.c
  ·rcases(hcom.old i g h0 hic hi).status with h|h<;>rw[h]<;>simp
  ·have hlt:i - Z.c<j:=by have:=(aN.1 hi).1;rw[hcom.size] at this;omega
   obtain⟨g',hg',hs⟩:=hcom.wk (i - Z.c) hlt;rw[show Z.c+(i - Z.c)=i by omega,hi] at hg';cases hg';rcases hs.status with h|h<;>rw[h]<;>simp
theorem Com.at(hZ:jY Z)(h:Com Z t0 w0 j gs w t D O bx T q d0 x)(d:Nat):Com Z t0 w0 j gs (w.at d) t D O bx T q d0 x:=
 ⟨h.size,h.old,λi hi=>let ⟨g,hg,hs⟩:=h.wk i hi;⟨g,hg,hs.rely hZ ⟨aj _,λ_ _=>rfl,rfl,λ_ _=>rfl,id,id,id,λ_ _=>rfl⟩⟩,⟨h.geo.size,h.geo.lt,h.geo.dj,h.geo.out,h.geo.nb,h.geo.cur,h.geo.wZ,h.geo.xl⟩,h.ct,h.norel,h.deaf0,h.deafW,h.rel,h.elder,h.al,h.cb,h.low,h.sfx,h.env⟩
theorem sV(hZ:jY Z)(hp:Past (Shun Z) B0 t0)(hB:B0<=Z.L0)(hn:Z.n<2147483648)(hAr:∀g w,AnchW g w->g.status=.running)(hAn:∀x g w,AnchW g w->∃T,W0 Z (AtW1 Z Cont AnchW) T x g w):
 ∀μ m t,Inv Z Cont AnchW t0 w0 μ m t->∃N m' t',runNT Z.P N m t=(.next m',t')/\Done Z Cont w0 m' t':=by
 intro μ
 induction μ using(qJ.wf Z.n).induction with
 | _ μ ih=>
  rintro m t ⟨gs,w,sl,j,D,O,bx,T,q,tag,T0,d0,x,a,st,sm,rfl,ha,hcs,hcom,hwg,hmode,rfl⟩;obtain⟨i,g,d,sl',hg,hrun,hstep⟩:=crowd_pick (P:=Z.P) (w:=w) (sl:=sl) (all_awake hAr ha hcs hcom) (someone_runs hAr ha hcs hcom hmode);have Ya:R0 Z x w (w.at d):=⟨aj _,λ_ _=>rfl,λ_ _=>rfl,id,λ_ _=>rfl⟩;have hcs':=hcs.rely Ya;have hcom':=hcom.at hZ d;have hwg':WgAt Z.ty Z.Wg (w.at d) st sm:=hwg;have fin:KJ Z Cont AnchW t0 w0 gs (w.at d) sl' t ⟨phi Z.n (Vc j D) tag+Ssum j D+sumTo Z.c q,T,T0,nJ tag⟩ i->∃N m' t',runNT Z.P N (crowd gs w sl) t=(.next m',t')/\Done Z Cont w0 m' t':=λ⟨m₁,ops,μ',h1,h2,h3⟩=>by
   obtain⟨N,m',t',h4,h5⟩:=ih μ' h2 m₁ _ h3;exact⟨N+1,m',t',by rw[runNT_succ_next (hstep.trans h1)];exact h4,h5⟩
  rcases dU i with rfl|h0
  ·rw[ha] at hg;cases hg;rcases stepCaller (sl:=sl') hZ hp hB hn hAn ha hcs' hcom' hwg' hmode hrun with⟨m₁,ops,h1,h2⟩|h
   ·exact⟨1,m₁,_,by rw[runNT_succ_next (hstep.trans h1)];rfl,h2⟩
   ·exact fin h
  ·by_cases hic:i<Z.c
   ·exact fin (b48 hZ hAr ha hcs' hcom' hwg' hmode (R0.refl Z x _) h0 hic hg hrun)
   ·have hlt:i - Z.c<j:=by have:=(aN.1 hg).1;rw[hcom.size] at this;omega
    have e:Z.c+(i - Z.c)=i:=by omega
    have:=stepWorker (sl:=sl') hZ hAr hn ha hcs' hcom' hwg' hmode hlt (by rw[e];exact hg) hrun;rw[e] at this;exact fin this
end
end Go.Mc
namespace Go.To
section
open Go.Conc
open Go.ConcN (sumTo upd sumTo_upd upd_ne upd_same)
open Zn (ext low kk Gr K0 Nx tp gJ nO)
class Lo where
 n:Nat
def Tr[Lo](Sh:Nat->Prop)(b:Nat):Prop:=Lo.n<=b/\Sh b
def wR[Lo](Sh:Nat->Prop):Loc->Prop
 | .cell a=>Tr Sh a.block
 | .obj r=>Tr Sh r
 | _=>False
set_option linter.unusedSectionVars false
variable[Lo]
structure Ctx(P:Program)(Sh:Nat->Prop)(gs:Array Goroutine)(t:Trace)(q:Nat->Nat)(B:Nat):Prop where
 L:Leavers P t gs q
 past:Past (wR Sh) B t
 gsb:∀(i:Nat)(op:MemOp),t[i]?=some op->op.g<gs.size
 lo:Lo.n<=B
def mG(P:Program)(B:Nat)(g:Goroutine)(w:World)(Sh:Nat->Prop)(Ψ:Goroutine->World->(Nat->Prop)->Prop):Prop:=
 ∀τ p gs sl t q,gs[0]?=some g->Ctx P Sh gs t q B->∃N gs' w' sl' t' q' Sh' g' τ' p',runNT P N (crowd gs (tp w τ p) sl) t=(.next (crowd gs' (tp w' τ' p') sl'),t')/\gs'[0]?=some g'/\Ctx P Sh' gs' t' q' w'.heap.size/\Ψ g' w' Sh'
abbrev To(P:Program)(g:Goroutine)(w:World)(Sh:Nat->Prop)(Ψ:Goroutine->World->(Nat->Prop)->Prop):Prop:=mG P w.heap.size g w Sh Ψ
variable{P:Program}{g:Goroutine}{w:World}{Sh:Nat->Prop}{Ψ Ψ':Goroutine->World->(Nat->Prop)->Prop}{B B':Nat}
theorem To.done(h:Ψ g w Sh):To P g w Sh Ψ:=λτ p gs sl t q h0 hc=>⟨0,gs,w,sl,t,q,Sh,g,τ,p,rfl,h0,hc,h⟩
theorem To.fZ{τ:Nat->Question->Nat}{p:Nat}(h:To P g w Sh Ψ):To P g (tp w τ p) Sh Ψ:=λτ' p' gs sl t q h0 hc=>h τ' p' gs sl t q h0 hc
theorem mG.fZ{τ:Nat->Question->Nat}{p:Nat}(h:mG P B g w Sh Ψ):mG P B g (tp w τ p) Sh Ψ:=λτ' p' gs sl t q h0 hc=>h τ' p' gs sl t q h0 hc
theorem Ctx.own{t:Trace}{q:Nat->Nat}{gs:Array Goroutine}{w':World}{es:Array Event}{a':Goroutine}{fn:FuncId}{pos:String}(hlt:0<gs.size)(hc:Ctx P Sh gs t q B)(hsz:B<=B')(hev:∀e∈es,EvL (wR Sh) B' e):
 Ctx P Sh ((gs.map (woken P g a' w')).setIfInBounds 0 a') (t++MemOp.ofEvents 0 fn pos es) q B':=by
 refine⟨⟨λj x hj hx=>?_,λj hj=>?_⟩,(hc.past.mono hsz).own hev,λi op hi=>?_,ay hc.lo hsz⟩
 ·have hne:0≠j:=by omega
  rw[aK hne,lT] at hx;obtain⟨y,hy,rfl⟩:=aS.1 hx;have hq:=hc.L.old j y hj hy;rw[woken_quitsD hq,Deaf_other t (by omega) _ (λop hop=>by obtain⟨e,_,rfl⟩:=Go.Conc.mem_ofEvents hop;rfl)];exact hq
 ·rw[Deaf_other t (g':=0) (by simp at hj;omega) _ (λop hop=>by obtain⟨e,_,rfl⟩:=Go.Conc.mem_ofEvents hop;rfl)];exact hc.L.above j (by simpa using hj)
 ·have es:((gs.map (woken P g a' w')).setIfInBounds 0 a').size=gs.size:=by simp
  rw[es];rcases getElem?_append_cases hi with⟨_,h⟩|⟨_,h⟩
  ·exact hc.gsb i op h
  ·obtain⟨e,_,rfl⟩:=Go.Conc.mem_ofEvents h;exact hlt
theorem mG.step(hrun:g.status=.running)(h:∀τ p,∃g' w' es B',stepG P true g (tp w τ p)=.go g' w' es/\B<=B'/\(∀e∈es,EvL (wR Sh) B' e)/\mG P B' g' w' Sh Ψ):mG P B g w Sh Ψ:=by
 have key:∀M gs τ p sl t q,sumTo gs.size q<=M->gs[0]?=some g->Ctx P Sh gs t q B->
  ∃N gs' w' sl' t' q' Sh' g' τ' p',runNT P N (crowd gs (tp w τ p) sl) t=(.next (crowd gs' (tp w' τ' p') sl'),t')/\gs'[0]?=some g'/\Ctx P Sh' gs' t' q' w'.heap.size/\Ψ g' w' Sh':=by
  intro M
  induction M using Nat.strongRecOn with
  | _ M ih=>
  intro gs τ p sl t q hM h0 hc;have haw:∀g∈gs,awake g:=by
   intro y hy;obtain⟨i,hi,rfl⟩:=eY.1 hy;rcases dU i with rfl|hpos
   ·have:gs[0]=g:=by simpa [bK hi] using h0
    rw[this];exact awake_of (.inl hrun)
   ·exact awake_of ((hc.L.old i _ hpos (bK hi)).status.elim .inl λx=>.inr (.inr x))
  obtain⟨i,y,d,sl',hi,hg,hst⟩:=crowd_pick (P:=P) (w:=tp w τ p) (sl:=sl) haw ⟨0,g,h0,hrun⟩;rcases dU i with rfl|hpos
  ·obtain rfl:y=g:=by rw[h0] at hi;exact(aF hi).symm
   obtain⟨g',w',es,B',hgo,hsz,hev,hto⟩:=h τ d;have hrunT:=runT_crowd_go (P:=P) (sl:=sl') (i:=0) hi (show stepG P (0==0) y ((tp w τ p).at d)=_ from hgo);have hlt:0<gs.size:=(aN.1 h0).1;obtain⟨N,r⟩:=hto w'.tape w'.drawn _ sl' _ q (show((gs.map (woken P y g' w')).setIfInBounds 0 g')[0]?=some g' by simp[hlt]) (hc.own (g:=y) (a':=g') (fn:=y.frame.fn) (pos:=y.frame.place) hlt hsz hev);obtain⟨gs',w'',sl'',t',q',Sh',g'',τ',p',h1,h2⟩:=r;exact⟨N+1,gs',w'',sl'',t',q',Sh',g'',τ',p',by simp only[runNT,hst,hrunT];rw[gJ] at h1;exact h1,h2⟩
  ·have hq:=hc.L.old i y hpos hi;have hi0:(i==0)=false:=by simp;omega
   have hlt:i<gs.size:=(aN.1 hi).1
   cases hqi:q i with
   | zero=>rw[hqi] at hq;rw[hq.1] at hg;cases hg
   | succ k=>
    rw[hqi] at hq;rcases hq with⟨hf,_⟩|⟨_,g',es,hm,hstp,hq'⟩
    ·rw[hf] at hg;cases hg
    have hrunT:=runT_crowd_go (P:=P) (sl:=sl') (i:=i) hi (by rw[hi0];exact hstp (tp w τ d));have hsz:((gs.map (woken P y g' (tp w τ d))).setIfInBounds i g').size=gs.size:=by simp
    have hsum:sumTo gs.size (upd q i k)+(k+1)=sumTo gs.size q+k:=by
     have:=sumTo_upd q k id hlt;simpa [hqi] using this
    obtain⟨N,gs',w'',sl'',t',q',Sh',g'',τ',p',h1,h2⟩:=ih (sumTo gs.size (upd q i k)) (by omega) ((gs.map (woken P y g' (tp w τ d))).setIfInBounds i g') τ d sl' (t++MemOp.ofEvents i y.frame.fn y.frame.place es) (upd q i k) (by rw[hsz];omega)
     (by
       have hne:i≠0:=by omega
       rw[aK hne,lT,h0];simp[woken_run hrun])
     ⟨⟨λj x hj hx=>by
      by_cases hji:i=j
      ·subst hji;rw[bT (by simpa using hlt)] at hx;obtain rfl:=aF hx;rw[upd_same,Deaf_own];exact hq'
      ·rw[aK hji,lT] at hx;obtain⟨z,hz,rfl⟩:=aS.1 hx;have hqj:=hc.L.old j z hj hz;rw[woken_quitsD hqj,upd_ne q k (bP hji),Deaf_other t hji _ (λop hop=>by obtain⟨e,_,rfl⟩:=Go.Conc.mem_ofEvents hop;rfl)];exact hqj,λj hj=>by
      rw[Deaf_other t (g':=i) (by simp at hj;omega) _ (λop hop=>by obtain⟨e,_,rfl⟩:=Go.Conc.mem_ofEvents hop;rfl)];exact hc.L.above j (by simpa using hj)⟩,hc.past.mute (by omega) hm,λk' op hk=>by
      rw[hsz];rcases getElem?_append_cases hk with⟨_,h⟩|⟨_,h⟩
      ·exact hc.gsb k' op h
      ·obtain⟨e,_,rfl⟩:=Go.Conc.mem_ofEvents h;exact hlt,hc.lo⟩
    exact⟨N+1,gs',w'',sl'',t',q',Sh',g'',τ',p',by simp only[runNT,hst,show runT P (crowd gs ((tp w τ p).at d) sl') i=_ from hrunT];exact h1,h2⟩
 exactλτ p gs sl t q h0 hc=>key _ gs τ p sl t q (aj _) h0 hc
theorem To.step(hrun:g.status=.running)(h:∀τ p,∃g' w' es,stepG P true g (tp w τ p)=.go g' w' es/\w.heap.size<=w'.heap.size/\(∀e∈es,EvL (wR Sh) w'.heap.size e)/\To P g' w' Sh Ψ):To P g w Sh Ψ:=
 mG.step hrun λτ p=>let ⟨g',w',es,h1,h2,h3,h4⟩:=h τ p;⟨g',w',es,_,h1,h2,h3,h4⟩
theorem mG.move{g':Goroutine}(hrun:g.status=.running)(h:∀w,stepG P true g w=.go g' w)(k:mG P B g' w Sh Ψ):mG P B g w Sh Ψ:=
 .step hrun λτ p=>⟨g',tp w τ p,#[],B,h _,aj _,by simp,k.fZ⟩
theorem To.move{g':Goroutine}(hrun:g.status=.running)(h:∀w,stepG P true g w=.go g' w)(k:To P g' w Sh Ψ):To P g w Sh Ψ:=mG.move hrun h k
variable{Z:Zn.Zone}{X:Tmp->Prop}{A:Frame->World->Prop}
theorem b8T{B n:Nat}{e:Event}(h:Zn.jd (Zn.Zf Z Sh n) B e):EvL (wR Sh) B e:=by
 obtain⟨loc,wr,sy⟩:=e;unfold Zn.jd at h
 cases loc with
 | cell a=>
  obtain⟨h1,h2,h3⟩:=h;refine⟨λx hx hs=>?_,by simp,by simp,?_⟩
  ·rw[ofEvent_cell0] at hx;simp only[MemAct.touch?,bJ] at hx;subst hx;exact absurd hs.2 h2.2
  ·rw[ofEvent_cell0];exact h3
 | obj r=>
  obtain⟨h1,h2,h3⟩:=h;dsimp only at h1;subst h1;refine⟨λx hx hs=>?_,by simp,by simp,?_⟩
  ·have e:MemAct.ofEvent ⟨.obj r,wr,false⟩=.access ⟨.obj r,wr,false⟩:=by cases wr<;>rfl
   rw[e] at hx;simp only[MemAct.touch?,bJ] at hx;subst hx;exact absurd hs.2 h2.2
  ·cases wr<;>exact h3
 | mark m=>
  refine⟨λx hx hs=>?_,?_,?_,?_⟩
  ·exfalso;revert h hx;cases m<;>simp[Zn.fU,MemAct.ofEvent,MemAct.touch?]
  ·rintro e;cases e;exact h
  ·rintro e;cases e;exact h
  ·dsimp only at h
   cases m<;>first|exact(h:False).elim|trivial
 | output=>
  refine⟨λx hx hs=>?_,by simp,by simp,?_⟩
  ·dsimp only at h;subst h;have e:MemAct.ofEvent ⟨.output,wr,false⟩=.access ⟨.output,wr,false⟩:=by cases wr<;>rfl
   rw[e] at hx;simp only[MemAct.touch?,bJ] at hx;subst hx;exact(hs:False).elim
  ·dsimp only at h;subst h
   cases wr<;>trivial
 | goroutines=>exact(h:False).elim
theorem To.Yz{fr:Frame}{l:List Frame}(h:Zn.su P Z Sh X A fr l w){κ:List Item}{cs:List Frame}
 (k:∀fr' w' τ p,Zn.Inv Z Sh X fr' [] w'->w.heap.size<=w'.heap.size->A (ext fr' K0) (tp w' τ p)->To P (Gr fr' [] κ cs) w' Sh Ψ):To P (Gr fr l κ cs) w Sh Ψ:=by
 induction h with
 | stop fr w hI τ p h=>exact k fr w τ p hI (aj _) h
 | step fr l w hI F L W E h hs he _ ih=>
  exact To.step rfl λτ p=>⟨_,_,_,h τ p κ cs,hs τ p,λe hE=>b8T (he τ p e hE),ih τ p λfr' w' τ' p' hI' hz=>k fr' w' τ' p' hI' (ay (hs τ p) hz)⟩
end
end Go.To
