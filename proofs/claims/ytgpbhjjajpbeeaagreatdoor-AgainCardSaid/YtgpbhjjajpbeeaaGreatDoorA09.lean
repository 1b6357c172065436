/- A part of what the last file proves. -/
import Derived.Test.YtgpbhjjajpbeeaaGreatDoorA08
import Derived.Conc.CompanyCalls
import Derived.Conc.LeavingOf
import Derived.Deep.DeepHandedRow
import Derived.RowKit
import Derived.Conc.WgGenN3
import Derived.Conc.MuWords
import Derived.Below
set_option linter.all false
set_option maxRecDepth 100000
set_option maxHeartbeats 8000000
namespace Go.Mc
open Go.Conc
variable{B n r:Nat}
section
open Go.ConcR (KK wgBlock WgAt stA smA rd wr mk DC0 Bk g_of_ofEvents bk_of_mute ofEvent_loc_mark ofEvent_mk)
open Go.ConcN (WgLive ShN WD CTag sumTo upd upd_same upd_ne cnt Vc Ssum pend isOpen isW3 isFin phi deafBehind_idle bk_cell Vc_upd OpenSt AllQuit others_uncounted Vc_le le_sumTo bk_dis bk_en bk_rd bk_rw bk_sem allQuit_of sumTo_upd_out exists_counted Deaf_absent get_map_set get_map_set_same)
variable[Go.ConcR.Payload]{Z:Pz}{Cont AnchW:Goroutine->World->Prop}{t0:Trace}{B0:Nat}{w0:World}
variable{gs:Array Goroutine}{w w':World}{sl:Option (Nat×Nat)}{j:Nat}{t:Trace}{D:Nat->WD}{O:Nat->Nat->Prop}{bx:Nat->Nat}{T:Nat->Tr}{q:Nat->Nat}{tag:CTag}{T0:Tr}{d0:Nat}{x:Option Nat}{a:Goroutine}{st sm:Int}
def Done(Z:Pz)(Cont:Goroutine->World->Prop)(w0:aB)(m:Machine)(t:Trace):Prop:=
 ∃(gs:Array Goroutine)(w:aB)(sl:Option (Nat×Nat))(q:Nat->Nat)(g:iY)(O:Nat->Nat->Prop)(bx:Nat->Nat),
  m=crowd gs w sl/\gs.size=Z.c+Z.n/\gs[0]?=some g/\g.status=.running/\Cont g w/\Leavers Z.P t gs q/\Past (λl=>Shun Z l\/ShN Z.Wg l) w t/\
   (∀b,Z.oZ b\/Z.zD b->w.heap[b]?=w0.heap[b]?)/\(∀i,i<Z.n->Z.ni i (bx i) (O i) w)/\(∀i b,O i b->Z.L0<=b/\b<w.heap.size)/\(∀i k b,O i b->O k b->i=k)/\oO Z w/\nX Z w/\Z.L0<=w/\w.tape=w0.tape/\w.os=w0.os/\w.output=w0.output/\
   (∀(i:Nat)(a:MemOp),t[i]?=some a->a.g<Z.c+Z.n)
theorem c6D{es:Array Event}(j:lZ Z)(n:Z.L0<=B)(b:∀e∈es,Ev0 Z x B e):∀e∈es,(MemAct.ofEvent e).low B:=λe i=>by
 have h:=b e i;let⟨c,wr,l⟩:=e;cases c with
 | cell=>exact h.1
 | obj=>
  let⟨g,d,_⟩:=h;subst d
  cases wr<;>exact g
 | mark m=>
  obtain h|⟨a,f,o⟩:=h
  cases m<;>first|trivial
  have k:=j.W0
  obtain rfl|rfl:=f<;>(show a.block<B;omega)
 | _=>trivial
theorem c39{es:Array Event}(c:∀e∈es,Ev0 Z x B e):∀e∈es,e.loc≠.mark .disable/\e.loc≠.mark .enable/\e.loc≠.mark (.release (stA Z.Wg)):=λe f=>by
 have h:=c e f;let⟨b,wr,g⟩:=e;cases b with
 | mark m=>
  obtain h|⟨a,d,i⟩:=h
  cases m<;>first|trivial|simp
  obtain rfl|rfl:=d<;>(simp)
 | cell=>simp
 | obj=>simp
 | _=>trivial
abbrev QJ(Z:Pz)(Cont AnchW:Goroutine->World->Prop)(t0:Trace)(w0:aB)(gs:Array Goroutine)(w:aB)(sl:Option (Nat×Nat))(t:Trace)(μ:Mu)(i:Nat):Prop:=
 ∃a b c,runT Z.P (crowd gs w sl) i=(.next a,b)/\tV Z.n c μ/\Inv Z Cont AnchW t0 w0 c a (t++b)
theorem idleC(d:lZ Z)(z:gs[0]?=some a)(c:Com Z t0 w0 j gs w t D O bx T q d0 x)(r:WgAt Z.ty Z.Wg w st sm)(g:ConcN.Mode j D tag st sm){a':iY}{es:Array Event}{v:Option Nat}{u:Tr}
 (s:stepG Z.P true a w=.go a' w' es)(f:D0 Z x v w w' es)(m:CS Z Cont AnchW tag j u d0 v a' w')(A:sQ u T0):
 QJ Z Cont AnchW t0 w0 gs w sl t ⟨phi Z.n (Vc j D) tag+Ssum j D+sumTo Z.c q,T,T0,qp tag⟩ 0:=have i:=c39 f.ev;have l:=km d c.geo f;callerStep d z c s (λk _=>b7m d c.geo f k) (λb y=>Hg d c.geo f (y.elim (λh=>(d.jQ b h).1) λh=>(d.sh b h).1)) f.size l (c9N d c.geo f) fU
  (.of (Hg d c.geo f d.A0) c.al) (.of (Hg d c.geo f d.C0) c.cb) (c6D d l.size f.ev) ⟨f.tape,f.os,f.output⟩ (by rw[deafBehind_idle fU _];exact m) (r.of_block (Hg d c.geo f d.W0)) g fU
theorem bookC(g:lZ Z)(z:gs[0]?=some a)(d:Com Z t0 w0 j gs w t D O bx T q d0 x){a':iY}{es:Array Event}{tag':CTag}{r:Tr}{o p:Int}
 (s:stepG Z.P true a w=.go a' w' es)(c:Conc.Aside Z.Wg w w')(i:WgAt Z.ty Z.Wg w' o p)(l:∀e∈es,Bk Z.Wg e)(n:CS Z Cont AnchW tag' j r (deafBehind d0 es) x a' w')
 (f:ConcN.Mode j D tag' o p)(u:phi Z.n (Vc j D) tag'<phi Z.n (Vc j D) tag\/(phi Z.n (Vc j D) tag'=phi Z.n (Vc j D) tag/\(sQ r T0\/(r=T0/\qp tag'<qp tag)))):
 QJ Z Cont AnchW t0 w0 gs w sl t ⟨phi Z.n (Vc j D) tag+Ssum j D+sumTo Z.c q,T,T0,qp tag⟩ 0:=have y:=⟨_,_,i⟩;callerStep g z d s (λk _=>Av g d.geo c y k) (λb A=>c.block b (A.elim (λh=>(g.jQ b h).2.1) λh=>(g.sh b h).2.1)) (fE c.size.symm) (kn g d.geo c y) (c8o l) (ConcN.norel_of_Bk l)
  (.of (c.block _ (.symm g.WA)) d.al) (.of (c.block _ (.symm g.WC)) d.cb) (ki g (by rw[c.size];exact d.geo.size) l) ⟨c.tape,c.os,c.output⟩ n i f u
theorem w1Step(p:lZ Z)(B:Z.n<2147483648)(m:gs[0]?=some a)(c:Com Z t0 w0 Z.n gs w t D O bx T q 1 x)(f:WgAt Z.ty Z.Wg w st sm)(b:ConcN.Mode Z.n D .w1 st sm)(h:W0 Z (AtW1 Z Cont AnchW) T0 x a w):
 QJ Z Cont AnchW t0 w0 gs w sl t ⟨phi Z.n (Vc Z.n D) .w1+Ssum Z.n D+sumTo Z.c q,T,T0,0⟩ 0:=by
 obtain i|g:=Wk.cases h
 let⟨_,j⟩:=i w (iU Z x w);obtain⟨y,rfl,rfl,_⟩:=b.open_inv trivial;have C:=Vc_le Z.n D;let⟨z,d,u,l⟩:=j (Vc Z.n D) aj kT;by_cases k:Vc Z.n D=0
 let⟨v,r⟩:=u k;refine bookC p m c d (.refl _ w) f bk_rd (.ke r) ?_ (.inl zV);have e:(Vc Z.n D+pend .w1:Nat)*KK=0:=by rw[k];rfl
 rw[e];exact .fin trivial (allQuit_of y k)
 let⟨v,r⟩:=l k;exact bookC p m c d (.refl _ w) f bk_rd (.w2 r) (b.reopen trivial trivial rfl (λF e=>by cases e;omega)) (.inl zV)
 let⟨G,z,w',E,H,o,d,A,n⟩:=g w (iU Z x w);exact idleC p m c f b d A (.w1 n) o
theorem c0L(hZ:lZ Z)(hr:r<Z.n)(ha:gs[0]?=some a)(c:Com Z t0 w0 (Z.n - (r+1)) gs w t D O bx T q 0 x)(K:WgAt Z.ty Z.Wg w st sm)(J:ConcN.Mode (Z.n - (r+1)) D (.sp r 2) st sm)
 (h:AtGoS Z (Z.n - (r+1)) (Spawns Z (Fin Z AnchW) r) x a w):
 QJ Z Cont AnchW t0 w0 gs w sl t ⟨phi Z.n (Vc (Z.n - (r+1)) D) (.sp r 2)+Ssum (Z.n - (r+1)) D+sumTo Z.c q,T,T0,qp (.sp r 2)⟩ 0:=by
 obtain⟨_,b,H,d,rfl,hsp,hcr,Q,A⟩:=h;obtain⟨Tc,hwk⟩:=Q c.al c.cb ⟨_,_,K⟩;obtain⟨ho,rfl,rfl,_⟩:=J.open_inv trivial;have hc:=hZ.c;have B:=c.geo;generalize hj:Z.n - (r+1)=j at *;have ej:j+1=Z.n - r:=aj
 have n:=runT_crowd_spawn (P:=Z.P) (sl:=sl) (i:=0) ha (by simpa using hsp);rw[c.size] at n
 let X:MemOp:={g:=0,fn:=a.frame.fn,pos:=a.frame.place,act:=.go (Z.c+j)}
 let Y:MemOp:={g:=Z.c+j,fn:=d.frame.fn,pos:=a.frame.place,act:=.start}
 have pN:((MemOp.ofEvents 0 a.frame.fn a.frame.place #[]).push X).push Y=#[X,Y]:=rfl;rw[pN] at n;have R:∀m∈#[X,Y],m=X\/m=Y:=by intro m f;simpa using f
 have L:∀m∈#[X,Y],m.act≠.mark .disable/\m.act≠.mark .enable:=by intro m f;rcases R m f with rfl|rfl<;>exact⟨by simp[X,Y],by simp[X,Y]⟩
 have P:Geo Z (j+1) w O (upd bx j b) none:=by
  obtain⟨x1,x2,x3⟩:=B.xl b rfl;refine⟨B.size,B.lt,B.dj,λi E s=>B.out i E aj,λi k E M=>?_,λi E _=>aZ,λk=>?_,λE M=>by cases M⟩
  ·by_cases e:k=j
   ·subst e;rw[upd_same];intro e';exact B.cur i E M (by rw[e'])
   ·rw[upd_ne bx _ e];exact B.nb i k E M
  ·by_cases e:k=j
   ·subst e;rw[upd_same];exact .inr ⟨aj,x1,x2⟩
   ·rw[upd_ne bx _ e];exact(B.zW k).imp id λy=>⟨aj,y.2⟩
 have nW:CT Z.c (Au Z) (CQ Z) (Gy Z O) (Az Z (upd bx j b)) t j:=by
  have e:∀i,i<j->Az Z (upd bx j b) i=Az Z bx i:=λi s=>by
   funext l
   cases l<;>simp only[Az,upd_ne bx b (show i≠j by omega)]
  exact⟨c.ct.quiet,c.ct.own,λi s l hl=>c.ct.rd i s l (by rw[<-e i s];exact hl),λl N ho hl=>c.ct.free l N ho λi s=>⟨(hl i s).1,by rw[<-e i s];exact(hl i s).2⟩,c.ct.mine,c.ct.nr,c.ct.gs⟩
 have G:((gs.setIfInBounds 0 H).push d).size=Z.c+(j+1):=by simp[c.size];omega
 have o:Com Z t0 w0 (j+1) ((gs.setIfInBounds 0 H).push d) w (t++#[X,Y]) (upd D j ⟨7,0,0⟩) O (upd bx j b) (upd T j Tc) q 0 none:=by
  refine⟨G,λi y s hic hy=>?_,λi s=>?_,P,nW.fork hc (P.apart hZ) ⟨rfl,rfl⟩ ⟨rfl,rfl⟩ c.deaf0,c.norel.app λm f=>?_,by rw[ConcN.Deaf_still t 0 _ L,c.deaf0],λi s=>?_,λi s N=>?_,c.elder,c.al,c.cb,WT c.low (ak _) λm f=>?_,?_,c.env⟩
  ·rw[iR (by simp[c.size];omega),<-dN,bf aj] at hy;rw[ConcN.Deaf_still t i _ L];exact c.old i y s hic hy
  rcases bH i j with v|U
  ·obtain⟨g,hg,hsg⟩:=c.wk i v;refine⟨g,?_,by rw[upd_ne D _ aj,upd_ne T _ aj,upd_ne bx _ aj];exact hsg⟩;rw[iR (by simp[c.size];omega),<-dN,bf aj];exact hg
  obtain rfl:i=j:=aj
  refine⟨d,?_,?_⟩
  ·rw[show Z.c+i=(gs.setIfInBounds 0 H).size by simp[c.size],jD]
  ·rw[upd_same,upd_same,upd_same];have eO:=by funext E;exact propext ⟨λM=>B.out i E (ak _) M,False.elim⟩
   rw[eO];exact .work Tc d w hwk
  ·rcases R m f with rfl|rfl<;>simp[X,Y]
  rw[ConcN.Deaf_still t _ _ L];rcases bH i j with v|U
  ·rw[c.deafW i v,upd_ne D _ aj]
  ·obtain rfl:i=j:=aj
   rw[upd_same];exact Deaf_absent λk m S e=>by have:=c.ct.gs k m S;omega
  obtain v|U:=bH i j
  ·rw[upd_ne D _ aj] at N;obtain⟨r,hr⟩:=c.rel i v N;exact⟨r,hr.appNot λm f=>by obtain rfl|rfl:=R m f<;>simp[X,Y]<;>omega⟩
  ·obtain rfl:i=j:=aj
   rw[upd_same] at N;simp at N
  ·obtain rfl|rfl:=R m f<;>trivial
  obtain⟨u,rfl,hu⟩:=c.sfx;refine⟨u++#[X,Y],lu,λm f=>?_⟩;obtain h|h:=dW.1 f
  ·exact(hu m h).imp id (Or.imp id λ⟨i,s,e⟩=>⟨i,aj,e⟩)
  obtain rfl|rfl:=R m h
  ·exact .inl rfl
  ·exact .inr (.inl rfl)
 have eV:Vc (j+1) (upd D j ⟨7,0,0⟩)=Vc j D+1:=by simp only[Vc,sumTo,upd_same];rw[sumTo_upd_out D _ cnt (ak _)];rfl
 have eS:Ssum (j+1) (upd D j ⟨7,0,0⟩)=Ssum j D+7:=by simp[Ssum,sumTo,upd_same];rw[sumTo_upd_out D _ WD.stage (ak _)]
 have C:OpenSt (j+1) (upd D j ⟨7,0,0⟩):=λi s=>by
  by_cases e:i=j
  ·subst e;rw[upd_same];simp
  ·rw[upd_ne D _ e];exact ho i aj
 have V:((gs.setIfInBounds 0 H).push d)[0]?=some H:=by rw[iR (by simp[c.size];omega),<-dN,dP (by rw[c.size];omega)]
 rw[ej] at o eV eS C;have F:∀z,pend z=0->((Vc j D+pend (.sp r 2):Nat):Int)*KK=((Vc (Z.n - r) _+pend z:Nat):Int)*KK:=λz hp=>by rw[eV,hp];simp[pend]
 cases r with
 | zero=>
  obtain⟨-,W,S⟩:=A;simp only[Nat.sub_zero] at o eV eS C F;refine⟨_,_,⟨phi Z.n _ .kd+Ssum Z.n _+sumTo Z.c q,upd T j Tc,W,qp .kd⟩,n,.stage _ _ (by simp[phi];omega),
   _,w,sl,Z.n,_,O,_,_,q,.kd,W,0,none,H,_,_,rfl,V,.kd S,o,K,?_,rfl⟩
  rw[F .kd rfl]
  exact .opn trivial C aZ
 | succ I=>
  let⟨W,S⟩:=A;refine⟨_,_,⟨phi Z.n _ (.sp I 5)+Ssum _ _+sumTo Z.c q,upd T j Tc,W,qp _⟩,n,.stage _ _ (by simp[phi];omega),
   _,w,sl,Z.n - (I+1),_,O,_,_,q,.sp I 5,W,0,none,H,_,_,rfl,V,.skd aj S,o,K,?_,rfl⟩
  rw[F (.sp I 5) rfl];exact .opn trivial C aZ
theorem b7p{s m d:Nat}{g:iY}(h:ConcN.WSit Z.P Z.ty Z.Wg Z.e0 Z.n PG PG 0 1 Z.v0 s m d g w)(b:s=1):QuitsD Z.P m d g:=by cases h<;>first|trivial
theorem c6E(W:lZ Z)(hp:Past (Shun Z) B0 t0)(hB:B0<=Z.L0)(ha:gs[0]?=some a)(b:Com Z t0 w0 Z.n gs w t D O bx T q 0 x)(hwg:WgAt Z.ty Z.Wg w st sm)(E:ConcN.Mode Z.n D .acq st sm)(h:AtAcq Z Cont x a w):
 ∃p ops,runT Z.P (crowd gs w sl) 0=(.next p,ops)/\Done Z Cont w0 p (t++ops):=by
 obtain⟨_,N,Y,I,B⟩:=h;obtain⟨o,rfl,rfl⟩:=E.fin_inv trivial;have hc:=W.c;have e1:MemOp.ofEvents 0 a.frame.fn a.frame.place #[mk (.acquire (stA Z.Wg))]=#[{g:=0,fn:=a.frame.fn,pos:=a.frame.place,act:=.mark (.acquire (stA Z.Wg))}]:=by rw[ofEvents_eq];simp[ofEvent_mk]
 have j:(t++MemOp.ofEvents 0 a.frame.fn a.frame.place #[mk (.acquire (stA Z.Wg))])[t.size]?=some {g:=0,fn:=a.frame.fn,pos:=a.frame.place,act:=.mark (.acquire (stA Z.Wg))}:=by rw[e1];simp
 have n:∀c∈MemOp.ofEvents 0 a.frame.fn a.frame.place #[mk (.acquire (stA Z.Wg))],c={g:=0,fn:=a.frame.fn,pos:=a.frame.place,act:=.mark (.acquire (stA Z.Wg))}:=λc h=>iL
 have M:((gs.map (woken Z.P a N w)).setIfInBounds 0 N).size=Z.c+Z.n:=by simp[b.size]
 have U:Deaf (t++MemOp.ofEvents 0 a.frame.fn a.frame.place #[mk (.acquire (stA Z.Wg))]) 0=0:=by rw[Deaf_own,b.deaf0];rfl
 have A:=b.ct.app0 hc (b.geo.apart W) λc h=>by rw[n c h];exact⟨rfl,λy R=>by cases R⟩
 have V:=b.norel.app λc h=>by rw[n c h];simp
 have K:∀i,i<Z.n->∃r,Rel Z.Wg _ (Z.c+i) r/\r<t.size:=λi l=>have⟨r,hr⟩:=b.rel i l (by rw[o i l];omega);⟨r,hr.appNot λc h=>by rw[n c h];show 0≠_;omega,lt_of_act? hr.act⟩
 have P:=act?_of j;have S:(t++MemOp.ofEvents 0 a.frame.fn a.frame.place #[mk (.acquire (stA Z.Wg))]).g? t.size=some 0:=by simp[Trace.g?,j]
 have hh:(t++MemOp.ofEvents 0 a.frame.fn _ #[mk _]).heard t.size:=⟨0,S,by rw[deaf_old (ak _)];exact b.deaf0⟩;have G:∀i,i<Z.n->∃g m,gs[Z.c+i]?=some g/\QuitsD Z.P m _ g/\Z.ni i (bx i) (O i) w:=λi l=>by
  let⟨g,S,Q⟩:=b.wk i l;have h1:=o i l;generalize (D i).stage=s at Q h1;generalize T i=Ti at Q;subst h1
  cases Q with
  | rest s m d g w _ h H=>exact⟨g,m,S,b7p h rfl,H⟩
 have L:∀k,Z.c<=k->k<Z.c+Z.n->∃m,∀g,gs[k]?=some g->QuitsD Z.P m (Deaf t k) g:=λk h1 X=>by
  obtain⟨g,m,h3,h4,-⟩:=G (k - Z.c) aj;have e2:Z.c+(k - Z.c)=k:=aj
  have h5:=b.deafW (k - Z.c) aj;rw[e2] at h3 h5;exact⟨m,λz v=>iL⟩
 classical
 let q':=λk=>if k<Z.c then q k else if h:Z.c<=k/\k<Z.c+Z.n then Classical.choose (L k h.1 h.2) else 0
 refine⟨_,_,runT_crowd_go ha kT,(gs.map _).setIfInBounds 0 N,w,sl,q',N,O,bx,rfl,M,get_map_set_same _ _ _ (by rw[b.size];omega),I,B,⟨λi y l R=>?_,λk hk=>?_⟩,?_,b.elder,λi l=>?_,b.geo.lt,b.geo.dj,b.al,b.cb,b.geo.size,b.env.1,b.env.2.1,b.env.2.2,A.gs⟩
 rw[get_map_set _ _ _ _ aj] at R;obtain⟨z,v,rfl⟩:=bC.1 R;rw[Deaf_other _ aj _ g_of_ofEvents];by_cases F:i<Z.c
 have P:=b.old i z l F v;rw[woken_quitsD P];simp[q',if_pos F];exact P
 have C:Z.c<=i/\i<Z.c+Z.n:=by have:=(bn.1 v).1;simp_all
 have X:=jk (L i C.1 C.2) z v;rw[woken_quitsD X];simp[q',if_neg F,dif_pos C];exact X
 exact Deaf_absent λi c l e=>by have:=A.gs i c l;omega
 obtain⟨u,rfl,hu⟩:=b.sfx;rw[lu] at *;refine c3X hp (ay hB b.geo.size) A (λc h=>?_) V P S hh K U λc h=>(WT b.low (ak _) λc h=>by
 rw[n c h];show Z.Wg<_;have:=W.W0;have:=b.geo.size;omega) c iL;obtain h|h:=dW.1 h
 simp_all
 simp_all
 simp_all
theorem c0M{a b c:Mu}(h:tV n a b)(d:b.S<c.S):tV n a c:=by
 cases h with
 | _=>exact .stage _ _ aj
theorem stepCaller(hZ:lZ Z)(hp:Past (Shun Z) B0 t0)(hB:B0<=Z.L0)(hn:Z.n<2147483648)(hAn:∀x g w,AnchW g w->∃T,W0 Z (AtW1 Z Cont AnchW) T x g w)
 (ha:gs[0]?=some a)(hcs:CS Z Cont AnchW tag j T0 d0 x a w)(hcom:Com Z t0 w0 j gs w t D O bx T q d0 x)(hwg:WgAt Z.ty Z.Wg w st sm)(hmode:ConcN.Mode j D tag st sm)(hrun:a.status=.running):
 (∃m₁ ops,runT Z.P (crowd gs w sl) 0=(.next m₁,ops)/\Done Z Cont w0 m₁ (t++ops))\/QJ Z Cont AnchW t0 w0 gs w sl t ⟨phi Z.n (Vc j D) tag+Ssum j D+sumTo Z.c q,T,T0,qp tag⟩ 0:=by
 have hVj:=Vc_le j D
 cases hcs with
 | skd hr h=>
  rcases Wk.cases h with hstop|hstep
  ·obtain⟨_,a',hgo,T2,hk⟩:=hstop w (iU Z x w);exact .inr (bookC hZ ha hcom hgo (.refl Z.Wg w) hwg bk_dis (.sa1 hr hk) (hmode.reopen trivial trivial rfl aZ) (.inl zV))
  ·obtain⟨T',a',w',es,x',hlt,hgo,hD,hg'⟩:=hstep w (iU Z x w)
   exact .inr (idleC hZ ha hcom hwg hmode hgo hD (.skd hr hg') hlt)
 | sa1 hr h=>
  rename_i r;rcases Wk.cases h with hstop|hstep
  ·obtain⟨_,hall⟩:=hstop w (iU Z x w);obtain⟨ho,rfl,rfl,_⟩:=hmode.open_inv trivial;obtain⟨a',hgo,T2,hk⟩:=hall (Vc (Z.n - (r+1)) D) aj (by simpa [pend] using hwg);refine .inr (bookC hZ ha hcom hgo (aside_setCell w (stA Z.Wg) _) (hwg.setSt _) bk_rw (.ske hr hk) ?_ (.inl zV));have e:(((Vc (Z.n - (r+1)) D:Nat):Int)+1)*KK=((Vc (Z.n - (r+1)) D+pend (.sp r 3):Nat):Int)*KK:=by simp[pend]
   rw[e];exact .opn trivial ho aZ
  ·obtain⟨T',a',w',es,x',hlt,hgo,hD,hg'⟩:=hstep w (iU Z x w)
   exact .inr (idleC hZ ha hcom hwg hmode hgo hD (.sa1 hr hg') hlt)
 | ske hr h=>
  rcases Wk.cases h with hstop|hstep
  ·obtain⟨_,a',hgo,T2,hk⟩:=hstop w (iU Z x w);exact .inr (bookC hZ ha hcom hgo (.refl Z.Wg w) hwg bk_en (.sgo hr hk) (hmode.reopen trivial trivial rfl aZ) (.inl zV))
  ·obtain⟨T',a',w',es,x',hlt,hgo,hD,hg'⟩:=hstep w (iU Z x w)
   exact .inr (idleC hZ ha hcom hwg hmode hgo hD (.ske hr hg') hlt)
 | sgo hr h=>
  rcases Wk.cases h with hstop|hstep
  ·exact .inr (c0L hZ hr ha hcom hwg hmode (hstop w (iU Z x w)))
  ·obtain⟨T',a',w',es,x',hlt,hgo,hD,hg'⟩:=hstep w (iU Z x w)
   exact .inr (idleC hZ ha hcom hwg hmode hgo hD (.sgo hr hg') hlt)
 | kd h=>
  rcases Wk.cases h with hstop|hstep
  ·obtain⟨_,a',hgo,T2,hk⟩:=hstop w (iU Z x w);exact .inr (bookC hZ ha hcom hgo (.refl Z.Wg w) hwg bk_dis (.anch hk) (hmode.reopen trivial trivial rfl aZ) (.inl zV))
  ·obtain⟨T',a',w',es,x',hlt,hgo,hD,hg'⟩:=hstep w (iU Z x w)
   exact .inr (idleC hZ ha hcom hwg hmode hgo hD (.kd hg') hlt)
 | anch h=>
  rcases Wk.cases h with hstop|hstep
  ·obtain⟨T2,hk⟩:=hAn x a w (hstop w (iU Z x w));obtain⟨m₁,ops,μ',h1,h2,h3⟩:=w1Step (sl:=sl) (q:=q) (T:=T) hZ hn ha hcom hwg (hmode.reopen trivial trivial rfl aZ) hk;exact .inr ⟨m₁,ops,μ',h1,c0M h2 zV,h3⟩
  ·obtain⟨T',a',w',es,x',hlt,hgo,hD,hg'⟩:=hstep w (iU Z x w)
   exact .inr (idleC hZ ha hcom hwg hmode hgo hD (.anch hg') hlt)
 | w1 h=>exact .inr (w1Step hZ hn ha hcom hwg hmode h)
 | w2 h=>
  rename_i vs;rcases Wk.cases h with hstop|hstep
  ·obtain⟨_,hall⟩:=hstop w (iU Z x w);obtain⟨ho,rfl,rfl,hw2⟩:=hmode.open_inv trivial;obtain⟨hle,h1⟩:=hw2 vs rfl;obtain⟨hhit,hmiss⟩:=hall (Vc Z.n D) aj (by simpa [pend] using hwg);by_cases e:Vc Z.n D=vs
   ·obtain⟨a',hgo,T2,hk⟩:=hhit e;exact .inr (bookC hZ ha hcom hgo (aside_setCell w (stA Z.Wg) _) (hwg.setSt _) bk_rw (.w3 hk) (.reg trivial ho aj) (.inl zV))
   ·obtain⟨a',hgo,T2,hk⟩:=hmiss e;exact .inr (bookC hZ ha hcom hgo (.refl Z.Wg w) hwg bk_rd (.anch hk) (hmode.reopen trivial trivial rfl aZ) (.inl zV))
  ·obtain⟨T',a',w',es,x',hlt,hgo,hD,hg'⟩:=hstep w (iU Z x w)
   exact .inr (idleC hZ ha hcom hwg hmode hgo hD (.w2 hg') hlt)
 | w3 h=>
  rcases Wk.cases h with hstop|hstep
  ·obtain⟨_,hoff,hblk,htake⟩:=hstop w (iU Z x w)
   cases hmode with
   | opn h1 _ _=>exact h1.elim
   | reg h1 h2 h3=>exact .inr (bookC hZ ha hcom (hblk ⟨_,hwg⟩) (.refl Z.Wg w) hwg aZ (.blk (T:=T0) hstop) (.reg trivial h2 h3) (.inr ⟨rfl,.inr ⟨rfl,by simp[qp]⟩⟩))
   | last L h1 h2 h3 h4=>exact .inr (bookC hZ ha hcom (hblk ⟨_,hwg⟩) (.refl Z.Wg w) hwg aZ (.blk (T:=T0) hstop) (.last L trivial h2 h3 h4) (.inr ⟨rfl,.inr ⟨rfl,by simp[qp]⟩⟩))
   | sema h2=>
    obtain⟨a',hgo,T2,hk⟩:=htake hwg
    exact .inr (bookC hZ ha hcom hgo (aside_setCell w (smA Z.Wg) _) (hwg.setSm 0) bk_sem (.w4 hk) (.fin trivial h2) (.inl zV))
   | fin h1 _=>exact h1.elim
  ·obtain⟨T',a',w',es,x',hlt,hgo,hD,hg'⟩:=hstep w (iU Z x w)
   exact .inr (idleC hZ ha hcom hwg hmode hgo hD (.w3 hg') hlt)
 | blk h=>exact absurd hrun aZ
 | w4 h=>
  rcases Wk.cases h with hstop|hstep
  ·obtain⟨_,hx⟩:=hstop w (iU Z x w);obtain⟨h2,rfl,rfl⟩:=hmode.fin_inv trivial;obtain⟨a',hgo,T2,hk⟩:=hx hwg;exact .inr (bookC hZ ha hcom hgo (.refl Z.Wg w) hwg bk_rd (.ke hk) (.fin trivial h2) (.inl zV))
  ·obtain⟨T',a',w',es,x',hlt,hgo,hD,hg'⟩:=hstep w (iU Z x w)
   exact .inr (idleC hZ ha hcom hwg hmode hgo hD (.w4 hg') hlt)
 | ke h=>
  rcases Wk.cases h with hstop|hstep
  ·obtain⟨_,a',hgo,T2,hk⟩:=hstop w (iU Z x w);obtain⟨h2,rfl,rfl⟩:=hmode.fin_inv trivial;exact .inr (bookC hZ ha hcom hgo (.refl Z.Wg w) hwg bk_en (.acq hk) (.fin trivial h2) (.inl zV))
  ·obtain⟨T',a',w',es,x',hlt,hgo,hD,hg'⟩:=hstep w (iU Z x w)
   exact .inr (idleC hZ ha hcom hwg hmode hgo hD (.ke hg') hlt)
 | acq h=>
  rcases Wk.cases h with hstop|hstep
  ·exact .inl (c6E hZ hp hB ha hcom hwg hmode (hstop w (iU Z x w)))
  ·obtain⟨T',a',w',es,x',hlt,hgo,hD,hg'⟩:=hstep w (iU Z x w);exact .inr (idleC hZ ha hcom hwg hmode hgo hD (.acq hg') hlt)
theorem someone_runs(hAr:∀g w,AnchW g w->g.status=.running)(ha:gs[0]?=some a)(hcs:CS Z Cont AnchW tag j T0 d0 x a w)(hcom:Com Z t0 w0 j gs w t D O bx T q d0 x)(hmode:ConcN.Mode j D tag st sm):
 ∃(i:Nat)(g:iY),gs[i]?=some g/\g.status=.running:=by
 rcases hcs.status hAr with⟨hs,_⟩|⟨_,rfl⟩
 ·exact⟨0,a,ha,hs⟩
 ·cases hmode with
  | opn h1 _ _=>exact h1.elim
  | reg _ _ h3=>
   obtain⟨i,hi,h5⟩:=exists_counted h3;obtain⟨g,hg,hs⟩:=hcom.wk i hi
   exact⟨Z.c+i,g,hg,hs.running_of aj⟩
  | last L _ h2 h3 _=>
   obtain⟨g,hg,hs⟩:=hcom.wk L h2
   exact⟨Z.c+L,g,hg,hs.running_of aj⟩
  | fin h1 _=>exact h1.elim
theorem all_awake(hAr:∀g w,AnchW g w->g.status=.running)(ha:gs[0]?=some a)(hcs:CS Z Cont AnchW tag j T0 d0 x a w)(hcom:Com Z t0 w0 j gs w t D O bx T q d0 x):∀g∈gs,awake g:=by
 intro g hg tm;obtain⟨i,hi⟩:=iQ.1 hg;rcases gK i with rfl|h0
 ·rw[ha] at hi;cases hi;rcases hcs.status hAr with⟨hs,_⟩|⟨hs,_⟩<;>rw[hs]<;>simp
 ·by_cases hic:i<Z.c
  ·rcases(hcom.old i g h0 hic hi).status with h|h<;>rw[h]<;>simp
  ·have hlt:i - Z.c<j:=by have:=(bn.1 hi).1;rw[hcom.size] at this;omega
   obtain⟨g',hg',hs⟩:=hcom.wk (i - Z.c) hlt;rw[show Z.c+(i - Z.c)=i by omega,hi] at hg';cases hg';rcases hs.status with h|h<;>rw[h]<;>simp
def Com.at(hZ:lZ Z)(h:Com Z t0 w0 j gs w t D O bx T q d0 x)(d:Nat):Com Z t0 w0 j gs (w.at d) t D O bx T q d0 x:=
 ⟨h.size,h.old,λi hi=>let ⟨g,hg,hs⟩:=h.wk i hi;⟨g,hg,hs.rely hZ ⟨ak _,λ_ _=>rfl,rfl,λ_ _=>rfl,id,id,id,λ_ _=>rfl⟩⟩,⟨h.geo.size,h.geo.lt,h.geo.dj,h.geo.out,h.geo.nb,h.geo.cur,h.geo.zW,h.geo.xl⟩,h.ct,h.norel,h.deaf0,h.deafW,h.rel,h.elder,h.al,h.cb,h.low,h.sfx,h.env⟩
theorem vP(hZ:lZ Z)(hp:Past (Shun Z) B0 t0)(hB:B0<=Z.L0)(hn:Z.n<2147483648)(hAr:∀g w,AnchW g w->g.status=.running)(hAn:∀x g w,AnchW g w->∃T,W0 Z (AtW1 Z Cont AnchW) T x g w):
 ∀μ m t,Inv Z Cont AnchW t0 w0 μ m t->∃N m' t',runNT Z.P N m t=(.next m',t')/\Done Z Cont w0 m' t':=by
 intro μ
 induction μ using(tV.wf Z.n).induction with
 | _ μ ih=>
  rintro m t ⟨gs,w,sl,j,D,O,bx,T,q,tag,T0,d0,x,a,st,sm,rfl,ha,hcs,hcom,hwg,hmode,rfl⟩;obtain⟨i,g,d,sl',hg,hrun,hstep⟩:=crowd_pick (P:=Z.P) (w:=w) (sl:=sl) (all_awake hAr ha hcs hcom) (someone_runs hAr ha hcs hcom hmode);have oR:R0 Z x w (w.at d):=⟨ak _,λ_ _=>rfl,λ_ _=>rfl,id,λ_ _=>rfl⟩;have hcs':=hcs.rely oR;have hcom':=hcom.at hZ d;have hwg':WgAt Z.ty Z.Wg (w.at d) st sm:=hwg;have fin:QJ Z Cont AnchW t0 w0 gs (w.at d) sl' t ⟨phi Z.n (Vc j D) tag+Ssum j D+sumTo Z.c q,T,T0,qp tag⟩ i->∃N m' t',runNT Z.P N (crowd gs w sl) t=(.next m',t')/\Done Z Cont w0 m' t':=λ⟨m₁,ops,μ',h1,h2,h3⟩=>by obtain⟨N,m',t',h4,h5⟩:=ih μ' h2 m₁ _ h3;exact⟨N+1,m',t',by rw[runNT_succ_next (hstep.trans h1)];exact h4,h5⟩
  rcases gK i with rfl|h0
  ·rw[ha] at hg;cases hg;rcases stepCaller (sl:=sl') hZ hp hB hn hAn ha hcs' hcom' hwg' hmode hrun with⟨m₁,ops,h1,h2⟩|h
   ·exact⟨1,m₁,_,by rw[runNT_succ_next (hstep.trans h1)];rfl,h2⟩
   ·exact fin h
  ·by_cases hic:i<Z.c
   ·exact fin (b7o hZ hAr ha hcs' hcom' hwg' hmode (iU Z x _) h0 hic hg hrun)
   ·have hlt:i - Z.c<j:=by have:=(bn.1 hg).1;rw[hcom.size] at this;omega
    have e:Z.c+(i - Z.c)=i:=aj
    have:=stepWorker (sl:=sl') hZ hAr hn ha hcs' hcom' hwg' hmode hlt (by rw[e];exact hg) hrun;rw[e] at this;exact fin this
end
end Go.Mc
namespace Go.To
open Go.Conc
variable{τ:Nat->Question->Nat}{i n p:Nat}{x y κ:List Item}{c:Code}{o:Oper}
section
open Go.ConcN (sumTo upd sumTo_upd upd_ne upd_same)
open Zn (ext low kk Gr K0 Nx tp jJ Zg)
class Lo where
 n:Nat
def Tr[Lo](Sh:tyP)(b:Nat):Prop:=Lo.n<=b/\Sh b
def Aw[Lo](Sh:tyP):Loc->Prop
 | .cell a=>Tr Sh a.block
 | .obj r=>Tr Sh r
 | _=>False
variable[Lo]
structure Ctx(P:Program)(Sh:Nat->Prop)(gs:Array Goroutine)(t:Trace)(q:Nat->Nat)(B:Nat):Prop where
 L:Leavers P t gs q
 past:Past (Aw Sh) B t
 gsb:∀(i:Nat)(op:MemOp),t[i]?=some op->op.g<gs.size
 lo:Lo.n<=B
def pG(P:Program)(B:Nat)(g:iY)(w:aB)(Sh:tyP)(Ψ:Goroutine->World->(Nat->Prop)->Prop):Prop:=
 ∀τ p d k t q,d[0]?=some g->Ctx P Sh d t q B->∃N a c e h l b i f j,runNT P N (crowd d (tp w τ p) k) t=(.next (crowd a (tp c f j) e),h)/\a[0]?=some i/\Ctx P b a h l c.heap.size/\Ψ i c b
abbrev To(P:Program)(g:iY)(w:aB)(Sh:tyP)(Ψ:Goroutine->World->(Nat->Prop)->Prop):Prop:=pG P w g w Sh Ψ
variable{P:Program}{g:Goroutine}{w:World}{Sh:Nat->Prop}{Ψ Ψ':Goroutine->World->(Nat->Prop)->Prop}{B B':Nat}
def To.done(h:Ψ g w Sh):To P g w Sh Ψ:=λτ p a c t q b d=>⟨0,a,w,c,t,q,Sh,g,τ,p,rfl,b,d,h⟩
def To.eU(h:To P g w Sh Ψ):To P g (tp w τ p) Sh Ψ:=λa d b c t q f e=>h a d b c t q f e
def pG.eU(h:pG P B g w Sh Ψ):pG P B g (tp w τ p) Sh Ψ:=λa d b c t q f e=>h a d b c t q f e
theorem Ctx.own{t:Trace}{q:Nat->Nat}{b:Array Goroutine}{w':aB}{es:Array Event}{a':iY}{fn:FuncId}{pos:String}(l:0<b.size)(d:Ctx P Sh b t q B)(c:B<=B')(k:∀e∈es,EvL (Aw Sh) B' e):
 Ctx P Sh ((b.map (woken P g a' w')).setIfInBounds 0 a') (t++MemOp.ofEvents 0 fn pos es) q B':=by
 refine⟨⟨λj x f p=>?_,λj f=>?_⟩,(d.past.mono c).own k,λi m u=>?_,ay d.lo c⟩
 have n:0≠j:=aj
 rw[bf n,oL] at p;obtain⟨y,s,rfl⟩:=bC.1 p;have r:=d.L.old j y f s;rw[woken_quitsD r,Deaf_other t kT _ (λm a=>by obtain⟨e,_,rfl⟩:=Go.Conc.mem_ofEvents a;rfl)];exact r
 rw[Deaf_other t (g':=0) fU _ (λm a=>by obtain⟨e,_,rfl⟩:=Go.Conc.mem_ofEvents a;rfl)];exact d.L.above j<|fU
 have es:((b.map<|woken P g a' w').setIfInBounds 0 a').size=b.size:=aZ
 rw[es];obtain⟨_,h⟩|⟨_,h⟩:=getElem?_append_cases u
 exact d.gsb i m h
 obtain⟨e,_,rfl⟩:=Go.Conc.mem_ofEvents h;exact l
theorem pG.step(hrun:g.status=.running)(h:∀τ p,∃g' w' es B',stepG P true g (tp w τ p)=.go g' w' es/\B<=B'/\(∀e∈es,EvL (Aw Sh) B' e)/\pG P B' g' w' Sh Ψ):pG P B g w Sh Ψ:=by
 have key:∀M gs τ p sl t q,sumTo gs.size q<=M->gs[0]?=some g->Ctx P Sh gs t q B->
  ∃N gs' w' sl' t' q' Sh' g' τ' p',runNT P N (crowd gs (tp w τ p) sl) t=(.next (crowd gs' (tp w' τ' p') sl'),t')/\gs'[0]?=some g'/\Ctx P Sh' gs' t' q' w'.heap.size/\Ψ g' w' Sh':=by
  intro M
  induction M using Nat.strongRecOn with
  | _ M ih=>
  intro gs τ p sl t q hM h0 hc;have haw:∀g∈gs,awake g:=by
   intro y hy;obtain⟨i,hi,rfl⟩:=gG.1 hy;rcases gK i with rfl|hpos
   ·have:gs[0]=g:=by simpa [dN hi] using h0
    rw[this];exact awake_of (.inl hrun)
   ·exact awake_of ((hc.L.old i _ hpos (dN hi)).status.elim .inl λx=>.inr (.inr x))
  obtain⟨i,y,d,sl',hi,hg,hst⟩:=crowd_pick (P:=P) (w:=tp w τ p) (sl:=sl) haw ⟨0,g,h0,hrun⟩;rcases gK i with rfl|hpos
  ·obtain rfl:y=g:=by rw[h0] at hi;exact(aO hi).symm
   obtain⟨g',w',es,B',hgo,hsz,hev,hto⟩:=h τ d;have hrunT:=runT_crowd_go (P:=P) (sl:=sl') (i:=0) hi (show stepG P (0==0) y ((tp w τ p).at d)=_ from hgo);have hlt:0<gs.size:=(bn.1 h0).1;obtain⟨N,r⟩:=hto w'.tape w'.drawn _ sl' _ q (show((gs.map (woken P y g' w')).setIfInBounds 0 g')[0]?=some g' by simp[hlt]) (hc.own (g:=y) (a':=g') (fn:=y.frame.fn) (pos:=y.frame.place) hlt hsz hev);obtain⟨gs',w'',sl'',t',q',Sh',g'',τ',p',h1,h2⟩:=r;exact⟨N+1,gs',w'',sl'',t',q',Sh',g'',τ',p',by simp only[runNT,hst,hrunT];rw[jJ] at h1;exact h1,h2⟩
  ·have hq:=hc.L.old i y hpos hi;have hi0:(i==0)=false:=iw
   have hlt:i<gs.size:=(bn.1 hi).1
   cases hqi:q i with
   | zero=>rw[hqi] at hq;rw[hq.1] at hg;cases hg
   | succ k=>
    rw[hqi] at hq;rcases hq with⟨hf,_⟩|⟨_,g',es,hm,hstp,hq'⟩
    ·rw[hf] at hg;cases hg
    have hrunT:=runT_crowd_go (P:=P) (sl:=sl') (i:=i) hi (by rw[hi0];exact hstp (tp w τ d));have hsz:((gs.map (woken P y g' (tp w τ d))).setIfInBounds i g').size=gs.size:=aZ
    have hsum:sumTo gs.size (upd q i k)+(k+1)=sumTo gs.size q+k:=by have:=sumTo_upd q k id hlt;simpa [hqi] using this
    obtain⟨N,gs',w'',sl'',t',q',Sh',g'',τ',p',h1,h2⟩:=ih (sumTo gs.size (upd q i k)) aj ((gs.map (woken P y g' (tp w τ d))).setIfInBounds i g') τ d sl' (t++MemOp.ofEvents i y.frame.fn y.frame.place es) (upd q i k) (by rw[hsz];omega)
     (by
       have hne:i≠0:=aj
       rw[bf hne,oL,h0];simp[woken_run hrun])
     ⟨⟨λj x hj hx=>by
      by_cases hji:i=j
      ·subst hji;rw[dP (by simpa using hlt)] at hx;obtain rfl:=aO hx;rw[upd_same,Deaf_own];exact hq'
      ·rw[bf hji,oL] at hx;obtain⟨z,hz,rfl⟩:=bC.1 hx;have hqj:=hc.L.old j z hj hz;rw[woken_quitsD hqj,upd_ne q k (dI hji),Deaf_other t hji _ (λop hop=>by obtain⟨e,_,rfl⟩:=Go.Conc.mem_ofEvents hop;rfl)];exact hqj,λj hj=>by
      rw[Deaf_other t (g':=i) (by simp at hj;omega) _ (λop hop=>by obtain⟨e,_,rfl⟩:=Go.Conc.mem_ofEvents hop;rfl)];exact hc.L.above j (by simpa using hj)⟩,hc.past.mute aj hm,λk' op hk=>by
      rw[hsz];rcases getElem?_append_cases hk with⟨_,h⟩|⟨_,h⟩
      ·exact hc.gsb k' op h
      ·obtain⟨e,_,rfl⟩:=Go.Conc.mem_ofEvents h;exact hlt,hc.lo⟩
    exact⟨N+1,gs',w'',sl'',t',q',Sh',g'',τ',p',by simp only[runNT,hst,show runT P (crowd gs ((tp w τ p).at d) sl') i=_ from hrunT];exact h1,h2⟩
 exactλτ p gs sl t q h0 hc=>key _ gs τ p sl t q (ak _) h0 hc
def To.step(hrun:g.status=.running)(h:∀τ p,∃g' w' es,stepG P true g (tp w τ p)=.go g' w' es/\w.heap.size<=w'/\(∀e∈es,EvL (Aw Sh) w' e)/\To P g' w' Sh Ψ):To P g w Sh Ψ:=
 pG.step hrun λτ p=>let ⟨g',w',es,h1,h2,h3,h4⟩:=h τ p;⟨g',w',es,_,h1,h2,h3,h4⟩
def pG.move{g':iY}(hrun:g.status=.running)(h:∀w,stepG P true g w=.go g' w)(k:pG P B g' w Sh Ψ):pG P B g w Sh Ψ:=
 .step hrun λτ p=>⟨g',tp w τ p,#[],B,h _,ak _,aZ,k.eU⟩
def To.move{g':iY}(hrun:g.status=.running)(h:∀w,stepG P true g w=.go g' w)(k:To P g' w Sh Ψ):To P g w Sh Ψ:=pG.move hrun h k
variable{Z:Zn.Zone}{X:Tmp->Prop}{A:Frame->World->Prop}
theorem c1A{B:Nat}{e:Event}(h:Zn.ku (Zn.Zf Z Sh n) B e):EvL (Aw Sh) B e:=by
 obtain⟨loc,wr,sy⟩:=e;unfold Zn.ku at h
 cases loc with
 | cell a=>
  obtain⟨h1,h2,h3⟩:=h;refine⟨λx hx hs=>?_,aZ,aZ,?_⟩
  ·rw[ofEvent_cell0] at hx;simp only[MemAct.touch?,dO] at hx;subst hx;exact absurd hs.2 h2.2
  ·rw[ofEvent_cell0];exact h3
 | obj r=>
  obtain⟨h1,h2,h3⟩:=h;dsimp only at h1;subst h1;refine⟨λx hx hs=>?_,aZ,aZ,?_⟩
  ·have e:MemAct.ofEvent ⟨.obj r,wr,false⟩=.access ⟨.obj r,wr,false⟩:=by cases wr<;>rfl
   rw[e] at hx;simp only[MemAct.touch?,dO] at hx;subst hx;exact absurd hs.2 h2.2
  ·cases wr<;>exact h3
 | mark m=>
  refine⟨λx hx hs=>?_,?_,?_,?_⟩
  ·exfalso;revert h hx;cases m<;>simp[Zn.iG,MemAct.ofEvent,MemAct.touch?]
  ·rintro e;cases e;exact h
  ·rintro e;cases e;exact h
  ·dsimp only at h
   cases m<;>first|exact(h:False).elim|trivial
 | output=>
  refine⟨λx hx hs=>?_,aZ,aZ,?_⟩
  ·dsimp only at h;subst h;have e:MemAct.ofEvent ⟨.output,wr,false⟩=.access ⟨.output,wr,false⟩:=by cases wr<;>rfl
   rw[e] at hx;simp only[MemAct.touch?,dO] at hx;subst hx;exact(hs:False).elim
  ·dsimp only at h;subst h
   cases wr<;>trivial
 | goroutines=>exact(h:False).elim
theorem To.goe{fr:Frame}{l:iZ}(h:Zn.vK P Z Sh X A fr l w){cs:iZ}
 (k:∀fr' w' τ p,Zn.Inv Z Sh X fr' [] w'->w.heap.size<=w'->A (ext fr' K0) (tp w' τ p)->To P (Gr fr' [] κ cs) w' Sh Ψ):To P (Gr fr l κ cs) w Sh Ψ:=by
 induction h with
 | stop fr w hI τ p h=>exact k fr w τ p hI (ak _) h
 | step fr l w hI F L W E h hs he _ ih=>exact To.step rfl λτ p=>⟨_,_,_,h τ p κ cs,hs τ p,λe hE=>c1A (he τ p e hE),ih τ p λfr' w' τ' p' hI' hz=>k fr' w' τ' p' hI' (ay (hs τ p) hz)⟩
end
section
open Zn (ext low kk Gr K0 Nx tp jJ Zg)
section
variable[Lo]
def VD(P:Program)(Ψ:Goroutine->World->(Nat->Prop)->Prop)(b:Frame)(k:List Item)(cs:iZ):Exit->Act->World->(Nat->Prop)->Prop
 | .normal,a,w,d=>To P (G (b.at a k) cs) w d Ψ
 | .exit id,a,w,d=>∃e,exitTo id k=some e/\To P (G (b.at a e) cs) w d Ψ
 | .ret,a,w,d=>∀c,To P (G {b.at a c with mode:=.returning} cs) w d Ψ
 | _,_,_,_=>False
def mX(P:Program)(fn:FuncId)(c:Code)(Q:Exit->Act->World->(Nat->Prop)->Prop)(a:Act)(w:aB)(Sh:tyP):Prop:=
 ∀(b:Frame)(k:List Item)(g:iZ)(Ψ:Goroutine->World->(Nat->Prop)->Prop),b.fn=fn->b.kind=.normal->(∀e f h d,Q e f h d->VD P Ψ b k g e f h d)->To P (G (b.at a (.code c::k)) g) w Sh Ψ
def xR(P:Program)(fn:FuncId)(ops:Array Oper)(c:List Nat)(Q:Exit->Act->World->(Nat->Prop)->Prop)(a:Act)(w:aB)(Sh:tyP):Prop:=
 ∀(b:Frame)(k:List Item)(f:iZ)(Ψ:Goroutine->World->(Nat->Prop)->Prop),b.fn=fn->b.kind=.normal->(∀e h g d,Q e h g d->VD P Ψ b k f e h g d)->To P (G (b.at a (.inRegion ops c::k)) f) w Sh Ψ
def PO(b:Act->World->(Nat->Prop)->Prop)(Q:Exit->Act->World->(Nat->Prop)->Prop):Exit->Act->World->(Nat->Prop)->Prop
 | .normal,a,w,c=>b a w c
 | e,a,w,c=>Q e a w c
variable{P:Program}{fn:FuncId}{Q:Exit->Act->World->(Nat->Prop)->Prop}{a:Act}{w:World}{Sh:Nat->Prop}{Ψ:Goroutine->World->(Nat->Prop)->Prop}{b:Frame}{k:List Item}{cs:List Frame}
theorem VD.push{x:Item}{e:Exit}(i:x.plain=true)(d:e≠.normal)(h:VD P Ψ b k cs e a w Sh):VD P Ψ b (x::k) cs e a w Sh:=by
 cases e with
 | normal=>trivial
 | exit=>let⟨f,j,c⟩:=h;exact⟨f,by cases x<;>simp_all [exitTo,Item.plain],c⟩
 | _=>exact h
def AX{g:Exit->Act->World->(Nat->Prop)->Prop}(h:mX P fn c Q a w Sh)(j:∀e a w Sh,Q e a w Sh->g e a w Sh):mX P fn c g a w Sh:=
 λb k cs Ψ n l m=>h b k _ _ n l λe i f d q=>m e i f d<|j e i f d q
theorem Q5{x y:Code}(h:mX P fn x (PO (λa' w' d=>mX P fn y Q a' w' d) Q) a w Sh):mX P fn (.seq x y) Q a w Sh:=by
 intro b k cs Ψ f g c;refine .move rfl (λ_=>stepG_seq)<|h b _ _ _ f g λe a' w' d q=>?_
 cases e with
 | normal=>exact q b k _ _ f g c
 | _=>exact c _ _ _ _ q
def QC{id:Nat}{ops:Array Oper}(h:xR P fn ops (List.range ops.size) Q a w Sh):mX P fn (.region id ops false) Q a w Sh:=
 λb k cs Ψ c d e=>To.move rfl (λ_=>stepG_region)<|h b k _ _ c d e
def Qg{ops:Array Oper}(h:Q .normal a w Sh):xR P fn ops [] Q a w Sh:=λb k cs Ψ _ _ c=>.move rfl (λ_=>stepG_region_end)<|c _ _ _ _ h
theorem b8e{ops:Array Oper}{rest:List Nat}{v:aX}(g:ops[i]?=some o)(f:Region.wanted o (yielded ops a.tmps)=true)(j:∀w,(execOp a.eval o).run P w=.ok (.value v) w)
 (l:∀w,(execOp a.eval o).events P w #[]=#[])(h:xR P fn ops rest Q (a.put o.dst v) w Sh):xR P fn ops (i::rest) Q a w Sh:=λb k cs Ψ n d m=>
 .move rfl (λw=>by
  have e:listed P b.fn a o w=#[]:=by unfold listed;rw[l];rfl
  rw[stepG_value g f fU (j w),e]) (h b k _ _ n d m)
def bodyT(P:Program)(fn:Func)(Post:Value->World->(Nat->Prop)->Prop):Exit->Act->World->(Nat->Prop)->Prop
 | .normal,a,w,Sh|.ret,a,w,Sh=>a.defers=[]/\∃v,ResultsC P fn a.tmps v/\Post v w Sh
 | _,_,_,_=>False
def Jb(P:Program)(f:FuncId)(args:dU)(w:aB)(Sh:tyP)(Post:Value->World->(Nat->Prop)->Prop):Prop:=
 ∃fn c,P.funcs[f]?=some fn/\(fn.name== "runtime.NumGoroutine")=false/\fn.body=some c/\
  mX P f c (bodyT P fn Post) {tmps:=args++Array.replicate (fn.ntmps - args.size) undef,defers:=[]} w Sh
theorem c1B{ops:Array Oper}{rest:List Nat}{f:FuncId}{args:Array Operand}{ats:Array TypeId}{Post:Value->World->(Nat->Prop)->Prop}(E:ops[i]?=some o)(N:Region.wanted o (yielded ops a.tmps)=true)
 (x:o.op=.call {callee:=.value (.func f),args,argTypes:=ats})(s:Jb P f (args.map a.eval) w Sh Post)(h:∀v w' d,Post v w' d->xR P fn ops rest Q (a.put o.dst v) w' d):xR P fn ops (i::rest) Q a w Sh:=by
 intro b k cs Ψ J H M;let⟨z,c,D,p,n,y⟩:=s;have t:∀v,(b.at a<|.inRegion ops (i::rest)::k).finish v=b.at (a.put o.dst v) _:=λv=>by rw[Frame.finish_at,E];rfl
 have j:∀(r:Act)(w':aB)(d:tyP)(m:List _),(r.defers=[]/\∃v,ResultsC P z r.tmps v/\Post v w' d)->
  To P (G {(base f).at r m with mode:=.returning}<|b.at a (.inRegion ops (i::rest)::k)::cs) w' d Ψ:=by
  rintro r w' d m ⟨L,v,F,I⟩;refine To.move rfl (λg=>?_)<|h v w' d I b k cs Ψ J H M;rw[stepG_leave rfl L D (F g).1 (F g).2,t]
 refine To.move rfl (λg=>?_)<|y (base f) [] (b.at a (.inRegion ops (i::rest)::k)::cs) Ψ rfl rfl λe r w' d q=>?_
 obtain⟨C,w',B,e,K⟩:=goes_elim (goes_call (K:=λC w' B=>C=_/\w'=g/\B=#[]) E N (by rw[H];simp) x D p n ⟨rfl,rfl,rfl⟩:(stepG P true _ g).goes _);let⟨rfl,rfl,rfl⟩:=K;exact e
 cases e with
 | normal=>exact To.move rfl (λ_=>stepG_end)<|j r w' d [] q
 | ret=>exactλm=>j r _ d m q
 | _=>trivial
end
variable{P:Program}{fn:FuncId}{Q:Exit->Act->World->(Nat->Prop)->Prop}{a:Act}{w:World}{Sh:Nat->Prop}{Ψ:Goroutine->World->(Nat->Prop)->Prop}{b:Frame}{k:List Item}{cs:List Frame}
structure Iv(Z:Zn.Zone)(Sh:Nat->Prop)(X:Tmp->Prop)(a:Act)(w:World):Prop where
 tmps:∀t,X t->Zn.VP (Zn.Zf Z Sh w) (a.tmps.getD t undef)
 defers:Zn.jY (Zn.Zf Z Sh w) a.defers
 W:Zn.kH Z Sh w
variable{Z:Zn.Zone}{X:Tmp->Prop}
theorem Iv.inv(h:Iv Z Sh X a w)(j:b.kind=.normal)(g:Zn.gV Z c)(f:Zn.iW X c):Zn.Inv Z Sh X (b.at a [.code c]) [] w:=
 ⟨⟨⟨h.tmps,λx i=>by
  obtain rfl:x=.code c:=by simpa [Frame.at] using i
  exact .code c (g.mono h.W.le) f,h.defers,.inl rfl,j,λl e=>by cases e⟩,λ_=>rfl⟩,trivial,h.W⟩
theorem nI(h:x++y=y):x=[]:=by simp_all
theorem lS[Lo]{Q0:Exit->Act->World->Prop}(E:∀s,Zn.Le Z s->Zn.t_ s P)(J:Iv Z Sh X a w)(G:Zn.gV Z c)(L:Zn.iW X c)(h:∀τ p,c.wp P Q0 a (tp w τ p))
 (o:∀e a' w' τ p,Q0 e a' (tp w' τ p)->(e=.normal\/e=.ret)/\(Iv Z Sh X a' w'->w.heap.size<=w'->Q e a' w' Sh)):mX P fn c Q a w Sh:=by
 intro b k cs Ψ O H t
 let A:=λF w'=>∃a',(F=b.at a' K0/\Q0 .normal a' w')\/(∃d,F={b.at a' d with mode:=.returning}/\Q0 .ret a' w')
 have D:Zn.vK P Z Sh X A (b.at a [.code c]) [] w:=by
  refine Zn.uy (by
  rintro F w' ⟨a',⟨rfl,_⟩|⟨d,rfl,_⟩⟩ c h
  cases h
  cases h) E (J.inv H G L) λτ p=>?_;obtain⟨e,a',w',i,l⟩:=h τ p b K0 _;obtain rfl|rfl:=(o e a' w' _ _<|qc).1
  obtain⟨n,r⟩:=l;exact⟨n,_,r,_,_,rfl,a',.inl ⟨rfl,i⟩⟩
  obtain⟨d,n,r⟩:=l;exact⟨n,_,r,_,_,rfl,a',.inr ⟨d,rfl,i⟩⟩
 refine To.goe D λg w' τ p f u⟨a',y⟩=>?_;have v:∀d,g=b.at a' d\/g={b.at a' d with mode:=.returning}->Iv Z Sh X a' w':=by
  rintro d (rfl|rfl)
  exact⟨f.fr.1.tmps,f.fr.1.defers,f.W⟩
  exact⟨f.fr.1.tmps,f.fr.1.defers,f.W⟩
 obtain⟨e,i⟩|⟨d,e,i⟩:=y
 obtain⟨B,M,q,N,K,C,z⟩:=g;simp only[ext,Frame.at,Frame.mk.injEq] at e;obtain⟨rfl,rfl,x,rfl,rfl,rfl,rfl⟩:=e;obtain rfl:=nI x;have:=t _ _ _ _ ((o _ _ _ _ _ i).2 (v []<|.inl rfl) u);exact this
 obtain⟨B,M,q,N,K,C,z⟩:=g;obtain⟨rfl,rfl,x,rfl,rfl,rfl,rfl⟩:=e;have:=t _ _ _ _ ((o _ _ _ _ _ i).2 (v q<|.inr rfl) u)<|q++k;trivial
end
end Go.To
namespace Go.Nm
open Go.Conc
variable{B:Nat}{q:Nat->Nat}
section
open Zn (ext kk low Gr K0 c0 iG)
open To (Aw Ctx)
variable[To.Lo]{P:Program}{D:m_}{A:Frame->World->Prop}
theorem vq(l:Loc):¬Aw (λ_=>False) l:=by cases l<;>first|exactλh=>h.2|exact id
theorem b5P{e:Event}(h:tX B e):EvL (Aw λ_=>False) B e:=by
 refine⟨λx _ g=>absurd g<|vq _,?_,?_,?_⟩
 rintro c;unfold tX at h;rw[c] at h;exact h
 rintro c;unfold tX at h;rw[c] at h;exact h
 let⟨f,b,d⟩:=e;cases f with
 | obj=>cases b<;>cases d<;>exact h
 | mark m=>cases m<;>trivial
 | _=>trivial
theorem Gt(g:iY)(B:Nat)(a:To.Lo.n<=B):Ctx P (λ_=>False) #[g] #[] (λ_=>0) B:=⟨leavers_one P g,(by funext l;exact eq_false<|vq l)▸past_nil.mono (dD B),λi c b=>qc,a⟩
theorem Cm{Sh c:tyP}{d:Array Goroutine}{t:Trace}(h:Ctx P Sh d t q B)(e:∀b,Sh b->c b):Ctx P c d t q B:=
 ⟨h.L,⟨h.past.clean,λi a f k=>(h.past.known i a f k).imp id λ⟨j,g⟩=>⟨by revert j;cases a.loc<;>first|exactλh=>⟨h.1,e _ h.2⟩|exact id,g⟩,h.past.over,h.past.hears,h.past.seen⟩,h.gsb,h.lo⟩
def By:Aw (λ_=>False)=λ_=>False:=funext λl=>eq_false<|vq l
def Cj{a:Array Goroutine}{t:Trace}{q:Nat->Nat}{B:Nat}(h:Ctx P (λ_=>False) a t q B):Leavers P t a q/\Past (λ_=>False) B t/\∀(i:Nat)(op:MemOp),t[i]?=some op->op.g<a.size:=⟨h.L,By▸h.past,h.gsb⟩
def Lr{a:Array Goroutine}{t:Trace}(h:Leavers P t a q/\Past (λ_=>False) B t/\∀(i:Nat)(op:MemOp),t[i]?=some op->op.g<a.size)(b:To.Lo.n<=B):Ctx P (λ_=>False) a t q B:=⟨h.1,By.symm▸h.2.1,h.2.2,b⟩
theorem Way.runs{fr:Frame}{l:iZ}{w:aB}(h:Way P A fr l w)(κ:List Item)(cs:iZ):∀(t:Trace),Ctx P (λ_=>False) #[Gr fr l κ cs] t (λ_=>0) w.heap.size->
 ∃N F w' g,A (ext F K0) w'/\runNT P N (solo (Gr fr l κ cs) w) t=(.next (solo (Gr F [] κ cs) w'),g)/\Ctx P (λ_=>False) #[Gr F [] κ cs] g (λ_=>0) w'.heap.size/\Rows w w':=by
 induction h with
 | stop fr w h=>exactλt d=>⟨0,fr,w,t,h,rfl,d,Rows.refl w⟩
 | step fr l w a c w' x h i r k s=>
  intro t d;have b:=d.own (g:=Gr fr l κ cs) (a':=Gr a c κ cs) (w':=w') (fn:=(Gr fr l κ cs).frame.fn) (pos:=(Gr fr l κ cs).frame.place) aZ i.1 λe q=>b5P<|r e q;have m:((#[Gr fr l κ cs].map<|woken P (Gr fr l κ cs) (Gr a c κ cs) w').setIfInBounds 0<|Gr a c κ cs)=#[Gr a c κ cs]:=aZ
  rw[m] at b;let⟨N,F,v,j,u,n,o,p⟩:=s _ b;refine⟨N+1,F,v,j,u,?_,o,i.trans p⟩;simp[runNT];rw[stepT_solo rfl,runT_solo_go<|h _ _];exact n
end
end Go.Nm
namespace Go.Fs
open Go.Conc
variable{g:iY}{w:aB}{c:Code}{b:Frame}{v:aX}{f:FuncId}
section
open Zn (Gr tp jJ)
open To (To pG Ctx Aw)
variable{P:Program}{Post:Value->World->Prop}
abbrev JX:To.Lo:=⟨0⟩
def Fin(P:Program)(Post:Value->World->Prop)(g:iY)(w:aB)(t:Trace):Prop:=
 ∃M a o b c,runNT P (M+1) (solo g w) t=(.ended o b,c)/\runN P M (solo g w)=.next a/\step P a=.ended o b/\Conc.Good P Post a o b c
def So(P:Program)(Post:Value->World->Prop)(g:iY)(w:aB):Prop:=∀t,@Ctx JX P (λ_=>False) #[g] t (λ_=>0) w.heap.size->Fin P Post g w t
def So.mono{a:Value->World->Prop}(h:So P Post g w)(c:∀v w',Post v w'->a v w'):So P a g w:=λt d=>have⟨M,b,o,w',k,j,f,i,e⟩:=h t d;⟨M,b,o,w',k,j,f,i,e.mono λv=>c v _⟩
def So.fin(h:So P Post g w):Fin P Post g w #[]:=h _ (@Nm.Gt JX P g _<|dD _)
theorem Fin.of_run{N:Nat}{g':iY}{w':aB}{t b:Trace}(h:runNT P N (solo g w) t=(.next (solo g' w'),b))(k:Fin P Post g' w' b):Fin P Post g w t:=by
 let⟨M,a,o,l,i,d,j,f,c⟩:=k;refine⟨N+M,a,o,l,i,?_,?_,f,c⟩
 rw[show N+M+1=N+(M+1) by omega,runNT_add,h];exact d
 have e:runN P N (solo g w)=.next (solo g' w'):=by rw[<-runNT_fst P N _ t,h]
 rw[runN_add,e];exact j
theorem So.move{g':iY}(a:g.status=.running)(h:∀w,stepG P true g w=.go g' w)(k:So P Post g' w):So P Post g w:=by
 intro t i;letI:=JX
 have b:=i.own (g:=g) (a':=g') (w':=w) (es:=#[]) (fn:=g.frame.fn) (pos:=g.frame.place) aZ (ak _) (λe j=>fU);have f:(#[g].map<|woken P g g' w).setIfInBounds 0 g'=#[g']:=aZ
 rw[f] at b;have:=k _ b;refine .of_run (N:=1) ?_ this;simp[runNT];rw[stepT_solo a,runT_solo_go<|h w]
theorem So.piece{D:Nm.m_}(z:Nm.Jz D P)(O:Nm.kM D c){a:Act}(U:a.defers=[])(r:∀g,g<P.globals.size->Nm.lY w g){Q0:Exit->Act->World->Prop}(h:c.wp P Q0 a w)(V:∀e a' w',Q0 e a' w'->e=.normal\/e=.ret)(b:Frame)(L:b.kind=.normal)(k:List Item)(cs:iZ)
 (o:∀a' w',Q0 .normal a' w'->Nm.Rows w w'->So P Post (G (b.at a' k) cs) w')(j:∀a' w' d,Q0 .ret a' w'->Nm.Rows w w'->So P Post (G {b.at a' d with mode:=.returning} cs) w'):So P Post (G (b.at a (.code c::k)) cs) w:=by
 intro t l;letI:=JX
 let A:=λF w'=>∃a',(F=b.at a' Zn.K0/\Q0 .normal a' w')\/(∃d,F={b.at a' d with mode:=.returning}/\Q0 .ret a' w')
 have B:∀F w',A F w'->∀c,F.mode≠.panicking c:=by
  rintro F w' ⟨a',⟨rfl,_⟩|⟨d,rfl,_⟩⟩ c h
  cases h
  cases h
 have C:Nm.rJ D (b.at a [.code c]) []:=⟨⟨λx l=>by
  obtain rfl:x=.code c:=by simpa [Frame.at] using l
  exact .code c O,U,.inl rfl,L,rfl⟩,λx l=>by cases l⟩
 have I:Nm.Way P A (b.at a [.code c]) [] w:=by
  let⟨e,a',w',i,m⟩:=h b Zn.K0 [Zn.c0];obtain rfl|rfl:=V _ _ _ i
  let⟨n,q⟩:=m;exact Nm.qB B z n _ [] w r C ⟨_,q,_,_,rfl,a',.inl ⟨rfl,i⟩⟩
  let⟨d,n,q⟩:=m;exact Nm.qB B z n _ [] w r C ⟨_,q,_,_,rfl,a',.inr ⟨d,rfl,i⟩⟩
 let⟨N,F,w',y,⟨a',J⟩,s,H,E⟩:=I.runs k cs t l;obtain⟨e,i⟩|⟨d,e,i⟩:=J
 let⟨K,R,u,T,Q,S,M⟩:=F;simp only[Zn.ext,Frame.at,Frame.mk.injEq] at e;obtain⟨rfl,rfl,v,rfl,rfl,rfl,rfl⟩:=e;obtain rfl:=To.nI v;exact Fin.of_run s<|o a' w' i E y H
 let⟨K,R,u,T,Q,S,M⟩:=F;obtain⟨rfl,rfl,v,rfl,rfl,rfl,rfl⟩:=e;exact .of_run s<|j a' w' _ i E y H
def VX(P:Program)(Post:Value->World->Prop)(g:iY)(w:aB):Prop:=
 g.status=.running/\∃v,∀τ p,stepG P true g (tp w τ p)=.ended (.done v) (tp w τ p) #[]/\Post v (tp w τ p)
theorem So.to[To.Lo]{g:iY}{w:aB}{Sh:tyP}(k:To.Lo.n<=w)(h:To P g w Sh λg' w' _=>VX P Post g' w'):So P Post g w:=by
 intro t z;obtain⟨N,n,w',i,J,I,j,g',a,r,l,H,p,A,v,C⟩:=h _ _ #[g] none t _ rfl (Nm.Cm (Nm.Lr (@Nm.Cj JX _ _ _ _ _ z) k) λ_ h=>h.elim);rw[jJ] at l;have x:Goes P true AtRel (λ_ _ _=>False) (AtEnd P (Aw j) w' Post) 0 g' (tp w' a r):=by refine Goes.stop λs c=>?_;obtain⟨d,rfl⟩:=c;have:=C a d;exact⟨A,v,#[],this.1,λe E=>iL,this.2⟩
 obtain⟨M,f,o,G,y,D,u,F,B⟩:=beside_ends (λ_ _ _ h=>h.elim) H p.L p.past x;refine⟨N+M,f,o,G,y,?_,?_,F,B⟩
 rw[show N+M+1=N+(M+1) by omega,runNT_add,solo_eq_crowd,l];exact D
 have e:runN P N (solo g w)=.next (crowd n (tp w' a r) i):=by rw[<-runNT_fst P N _ t,solo_eq_crowd,l]
 rw[runN_add,e];exact u
theorem nG{a:Act}{c:List Item}{fn:Func}(h:b.kind=.normal)(j:a.defers=[])(i:P.funcs[b.fn]?=some fn)(d:P.inits.idxOf? b.fn=none)
 (e:ResultsC P fn a.tmps v)(f:∀τ p,Post v (tp w τ p)):VX P Post (G {b.at a c with mode:=.returning} []) w:=by
 refine⟨rfl,v,λτ p=>⟨?_,f τ p⟩⟩;simp[G,stepG,unwind,doReturn,Frame.at,h,j,i,(e<|tp w τ p).1,(e<|tp w τ p).2,d,seen,GStep.after]
def So.ended(h:VX P Post g w):So P Post g w:=@.to P _ JX g w (λ_=>False) (dD _)<|@.done JX P g w _ _ h
theorem FN[To.Lo]{fn:Func}{a:Act}{Sh:tyP}(d:b.fn=f)(m:b.kind=.normal)(n:P.funcs[f]?=some fn)(g:P.inits.idxOf? f=none)
 (h:To.mX P f c (To.bodyT P fn λv w _=>∀τ p,Post v (tp w τ p)) a w Sh):To P (G (b.at a [.code c]) []) w Sh λg' w' _=>VX P Post g' w':=by
 apply h b [] [] _ d m;intro e s w' r q
 cases e with
 | normal=>
  let⟨k,v,j,i⟩:=q
  exact .move rfl (λ_=>stepG_end) (.done<|nG m k fU fU j i)
 | ret=>
  let⟨k,v,j,i⟩:=q
  exactλo=>.done<|nG m k fU fU j i
 | _=>trivial
section
variable{H:Type}{enc:TypeId×Value->H}
theorem lT{a:Assume}{C:Checked}{os:Os}{fn:Func}{s:OpenSpec}{F:Stop.Interp}{h:List PathCond}{b n g l:Bool}{m:List (String×DataW Unit)}
 (K:ownKnob C.prog.godebug=none)(p:os.Started)(E:C.prog.funcs[f]?=some fn)
 (q:∃(w:aB)(c:Tape)(i:Input),w.os=os/\(w.forCall c i).Shaped C.prog/\i.vars=[]/\Input.okWide C.prog (w.forCall c i) .any w f i/\
   s.preRow enc C.prog fn h b m (w.forCall c i).memory i.args/\a.holds C.prog (lone (Frame.enter C.prog f i.args .normal) [] (w.forCall c i)))
 (y:∀(W:aB)(base:Nat)(args:dU)(ds u:List (DataW H))(d:List MemPlace),
   (∀(j:Nat)t v,fn.params[j]?=some t->args[j]?=some v->Value.okWide C.prog W .any base t v)->
   DataW.Whole enc C.prog fn.params.toList s.vars b W args.toList ds u d->
   h.all (PathCond.test C.prog ⟨fn.params.toList,ds,s.bare.plain.varTypes C.prog,u⟩)=true->
   (∀k,s.cond=some k->k H (ds++u)=true)->
   (DataW.weightsEach C.prog (fn.params.toList++s.bare.plain.varTypes C.prog) (ds++u)).all (· ≤ reachBytes)=true->
   laidMetH C.prog m W->
   W.ShapedOpen C.prog->
   a.holds C.prog (lone (Frame.enter C.prog f args .normal) [] W)->
   So C.prog (λv W'=>(s.at F).post enc C.prog fn b n g l W args v W') (G (Frame.enter C.prog f args .normal) []) W):
 ReturnsInLeavingWide a C os f .any (s.preRow enc C.prog fn h b m) ((s.at F).post enc C.prog fn b n g l):=by
 apply returnsInLeavingWide_of_good K p q;intro w c i _ N _ D A r;let⟨_,_,_,I,z,_,_,_,_,x⟩:=D;have e:=aO<|z.symm.trans E;subst e;let⟨⟨L,Y⟩,V⟩:=A;let⟨ds,u,d,O,S,X⟩:=OpenSpec.pre_parts L;let⟨M,B,o,Z,P,T,U,Q,R⟩:=(y _ _ _ ds u d x (.of_heap (by rfl) O) S X (V.weights O) (Y.of_heap<|by rfl) N r).fin;exact⟨M,B,o,Z,P,T,U,Q,R.mono λv L=>ChangeSpec.post_blind L⟩
end
end
section
variable{P:Program}{Post:Value->World->Prop}
def WK(K R:Act->World->Prop):Exit->Act->World->Prop
 | .normal,a,w=>a.defers=[]/\K a w
 | .ret,a,w=>R a w
 | _,_,_=>False
def WL(P:Program)(N R:Act->World->Prop):List Code->Act->World->Prop
 | [],a,w=>N a w
 | c::b,a,w=>c.wp P (WK (WL P N R b) R) a w
def chain:List Code->Code->Code
 | [],c=>c
 | x::a,c=>.seq x (chain a c)
theorem So.list{D:Nm.m_}(x:Nm.Jz D P){N R:Act->World->Prop}(s:b.kind=.normal){rest:Code}{k:List Item}{f:iZ}
 (i:∀a' w',N a' w'->a'.defers=[]->(∀g,g<P.globals.size->Nm.lY w' g)->So P Post (G (b.at a' (.code rest::k)) f) w')(j:∀a' w' d,R a' w'->So P Post (G {b.at a' d with mode:=.returning} f) w'):
 ∀(cs:List Code)(a:Act)(w:aB),(∀c∈cs,Nm.kM D c)->WL P N R cs a w->a.defers=[]->(∀g,g<P.globals.size->Nm.lY w g)->So P Post (G (b.at a (.code (chain cs rest)::k)) f) w:=by
 intro cs
 induction cs with
 | nil=>exactλa w _ h o m=>i a w h o m
 | cons c cs v=>
  intro a w r h o m;apply So.move rfl (λ_=>stepG_seq);apply So.piece x fU o m h (λe a' w' q=>by cases e<;>first|grind|trivial) b s _ f
  rintro a' w' ⟨p,q⟩ t;exact v a' w' fU q p λg u=>t.2 g<|m g u
  exactλa' w' d q _=>j _ _ d q
def okV:Value->Bool
 | .bool _|.int _ _|.string _|.pointer none|.slice none _ _|.nilIface=>true
 | .tuple c=>c.isEmpty
 | _=>false
theorem okV.sound{Z:Zn.Zone}(h:okV v=true):Zn.VP Z v:=by
 unfold okV at h;split at h
 exact .bool _
 exact .int _ _
 exact .string _
 exact .kK
 exact .jv _ _
 exact .nilIface
 rename_i c;exact .tuple c λx b=>by grind
 cases h
theorem okV.all{T:dU}{X:Tmp->Bool}(n:Nat)(b:List Nat)(h:(List.range n).all (λk=>!X k||(b.contains k||okV (T.getD k undef)))=true)(d:∀k,X k=true->k<n){k:Nat}(c:X k=true)(e:k∉b):okV (T.getD k undef)=true:=by grind
end
end Go.Fs
namespace Go.To
open Go.Conc
variable{f:FuncId}{k:Nat}
section
open Zn (tp jJ)
section
variable[Lo]{P:Program}{fn:FuncId}{Q:Exit->Act->World->(Nat->Prop)->Prop}{w:World}{Sh:Nat->Prop}{ops:Array Oper}{i n d:Nat}{rest:List Nat}{o:Oper}{v:Value}{T:Array Value}{ds:List Deferred}
theorem xh(c:o.dst=some d)(b:T.size=n)(e:d<n):∃T',Act.put ⟨T,ds⟩ o.dst v=⟨T',ds⟩/\T'.size=n/\T'[d]?=some v/\∀k,k≠d->T'[k]?=T[k]?:=
 ⟨T.setIfInBounds d v,by rw[c];rfl,fU,dP<|aj,λk a=>bf<|.symm a⟩
def c5g(q:ops[i]?=some o)(p:o.dst=some d)(l:Region.wanted o (yielded ops T)=true)(m:T.size=n)(g:d<n)
 (j:∀w,(execOp (Act.eval ⟨T,ds⟩) o).run P w=.ok (.value v) w/\(execOp (Act.eval ⟨T,ds⟩) o).events P w #[]=#[])
 (h:∀T',T'.size=n->T'[d]?=some v->(∀k,k≠d->T'[k]?=T[k]?)->xR P fn ops rest Q ⟨T',ds⟩ w Sh):xR P fn ops (i::rest) Q ⟨T,ds⟩ w Sh:=have⟨T',e,a,b,c⟩:=xh p m g;b8e q l (λw=>(j w).1) (λw=>(j w).2)<|e▸h _ a b c
def b8f{args:Array Operand}{ats:Array TypeId}{Post:Value->World->(Nat->Prop)->Prop}(s:ops[i]?=some o)(u:o.dst=some d)(r:Region.wanted o (yielded ops T)=true)(m:o.op=.call {callee:=.value (.func f),args,argTypes:=ats})(t:T.size=n)(p:d<n)
 (j:Jb P f (args.map (Act.eval ⟨T,ds⟩)) w Sh Post)
 (h:∀v w' g T',Post v w' g->T'.size=n->T'[d]?=some v->(∀k,k≠d->T'[k]?=T[k]?)->xR P fn ops rest Q ⟨T',ds⟩ w' g):xR P fn ops (i::rest) Q ⟨T,ds⟩ w Sh:=
 c1B s r m j λv w' g q=>have⟨T',e,a,b,c⟩:=xh u t p;e▸h v _ g _ q a b c
variable{Z:Zn.Zone}{X Y:Tmp->Prop}
theorem Iv.keep{T':dU}(a:Iv Z Sh X ⟨T,ds⟩ w)(h:∀k,X k->T'[k]?=T[k]?\/∃v,T'[k]?=some v/\Zn.VP (Zn.Zf Z Sh w) v):Iv Z Sh X ⟨T',ds⟩ w:=by
 refine⟨λt b=>?_,a.defers,a.W⟩;rw[aV];obtain h|⟨v,h,d⟩:=h t b
 rw[h,<-aV];exact a.tmps t b
 grind
def Iv.less{a:Act}(b:Iv Z Sh X a w)(h:∀k,Y k->X k):Iv Z Sh Y a w:=⟨λt c=>b.tmps t<|h t c,b.defers,b.W⟩
theorem uL{args:dU}(b:Zn.kH Z Sh w)(e:∀v∈args,Zn.VP (Zn.Zf Z Sh w) v):Iv Z Sh Zn.Full ⟨args++Array.replicate k undef,[]⟩ w:=by
 refine⟨λt _=>?_,λd c=>(by cases c),b⟩;rw[aV,mD];split
 rename_i h;rw[dN h];exact e _<|zQ h
 rw[kV];split<;>exact Zn.jI
end
end
section
open Zn (tp jJ)
def I_(ops:Array Oper)(i d:Nat)(op:Op)(g:Option (Nat×Bool)):Prop:=(ops[i]?).map (λo=>(o.dst,o.op,o.guard))=some (some d,op,g)
section
variable[Lo]{P:Program}{fn:FuncId}{Q:Exit->Act->World->(Nat->Prop)->Prop}{w:World}{Sh:Nat->Prop}{ops:Array Oper}{i n d:Nat}{rest:List Nat}{v:Value}{T:Array Value}{ds:List Deferred}{op:Op}{g:Option (Nat×Bool)}{ρ:Operand->Value}{x y:Operand}
omit[Lo] in
def I_.of(h:(ops[i]?).map (λo=>(o.dst,o.op,o.guard))=some (some d,op,g)):I_ ops i d op g:=h
omit[Lo] in
theorem I_.get(h:I_ ops i d op g):∃o,ops[i]?=some o/\o.dst=some d/\o.op=op/\o.guard=g:=by unfold I_ at h;obtain⟨o,h1,h2⟩:=bC.1 h;injection h2 with h2 h3;injection h3 with h3 h4;exact⟨o,h1,h2,h3,h4⟩
def Wn(ops:Array Oper)(T:dU)(g:Option (Nat×Bool))(b:Bool):Prop:=∀o:Oper,o.guard=g->Region.wanted o (yielded ops T)=b
theorem tN:Wn ops T none true:=λo h=>by unfold Region.wanted;rw[h]
def Runs(P:Program)(ρ:Operand->Value)(op:Op)(v:aX):Prop:=∀o:Oper,o.op=op->∀w,(execOp ρ o).run P w=.ok (.value v) w/\(execOp ρ o).events P w #[]=#[]
def uK(h:I_ ops i d op g)(m:Wn ops T g true)(l:T.size=n)(a:d<n)(j:Runs P (Act.eval ⟨T,ds⟩) op v)
 (k:∀T',T'.size=n->T'[d]?=some v->(∀k,k≠d->T'[k]?=T[k]?)->xR P fn ops rest Q ⟨T',ds⟩ w Sh):xR P fn ops (i::rest) Q ⟨T,ds⟩ w Sh:=have⟨o,e,b,f,c⟩:=h.get;c5g e b (m o c) l a (j o f) k
def cH{args:Array Operand}{ats:Array TypeId}{Post:Value->World->(Nat->Prop)->Prop}(h:I_ ops i d (.call {callee:=.value (.func f),args,argTypes:=ats}) none)(l:T.size=n)(c:d<n)
 (a:Jb P f (args.map (Act.eval ⟨T,ds⟩)) w Sh Post)
 (k:∀v w' b T',Post v w' b->T'.size=n->T'[d]?=some v->(∀k,k≠d->T'[k]?=T[k]?)->xR P fn ops rest Q ⟨T',ds⟩ w' b):xR P fn ops (i::rest) Q ⟨T,ds⟩ w Sh:=have⟨o,m,g,j,e⟩:=h.get;b8f m g (tN o e) j l c a k
theorem Jt(h:ρ x=v):Runs P ρ (.move x) v:=λo b w=>by constructor<;>simp[go_sem,b,h]
theorem MR(h:ρ x=v):Runs P ρ (.assign x) v:=λo b w=>by constructor<;>simp[go_sem,b,h]
theorem O7(h:T[k]?=some v):Act.eval ⟨T,ds⟩ (.tmp k)=v:=by show T.getD k _=v;simp_all
end
end
end Go.To
namespace Go.Mw
open Go.Conc Go.RowKit Go.Conc.Lib Go.ConcR.Gen Go.ConcN.Gen Mc
variable{n:Nat}{g:iY}
section
open Go.ConcR (KK wgBlock WgAt stA smA rd wr mk DC0)
open Go.ConcN (WgLive)
open Go.ConcM (goes_le)
variable[Go.ConcR.Payload]
section
variable{Z:Pz}{x:Option Nat}
omit[Go.ConcR.Payload] in
def mi{w:aB}{es:Array Event}(h:∀e∈es,False):D0 Z x x w w es:=⟨ak _,rfl,rfl,rfl,λ_ _ _=>rfl,.inl rfl,λe he=>(h e he).elim⟩
omit[Go.ConcR.Payload] in
theorem c65{w:aB}{m:Mark}(h:Bi.iG m\/∃a,(m=.read a\/m=.write a)/\a.block=Z.Wg):D0 Z x x w w #[⟨.mark m,false,true⟩]:=
 ⟨ak _,rfl,rfl,rfl,λ_ _ _=>rfl,.inl rfl,λe he=>by rw[uU] at he;subst he;exact h⟩
omit[Go.ConcR.Payload] in
theorem c9U{w w':aB}{es:Array Event}(h:DC0 w w' es):D0 Z x x w w' es:=by obtain⟨rfl,rfl⟩:=h;exact mi aZ
def Kn(Z:Pz)(x:Option Nat)(w0 w:aB):Prop:=R0 Z x w0 w/\WgLive Z.ty Z.Wg w
variable{w0 w w₁:World}
def Kn.rely(h:Kn Z x w0 w)(r:R0 Z x w w₁):Kn Z x w0 w₁:=⟨R0.trans Z h.1 r,r.live h.2⟩
abbrev gW:=@Kn.rely
theorem Kn.set(hZ:lZ Z)(hx:x≠some Z.Wg)(h:Kn Z x w0 w)(a:Addr)(ha:a.block=Z.Wg)(v:aX)(hl:WgLive Z.ty Z.Wg (w.setCell a v)):Kn Z x w0 (w.setCell a v):=by have ho:∀b,b≠Z.Wg->(w.setCell a v).heap[b]?=w.heap[b]?:=λb hb=>Below.heap_setCell _ _ _ _ (by rw[ha];exact hb);refine⟨⟨?_,λb hb=>(ho b (hZ.jQ b hb).2.1).trans (h.1.jQ b hb),λb hb=>(ho b λe=>hx (e▸hb)).trans (h.1.cur b hb),λ_=>hl,λb hb=>(ho b (hZ.sh b hb).2.1).trans (h.1.AZ b hb)⟩,hl⟩;rw[(aside_setCell w a v).size];exact h.1.size
end
section
variable{w:aB}
variable{P:Program}{Z:Pz}{x:Option Nat}
def vC{Stop:Option Nat->Goroutine->World->Prop}(h:Goes Z.P true (R0 Z x) DC0 (Stop x) n g w):∃T,W0 Z Stop T x g w:=
 Wk.sH (γ:=Option Nat) (P:=Z.P) (main:=true) (R:=R0 Z) (D:=D0 Z) (Stop:=Stop) x (λ_ _ h=>h) (λ_ _ _ h=>c9U h) (λ_ _ h=>h) h
theorem Zd{Stop:Option Nat->Goroutine->World->Prop}(h:Goes Z.P true (R0 Z x) DC0 (λg w=>∃T,W0 Z Stop T x g w) n g w):∃T,W0 Z Stop T x g w:=by obtain⟨T,hT⟩:=vC (Stop:=λy g w=>∃T,W0 Z Stop T y g w) h;exact Wk.bind (iU Z) (λ_ _ _ _ h1 h2=>R0.trans Z h1 h2) hT λy g w hs=>hs
def mf{Stop:Option Nat->Goroutine->World->Prop}{g':iY}{m:Mark}(hrun:g.status=.running)(hm:∃a,(m=.read a\/m=.write a)/\a.block=Z.Wg)(h:∀w,stepG Z.P true g w=.go g' w #[⟨.mark m,false,true⟩])(h':∀w₁,R0 Z x w w₁->∃T,W0 Z Stop T x g' w₁):∃T,W0 Z Stop T x g w:=
 Wk.step hrun λw₁ r=>let ⟨T,hT⟩:=h' w₁ r;⟨g',w₁,_,x,T,h w₁,c65 (.inr hm),hT⟩
end
section
variable{Z:Pz}{L:WgLink}{x:Option Nat}{j:Nat}{Next:Option Nat->Goroutine->World->Prop}{b₀:Frame}{a₀:Act}{ops₀:Array Oper}{i₀:Nat}{rest₀:List Nat}{k₀:List Item}{cs:List Frame}
theorem Dl(hZ:lZ Z)(H:WgLib Z.P L)(hty:Z.ty=L.tWg)(hx:x≠some Z.Wg){w0:aB}
 (hT:∀w,Kn Z x w0 w->∃T,W0 Z (AtGoS Z j Next) T x (G (b₀.at (a₀.put ((ops₀[i₀]?).bind (·.dst)) (.tuple #[])) (.inRegion ops₀ rest₀::k₀)) cs) w)(w:aB)(hF:Kn Z x w0 w):
 ∃T,W0 Z (AtKdS Z j Next) T x (G ((base L.add).at ⟨#[.pointer (some ⟨Z.Wg,0,none⟩),.int .i64 1]++Array.replicate 115 undef,[]⟩ [.code (body_add L)]) (b₀.at a₀ (.inRegion ops₀ (i₀::rest₀)::k₀)::cs)) w:=by
 lib_facts;refine vC (n:=12) ?_;simp only[body_add,addFn,aG];walk_nrm;iterate 12 (first|w_go gW|u_cnd true gW hF|u_cnd false gW hF)
 refine Goes.stop (λw₁ h₁=>?_);replace hF:=gW hF h₁;clear h₁;refine⟨rfl,_,stepG_mark0 .disable aZ rfl rfl (by k_ne) rfl H.f_disable (x_disable_n L) (x_disable_b L) (x_disable_x L) (x_disable_f L),vC (n:=40) ?_⟩;walk_nrm;iterate 2 (first|w_go gW|u_cnd true gW hF|u_cnd false gW hF)
 u_defer gW hF
 iterate 8 (first|w_go gW|u_cnd true gW hF|u_cnd false gW hF)
 u_bub gW hF
 iterate 11 (first|w_go gW|u_cnd true gW hF|u_cnd false gW hF)
 u_call H.f_uAdd (nm_uAdd L) uAddFn gW hF
 iterate 10 (first|w_go gW|u_cnd true gW hF|u_cnd false gW hF)
 refine Goes.stop (λw₂ h₂=>?_);replace hF:=gW hF h₂;clear h₂;refine⟨rfl,λv hv hw=>?_⟩;have hW:∀st':Int,WgLive Z.ty Z.Wg (w₂.setCell (stA Z.Wg) (.int .u64 st')):=λst'=>⟨_,_,hw.setSt st'⟩;rcases gK v with rfl|hvp
 ·have hw0:WgAt Z.ty Z.Wg w₂ 0 0:=by simpa using hw
  have z:(((0:Nat):Int)+1)*KK=KK:=aZ
  rw[z];have e0:IntKind.u64.wrap (0+4294967296)=KK:=dA
  refine⟨_,(stepG_add_atomic rfl rfl (by k_ne) rfl H.f_addU64 (x_addU64_n L) (x_addU64_b L) (x_addU64_x L) .u64 (x_addU64_f L) rfl rfl hw0.cellSt (hw0.thaw 0)).trans (by rw[e0];rfl),Zd (n:=110) ?_⟩;replace hF:=Kn.set hZ hx hF (stA Z.Wg) rfl (.int .u64 KK) (hW _);clear hw hw0 hW;simp only[KK] at hF⊢;walk_nrm;iterate 3 (first|w_go gW|u_cnd true gW hF|u_cnd false gW hF)
  u_leave1 H.f_uAdd gW hF
  iterate 48 (first|w_go gW|u_cnd true gW hF|u_cnd false gW hF)
  u_in gW hF
  refine goes_oper_k rfl rfl (by k_ne) (λKx hKx=>?_);have hc1:=(WgLive.cell1 hF.2).choose_spec;have hcv:=run_convert_to_unsafe (P:=Z.P) H.underlying_tPU32 H.underlying_tUP H.room_tU32 hc1;have hce:=λes=>events_convert_to_unsafe (P:=Z.P) H.underlying_tPU32 H.underlying_tUP H.room_tU32 hc1 es;go_simp
  refine hKx _ _ ⟨?_,?_⟩
  ·u_none
   intro ex hex;have hmx:=mem_listed hex;simp[go_sem,hce] at hmx
  clear hKx Kx hcv hce hc1;refine Goes.stop (λw₉ h₉=>?_);replace hF:=gW hF h₉;clear h₉;refine mf rfl ⟨_,.inl rfl,rfl⟩ (λw=>stepG_markAt (ad:=⟨Z.Wg,1,none⟩) .read aZ rfl rfl (by k_ne) rfl H.f_raceRead (x_raceRead_n L) (x_raceRead_b L) (x_raceRead_x L) (x_raceRead_f L) (by simp[Act.eval]<;>rfl)) (λw₈ h₈=>vC (n:=60) ?_);replace hF:=gW hF h₈;clear h₈;walk_nrm;iterate 39 (first|w_go gW|u_cnd true gW hF|u_cnd false gW hF)
  refine Goes.stop (λw₃ h₃=>?_);replace hF:=gW hF h₃;clear h₃;refine⟨rfl,_,stepG_unwind_entry (v:=.tuple #[]) (evs:=#[mk .enable]) rfl H.f_enable (x_enable_n L) (x_enable_b L) (x_enable_x L) (x_enable_f L) (by simp[Extern.Race.none_]) (by simp[mk]) (by simp[mk]),Zd (n:=2) ?_⟩;u_leave0 H.f_add (gW) hF
  exact Goes.stop λw₄ h₄=>hT _ (gW hF h₄)
 ·obtain⟨V,hV⟩:∃V:Int,V=(v:Int)+1:=⟨_,rfl⟩;obtain⟨S,hS⟩:∃S:Int,S=V*KK:=⟨_,rfl⟩;have eS:IntKind.u64.wrap ((v:Int)*KK+4294967296)=S:=by rw[IntKind.wrap_u64,hS,hV];simp only[KK];omega
  rw[<-hV,<-hS];have a1:S/4294967296=V:=by rw[hS];simp only[KK];omega
  have b1:bits .and .u64 S 2147483648=0:=by rw[hS,hV];have:=Go.ConcN.st_flag (v+1) 0 aj aj;simpa [KK] using this
  have b2:bits .and .u64 S 2147483647=0:=by rw[hS,hV];have:=Go.ConcN.st_waiters (v+1) 0 aj aj;simpa [KK] using this
  have c1:IntKind.i32.wrap V=V:=by rw[IntKind.wrap_i32];omega
  have hV1:1<V:=aj
  have q1:(V==1)=false:=iw
  have q2:decide (V=1)=false:=aK aj;have q3:decide (V<0)=false:=aK aj;have q4:decide (0<V)=true:=aN aj;have q5:(V==0)=false:=iw
  have q6:decide (V=0)=false:=aK aj;refine⟨_,(stepG_add_atomic rfl rfl (by k_ne) rfl H.f_addU64 (x_addU64_n L) (x_addU64_b L) (x_addU64_x L) .u64 (x_addU64_f L) rfl rfl hw.cellSt (hw.thaw 0)).trans (by rw[eS];rfl),vC (n:=110) ?_⟩;replace hF:=Kn.set hZ hx hF (stA Z.Wg) rfl (.int .u64 S) (hW _);clear hw hS hV eS hW;walk_nrm;iterate 3 (first|w_go gW|u_cnd true gW hF|u_cnd false gW hF)
  u_leave1 H.f_uAdd gW hF
  iterate 83 (first|w_go gW|u_cnd true gW hF|u_cnd false gW hF)
  refine Goes.stop (λw₃ h₃=>?_);replace hF:=gW hF h₃;clear h₃;refine⟨rfl,_,stepG_unwind_entry (v:=.tuple #[]) (evs:=#[mk .enable]) rfl H.f_enable (x_enable_n L) (x_enable_b L) (x_enable_x L) (x_enable_f L) (by simp[Extern.Race.none_]) (by simp[mk]) (by simp[mk]),Zd (n:=2) ?_⟩;u_leave0 H.f_add (gW) hF
  exact Goes.stop λw₄ h₄=>hT _ (gW hF h₄)
end
end
end Go.Mw
