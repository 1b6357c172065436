/- A part of what the last file proves. -/
import Derived.Test.YtgpbhjjajpbeeaaGreatDoorO15
import Derived.Conc.CompanyMem
import Derived.Conc.DeferLaws
import GoSem.Dispatch
set_option linter.all false
set_option maxRecDepth 100000
set_option maxHeartbeats 4000000
open Go.Proofs.Tryz
namespace Go.Proofs.YtgpbhjjajpbeeaaGreatDoor
section
open Go.RowKit Go.Lib Pl
noncomputable def sN(n:Nat):Code:=Code.behind n (Tryz.f59.body.getD .skip)
noncomputable def jB:Code:=Code.head (sN 1)
def vW(V0 V3 V4 V5:Value)(ib fb:Nat):Array Value:=#[V0,.pointer (some ⟨ib,0,none⟩),.pointer (some ⟨fb,0,none⟩),V3,V4,V5,undef,undef,undef,undef,undef,undef,undef,undef,undef,undef,undef,undef,undef,undef,undef,undef,undef,undef,undef,undef,undef,undef,undef]
def QW1(l:List UInt8)(i ib:Nat)(w:World):Exit->Act->World->Prop
 | .normal,a',w'=>a'.defers=[]/\a'.tmps.size=29/\a'.tmps[1]?=some (.pointer (some ⟨ib,0,none⟩))/\∃u,a'.tmps[6]?=some u/\w'.ownsRow w.heap.size 160 7 u (N7 l).length ((N7 l).flatMap (P7 i))/\Ext w w'
 | _,_,_=>False
theorem xe(V0 V3 V4 V5:Value)(ib fb rb i n cap:Nat)(v:Value)(l:List UInt8)(w:World)(hib:w.cell? ⟨ib,0,none⟩=some (.int .i64 i))(hfb:w.cell? ⟨fb,0,none⟩=some (.slice (some ⟨rb,0,none⟩) n cap))(hi:i<n)(hcap:n<=cap)(hn:n<2147483648)
 (hc:w.cell? ⟨rb,i,none⟩=some v)(h:Bytes w v l)(hl:l.length<=1099511627776):
 jB.wp prog (QW1 l i ib w) ⟨vW V0 V3 V4 V5 ib fb,[]⟩ w:=by
 unfold jB sN vW;simp only[Code.behind,Code.head,Tryz.f59,aP];have hlt:(i:Int)<(n:Int):=by omega
 have h0:(0:Int)<=(i:Int):=by omega
 have d1:w.drew.cell? ⟨ib,0,none⟩=some (.int .i64 i):=hib;have d2:w.drew.cell? ⟨fb,0,none⟩=some (.slice (some ⟨rb,0,none⟩) n cap):=hfb;have d3:w.drew.cell? ⟨rb,i,none⟩=some v:=hc;have hB:Bytes w.drew v l:=h;have hsz:w.drew.heap.size=w.heap.size:=rfl;go_region_with (go_at_call 61;refine(c0w i v l _ ?_ hl).mono ?_;exact hB;rintro e w1 ⟨u,rfl,hown,hE⟩)
 all_goals exact⟨rfl,rfl,rfl,_,rfl,hown,Ext.trans (Below.drew (Ext.refl w)) hE⟩
end
end Go.Proofs.YtgpbhjjajpbeeaaGreatDoor
namespace Go.To
section
open Go.Conc
open Go.ConcR (WgAt stA)
open Go.ConcN (sumTo WD ShN Vc Ssum phi CTag)
open Zn (tp gJ)
open Mc (Pz jY Shun u_ wC yY vg kY kS Fin Spawns W0 AtW1 Done)
def at_(Z:Pz)(c:Nat):Pz:={Z with c:=c}
set_option linter.unusedSectionVars false
variable[Go.ConcR.Payload][Lo]{Z:Pz}{Cont AnchW:Goroutine->World->Prop}{g:Goroutine}{w:World}{Sh:Nat->Prop}{Ψ:Goroutine->World->(Nat->Prop)->Prop}{B:Nat}
theorem c30{l:Loc}{B:Nat}(h:u_ Z l)(hW:B<=Z.Wg)(hA:B<=Z.Al):¬l.low B:=by
 cases l with
 | cell a=>
  intro(hl:a.block<B)
  rcases h with h|h<;>omega
 | _=>exact(h:False).elim
theorem mG.phase(hc:Z.c=0)(hZ:∀c,0<c->jY (at_ Z c))(hn:Z.n<2147483648)(hSh:Z.wS=Tr Sh)(hBL:B<=Z.L0)(hBW:B<=Z.Wg)(so:B<=Z.Al)(hsz:Z.L0<=w.heap.size)
 (hal:kY Z w)(hcb:kS Z w)(hwg:WgAt Z.ty Z.Wg w 0 0)
 (hAr:∀g w,AnchW g w->g.status=.running)(hAn:∀c,0<c->∀x g w,AnchW g w->∃T,W0 (at_ Z c) (AtW1 (at_ Z c) Cont AnchW) T x g w)
 (hst:∀c τ p,0<c->Spawns (at_ Z c) (Fin (at_ Z c) AnchW) Z.n none g (tp w τ p))
 (hnext:∀(w':World)(g':Goroutine)(O:Nat->Nat->Prop)(bx:Nat->Nat),Cont g' w'->(∀b,Z.lN b\/Z.wS b->w'.heap[b]?=w.heap[b]?)->(∀i,i<Z.n->Z.kG i (bx i) (O i) w')->(∀i b,O i b->Z.L0<=b/\b<w'.heap.size)->(∀i k b,O i b->O k b->i=k)->
   kY Z w'->kS Z w'->Z.L0<=w'.heap.size->w'.os=w.os->w'.output=w.output->∃Sh':Nat->Prop,(∀b,Sh b->Sh' b)/\Sh' Z.Wg/\To Z.P g' w' Sh' Ψ):mG Z.P B g w Sh Ψ:=by
 intro τ p gs sl t q h0 rJ;have hpos:0<gs.size:=(aN.1 h0).1;have Gg:=hZ gs.size hpos;have eS:Shun (at_ Z gs.size)=wR Sh:=by
  funext l
  cases l with
  | cell a=>exact congrFun hSh a.block
  | obj r=>exact congrFun hSh r
  | _=>rfl
 have hp:Past (Shun (at_ Z gs.size)) B t:=eS▸rJ.past;have hlow:∀op∈t,op.act.low w.heap.size:=λop hop=>MemAct.low_mono (by omega) (rJ.past.seen op hop);have hcom:Mc.Com (at_ Z gs.size) t (tp w τ p) 0 gs (tp w τ p) t (λ_=>⟨7,0,0⟩) (λ_ _=>False) (λ_=>Z.e0) (λ_=>.leaf) q 0 none:=by
  refine⟨rfl,λi y hi _ hy=>rJ.L.old i y hi hy,λi hi=>absurd hi (by omega),⟨hsz,λ_ _ h=>h.elim,λ_ _ _ h=>h.elim,λ_ _ _ h=>h,λ_ _ _ h=>h.elim,λ_ _ h=>h.elim,λ_=>.inl Gg.e0,λ_ h=>by cases h⟩,?_,?_,rJ.past.hears,λi hi=>absurd hi (by omega),λi hi=>absurd hi (by omega),λ_ _=>rfl,hal,hcb,hlow,⟨#[],by simp,by simp⟩,rfl,rfl,rfl⟩
  ·refine Mc.CT.init hpos hp (λl hl=>?_) (λl hl=>c30 (Z:=at_ Z gs.size) hl hBW so) rJ.gsb;unfold wC at hl
   exact⟨λh=>hl (.inl h),by cases h:l.isMemory with
    | true=>rfl
    | false=>exact absurd (.inr h) hl⟩
  ·intro i hi;obtain⟨op,hop,ho⟩:=aS.1 (show(t[i]?).map (·.act)=_ from hi);have:=rJ.past.seen op (Array.mem_of_getElem? hop);rw[ho] at this;have h1:(stA Z.Wg).block<B:=this;have h2:(stA Z.Wg).block=Z.Wg:=rfl;omega
 have fin:∀tag T0,Mc.CS (at_ Z gs.size) Cont AnchW tag 0 T0 0 none g (tp w τ p)->ConcN.Mode 0 (λ_=>(⟨7,0,0⟩:WD)) tag 0 0->
  ∃N gs' w' sl' t' q' Sh' g' τ' p',runNT Z.P N (crowd gs (tp w τ p) sl) t=(.next (crowd gs' (tp w' τ' p') sl'),t')/\gs'[0]?=some g'/\Ctx Z.P Sh' gs' t' q' w'.heap.size/\Ψ g' w' Sh':=by
  intro tag T0 hcs hm;obtain⟨N,m',t',hr,hd⟩:=Mc.sV Gg hp hBL hn hAr (hAn gs.size hpos) _ _ _ ⟨gs,tp w τ p,sl,0,_,_,_,_,q,tag,T0,0,none,g,0,0,rfl,h0,hcs,hcom,hwg,hm,rfl⟩;obtain⟨gs1,w1,sl1,q1,g1,O,bx1,rfl,hs1,hg1,hrun1,hcont,hL1,hp1,he1,hres,hO,rq,XU,XR,hL0,htape,hos,hout,hgb⟩:=hd;obtain⟨Sh',hS1,hS2,hto⟩:=hnext w1 g1 O bx1 hcont he1 hres hO rq XU XR hL0 hos hout;have Ob:Ctx Z.P Sh' gs1 t' q1 w1.heap.size:=by
   refine⟨hL1,⟨hp1.clean,λi a ha hm=>(hp1.known i a ha hm).imp id λ⟨h1,h2⟩=>⟨?_,h2⟩,hp1.over,hp1.hears,hp1.seen⟩,λi op hi=>by rw[hs1];exact hgb i op hi,ay rJ.lo (ay hBL hL0)⟩;rcases h1 with h1|⟨ad,h1,h3⟩
   ·rw[eS] at h1;revert h1;cases a.loc<;>first|exactλh=>⟨h.1,hS1 _ h.2⟩|exact id
   ·rw[h1];show Tr Sh' ad.block;rw[h3];exact⟨ay rJ.lo hBW,hS2⟩
  obtain⟨M,gs2,w2,sl2,t2,q2,Sh2,g2,τ2,p2,k1,k2,k3,k4⟩:=hto w1.tape w1.drawn gs1 sl1 t' q1 hg1 Ob;exact⟨N+M,gs2,w2,sl2,t2,q2,Sh2,g2,τ2,p2,by rw[runNT_add,show runNT Z.P N _ t=_ from hr];rw[gJ] at k1;exact k1,k2,k3,k4⟩
 have hs:=hst gs.size τ p hpos;have hv:Vc 0 (λ_=>(⟨7,0,0⟩:WD))=0:=rfl
 cases hn':Z.n with
 | zero=>
  rw[hn'] at hs;obtain⟨-,T,hk⟩:=hs;have e0:(at_ Z gs.size).n=0:=hn';have hk':Mc.CS (at_ Z gs.size) Cont AnchW .kd (at_ Z gs.size).n T 0 none g (tp w τ p):=.kd hk;rw[e0] at hk';refine fin .kd T hk' ?_;have:=ConcN.Mode.opn (j:=0) (D:=λ_=>(⟨7,0,0⟩:WD)) (tag:=.kd) trivial (λi hi=>absurd hi (by omega)) (λvs e=>by cases e)
  simpa [hv,ConcN.pend] using this
 | succ r=>
  rw[hn'] at hs;obtain⟨T,hk⟩:=hs;have e0:(at_ Z gs.size).n - (r+1)=0:=by
   have:(at_ Z gs.size).n=r+1:=hn';omega
  have hk':Mc.CS (at_ Z gs.size) Cont AnchW (.sp r 5) ((at_ Z gs.size).n - (r+1)) T 0 none g (tp w τ p):=.skd (by have:(at_ Z gs.size).n=r+1:=hn';omega) hk;rw[e0] at hk';refine fin (.sp r 5) T hk' ?_;have:=ConcN.Mode.opn (j:=0) (D:=λ_=>(⟨7,0,0⟩:WD)) (tag:=.sp r 5) trivial (λi hi=>absurd hi (by omega)) (λvs e=>by cases e);simpa [hv,ConcN.pend] using this
end
end Go.To
namespace Go.Mw
section
open Go.Conc
open Go.ConcR (DC0)
open Mc
set_option linter.unusedSectionVars false
theorem Of{γ:Type}{P:Program}{main:Bool}{R:γ->World->World->Prop}{D:γ->γ->World->World->Array Event->Prop}{Stop Stop':γ->Goroutine->World->Prop}(h:∀x g w,Stop x g w->Stop' x g w):
 ∀{T:Tr}{x:γ}{g:Goroutine}{w:World},Wk P main R D Stop T x g w->Wk P main R D Stop' T x g w:=by
 intro T
 induction T with
 | leaf=>exactλhw w₁ r=>h _ _ _ (hw w₁ r)
 | node f ih=>
  intro x g w hw;rcases hw with hw|⟨hs,hw⟩
  ·exact .inl λw₁ r=>h _ _ _ (hw w₁ r)
  ·refine .inr ⟨hs,λw₁ r=>?_⟩;obtain⟨g',w',es,x',h1,h2,h3⟩:=hw w₁ r;exact⟨g',w',es,x',h1,h2,ih _ h3⟩
variable[Go.ConcR.Payload]{Z:Pz}{x:Option Nat}{Cont oz AnchW oC:Goroutine->World->Prop}{g:Goroutine}{w:World}
theorem Z8{Stop Stop':Option Nat->Goroutine->World->Prop}(h:∀x g w,Stop x g w->Stop' x g w)(k:∃T,W0 Z Stop T x g w):∃T,W0 Z Stop' T x g w:=let ⟨T,k⟩:=k;⟨T,Of h k⟩
section
variable(hC:∀g w,Cont g w->oz g w)
include hC
theorem b52(h:AtAcq Z Cont x g w):AtAcq Z oz x g w:=let ⟨a,g',b,c,d⟩:=h;⟨a,g',b,c,hC _ _ d⟩
theorem Gk(h:AtKe Z Cont x g w):AtKe Z oz x g w:=let ⟨a,g',b,c⟩:=h;⟨a,g',b,Z8 (λ_ _ _=>b52 hC) c⟩
theorem b80(h:AtW4 Z Cont x g w):AtW4 Z oz x g w:=let ⟨a,b⟩:=h;⟨a,λy=>let ⟨g',b,c⟩:=b y;⟨g',b,Z8 (λ_ _ _=>Gk hC) c⟩⟩
theorem b81(h:AtW3 Z Cont x g w):AtW3 Z oz x g w:=let ⟨a,b,c,d⟩:=h;⟨a,b,c,λy=>let ⟨g',b,c⟩:=d y;⟨g',b,Z8 (λ_ _ _=>b80 hC) c⟩⟩
variable(hA:∀g w,AnchW g w->oC g w)
include hA
theorem b82{vs:Nat}(h:AtW2 Z Cont AnchW vs x g w):AtW2 Z oz oC vs x g w:=by
 obtain⟨a,b⟩:=h;refine⟨a,λv hv hw=>⟨λe=>?_,λe=>?_⟩⟩
 ·obtain⟨g',b,c⟩:=(b v hv hw).1 e;exact⟨g',b,Z8 (λ_ _ _=>b81 hC) c⟩
 ·obtain⟨g',b,c⟩:=(b v hv hw).2 e;exact⟨g',b,Z8 (λ_ _ _=>hA _ _) c⟩
theorem K1(h:AtW1 Z Cont AnchW x g w):AtW1 Z oz oC x g w:=by
 obtain⟨a,b⟩:=h;refine⟨a,λv hv hw=>?_⟩;obtain⟨g',b,c,d⟩:=b v hv hw;exact⟨g',b,λe=>Z8 (λ_ _ _=>Gk hC) (c e),λe=>Z8 (λ_ _ _=>b82 hC hA) (d e)⟩
end
theorem KV(hA:∀g w,AnchW g w->oC g w)(h:AtKd Z AnchW x g w):AtKd Z oC x g w:=let ⟨a,g',b,c⟩:=h;⟨a,g',b,Z8 (λ_ _ _=>hA _ _) c⟩
open To Zn in
theorem vE[To.Lo]{P:Program}{S:Goroutine->World->Prop}{Sh:Nat->Prop}{Ψ:Goroutine->World->(Nat->Prop)->Prop}:∀{n:Nat}{g:Goroutine}{w:World},Goes P true YR DC0 S n g w->(∀g',(∃τ p,S g' (Zn.tp w τ p))->To P g' w Sh Ψ)->To P g w Sh Ψ
 | 0,g,w,h,k=>k g ⟨w.tape,w.drawn,h w ⟨w.tape,w.drawn,rfl⟩⟩
 | n+1,g,w,h,k=>by
  rcases h with h|⟨hs,h⟩
  ·exact k g ⟨w.tape,w.drawn,h w ⟨w.tape,w.drawn,rfl⟩⟩
  ·refine To.step hs λτ p=>?_;obtain⟨g',w',es,e,⟨e1,e2⟩,hn⟩:=goes_elim (h (Zn.tp w τ p) ⟨τ,p,rfl⟩);subst e1;subst e2;exact⟨g',_,#[],e,aj _,by simp,(vE hn λg'⟨τ',p',hs'⟩=>(k g' ⟨τ',p',hs'⟩).fZ)⟩
open To in
theorem N1[To.Lo]{P:Program}{tgt:Goroutine}{Sh:Nat->Prop}{Ψ:Goroutine->World->(Nat->Prop)->Prop}(h:PX P tgt g w)(k:To P tgt w Sh Ψ):To P g w Sh Ψ:=vE h λg'⟨_,_,e⟩=>e▸k
end
end Go.Mw
namespace Go.Proofs.YtgpbhjjajpbeeaaGreatDoor
section
open Go.RowKit Go.Conc Go.Conc.Lib Go.ConcR.Gen Go.ConcN.Gen Go.Mw
open Go.ConcN (WgLive)
open Go.Mc (Pz jY R0 D0 W0 Ev0 AtKdS AtGoS AtKd AtW1 Spawns Fin kY kS Works)
set_option linter.unusedSectionVars false
variable[Go.ConcR.Payload]{Z:Pz}{nD:World}{T0:Array Value}{V4 V6 jE:Value}{K:List Item}{cs:List Frame}
def kb(k:Nat):Bool:=![12,13,14,70,71,72,73,74,75,76,77,78].contains k
theorem Qr{T T0:Array Value}(h:∀k,kb k=true->T[k]?=T0[k]?)(j:Nat)(hj:kb j=false)(v:Value):∀k,kb k=true->(T.setIfInBounds j v)[k]?=T0[k]?:=λk hk=>by
 have hne:j≠k:=λe=>by subst e;rw[hj] at hk;cases hk
 rw[aK hne];exact h k hk
structure Lay(Z:Pz)(T0:Array Value)(V4 V6 jE:Value)(T:Array Value)(j:Nat):Prop where
 size:T.size=118
 t4:T[4]?=some V4
 t6:T[6]?=some V6
 t11:T[11]?=some jE
 t12:T[12]?=some (.pointer (some ⟨Z.Al,0,none⟩))
 t13:T[13]?=some (.pointer (some ⟨Z.Wg,0,none⟩))
 t71:T[71]?=some (.int .i64 Z.n)
 t72:T[72]?=some (.int .i64 j)
 keep:∀k,kb k=true->T[k]?=T0[k]?
noncomputable def Do(T:Array Value)(K:List Item):Frame:=(base 14).at ⟨T,[]⟩ (.inRegion GR [0]::.code (I9 10)::K)
noncomputable def joined(T:Array Value)(K:List Item):Frame:=(base 14).at (Act.put ⟨T,[]⟩ (some 78) (.tuple #[])) (.inRegion GR []::.code (I9 10)::K)
def CG(Z:Pz)(nD:World)(T0:Array Value)(V4 V6 jE:Value)(K:List Item)(cs:List Frame)(g:Goroutine)(w:World):Prop:=∃T,Lay Z T0 V4 V6 jE T Z.n/\PW Z link nD (Do T K) cs g w
def Tj(Z:Pz)(T0:Array Value)(V4 V6 jE:Value)(K:List Item)(cs:List Frame)(g:Goroutine)(w:World):Prop:=∃T,Lay Z T0 V4 V6 jE T Z.n/\PX prog (G (joined T K) cs) g w
theorem b8b(g:Goroutine)(w:World)(h:CG Z nD T0 V4 V6 jE K cs g w):g.status=.running:=by
 obtain⟨T,_,T',rfl,_⟩:=h;rfl
theorem b8c(hZ:jY Z)(hP:Z.P=prog)(hty:Z.ty=149){x:Option Nat}(g:Goroutine)(w:World)(h:CG Z nD T0 V4 V6 jE K cs g w):∃T,W0 Z (AtW1 Z (Tj Z T0 V4 V6 jE K cs) (CG Z nD T0 V4 V6 jE K cs)) T x g w:=by
 obtain⟨T,hT,h⟩:=h;refine Z8 (λy g w=>K1 (λg w hc=>⟨T,hT,?_⟩) λg w ha=>⟨T,hT,ha⟩) (b50 (L:=link) (b₀:=base 14) (a₀:=⟨T,[]⟩) (ops₀:=GR) (i₀:=0) (rest₀:=[]) (k₀:=.code (I9 10)::K) hZ (hP▸wgLib) hty g w h);rw[hP] at hc;exact hc
def BZ(Z:Pz)(V4 V6 jE:Value)(b:Nat):Array Value:=#[.pointer (some ⟨Z.Wg,0,none⟩),.pointer (some ⟨b,0,none⟩),V6,V4,jE,.pointer (some ⟨Z.Al,0,none⟩)]
def Tf(Z:Pz)(V4 V6 jE:Value)(b:Nat):Deferred:={target:=.fn (.func 59) (BZ Z V4 V6 jE b),args:=#[]}
variable{ρ:Operand->Value}{n j:Nat}
theorem Lay.set{T:Array Value}(h:Lay Z T0 V4 V6 jE T j)(k:Nat)(v:Value)(hk:([4,6,11,12,13,71,72].contains k||kb k)=false):Lay Z T0 V4 V6 jE (T.setIfInBounds k v) j:=by
 rw[Bool.or_eq_false_iff] at hk;obtain⟨hk,hkb⟩:=hk;simp at hk;obtain⟨h1,h2,h3,h4,h5,h6,h7⟩:=hk;refine⟨by simp[h.size],C9 h.t4 h1,C9 h.t6 h2,C9 h.t11 h3,C9 h.t12 h4,C9 h.t13 h5,C9 h.t71 h6,C9 h.t72 h7,λi hi=>?_⟩;have hne:k≠i:=λe=>by subst e;rw[hkb] at hi;cases hi
 rw[aK hne];exact h.keep i hi
theorem Lay.next{T:Array Value}(h:Lay Z T0 V4 V6 jE T j)(j':Nat):Lay Z T0 V4 V6 jE (T.setIfInBounds 72 (.int .i64 j')) j':=by
 refine⟨by simp[h.size],C9 h.t4 (by decide),C9 h.t6 (by decide),C9 h.t11 (by decide),C9 h.t12 (by decide),C9 h.t13 (by decide),C9 h.t71 (by decide),wO (by rw[h.size];decide),λi hi=>?_⟩;have hne:72≠i:=λe=>by subst e;revert hi;decide
 rw[aK hne];exact h.keep i hi
section
variable{a b:Operand}(u v:Int)(ha:ρ a=.int .i64 u)(hb:ρ b=.int .i64 v)
include ha hb
theorem TC(w:World)(d:Option Nat)(ps:String)(af:Array Edge)(t:TypeId):(execOp ρ {dst:=d,op:=.binOp .lss 3 a b 3,type:=t,pos:=ps,after:=af,guard:=none}).run prog w=.ok (.value (.bool (decide (u<v)))) w:=by
 simp[go_sem,ha,hb]
end
theorem C'{a b:Operand}{u v:Int}(ha:ρ a=.int .i64 u)(hb:ρ b=.int .i64 v)(w:World)(d:Option Nat)(ps:String)(af:Array Edge)(t:TypeId):(execOp ρ {dst:=d,op:=.binOp .lss 3 a b 3,type:=t,pos:=ps,after:=af,guard:=none}).events prog w #[]=#[]:=by
 simp[go_sem,ha,hb]
theorem Tu{T:Array Value}{u:Nat}(h:T[72]?=some (.int .i64 u))(hu:u<4611686018427387904)(w:World):(execOp (Act.eval ⟨T,[]⟩) {dst:=some 77,op:=.binOp .add 3 (.tmp 72) (.const (.int .i64 1)) 3,type:=3,pos:= "keydir.go:117",after:=#[],guard:=none}).run prog w=.ok (.value (.int .i64 ((u+1:Nat):Int))) w/\
 (execOp (Act.eval ⟨T,[]⟩) {dst:=some 77,op:=.binOp .add 3 (.tmp 72) (.const (.int .i64 1)) 3,type:=3,pos:= "keydir.go:117",after:=#[],guard:=none}).events prog w #[]=#[]:=by
 have h1:=L8 (ds:=[]) h;have h2:Act.eval ⟨T,[]⟩ (.const (.int .i64 1))=.int .i64 1:=rfl;have h3:IntKind.i64.wrap ((u:Int)+1)=(u:Int)+1:=by rw[IntKind.wrap_i64];omega
 generalize Act.eval ⟨T,[]⟩ = ρ at h1 h2⊢;constructor
 ·show _=Result.ok (Next.value (Value.int .i64 ((u:Int)+1))) w;simp[go_sem,h1,h2,h3]
 ·simp[go_sem,h1,h2]
section
variable{T:Array Value}{w:World}{x:Option Nat}{Stop:Option Nat->Goroutine->World->Prop}{k:List Item}
theorem zp(hP:Z.P=prog)(hT:Lay Z T0 V4 V6 jE T j)
 (h:∃Tr,W0 Z Stop Tr x (G ((base 14).at ⟨T.setIfInBounds 73 (.bool (decide ((j:Int)<Z.n))),[]⟩ (.code (if decide ((j:Int)<Z.n) then .skip else .exit 2)::.code (.seq (.block 3 Ua) (.region 23 #[{dst:=some 77,op:=.binOp .add 3 (.tmp 72) (.const (.int .i64 1)) 3,type:=3,pos:= "keydir.go:117",after:=#[],guard:=none},{dst:=some 72,op:=.move (.tmp 77),type:=3,pos:= "keydir.go:117",after:=#[{on:=0,ground:=.data}],guard:=none}] false))::k)) cs) w):
 ∃Tr,W0 Z Stop Tr x (G ((base 14).at ⟨T,[]⟩ (.code Z9::k)) cs) w:=by
 rw[round_eq];refine N9 rfl (λ_=>stepG_seq) (N9 rfl (λ_=>stepG_region) ?_);refine Hw (i:=0) (rest:=[]) rfl rfl (by decide) (v:=.bool (decide ((j:Int)<Z.n))) (λw=>hP▸TC j Z.n (L8 hT.t72) (L8 hT.t71) w _ _ _ _) (λw=>hP▸C' (L8 hT.t72) (L8 hT.t71) w _ _ _ _) ?_;refine N9 rfl (λ_=>stepG_region_end) (N9 rfl (λ_=>stepG_seq) (N9 rfl (λ_=>stepG_cond (t:=decide ((j:Int)<Z.n)) (L8 (wO (by rw[hT.size];decide)))) h))
end
theorem b8d(hP:Z.P=prog)(hty:Z.ty=149){T:Array Value}{w:World}(hT:Lay Z T0 V4 V6 jE T Z.n)(hF:Kn Z none nD w):
 ∃Tr,W0 Z (AtKd Z (CG Z nD T0 V4 V6 jE K cs)) Tr none (G ((base 14).at ⟨T,[]⟩ (.code Z9::.inLoop Z9::.inBlock 2::.code (I9 9)::K)) cs) w:=by
 refine zp hP hT ?_;have q1:decide ((Z.n:Int)<(Z.n:Int))=false:=by simp
 rw[q1];have hT1:=hT.set 73 (.bool false) (by decide);refine N9 rfl (λ_=>stepG_exit (k':=.code (I9 9)::K) (by rfl)) ?_;rw[DD];refine N9 rfl (λ_=>stepG_seq) (N9 rfl (λ_=>stepG_region) ?_);have start:=λa₀=>b51 (Z:=Z) (L:=link) (b₀:=base 14) (a₀:=a₀) (ops₀:=GR) (i₀:=0) (rest₀:=[]) (k₀:=.code (I9 10)::K) (cs:=cs) (hP▸wgLib) hty hF;have e24:List.range GR.size=[0]:=by rw[Ek];rfl
 rw[e24];refine AI (o:=_) (by rw[Ek];rfl) (by rfl) (by decide) rfl (by rw[hP];exact func63) (by kernel_rfl) rfl ?_;have ea:#[Operand.tmp 13].map (Act.eval ⟨T.setIfInBounds 73 (.bool false),[]⟩)=#[.pointer (some ⟨Z.Wg,0,none⟩)]:=by
  simp only[eH,aB,dJ];rw[L8 hT1.t13]
 rw[ea];exact Z8 (λy g w=>KV λg w h=>⟨_,hT1,h⟩) (start ⟨_,[]⟩)
theorem tU:(prog.funcs[(base 14).fn]?).any (·.norace)=false:=by kernel_rfl
section
variable{T:Array Value}{w:World}
abbrev YF:Oper:={dst:=some 14,op:=.alloc 3,type:=0,pos:= "keydir.go:117",after:=#[],guard:=none}
theorem c3A(ρ:Operand->Value)(w:World):(execOp ρ {dst:=some 14,op:=.alloc 3,type:=0,pos:= "keydir.go:117",after:=#[],guard:=none}).run prog w=.ok (.value (.pointer (some ⟨w.heap.size,0,none⟩))) (w.alloc (.cells #[.int .i64 0] 3))/\
 (execOp ρ {dst:=some 14,op:=.alloc 3,type:=0,pos:= "keydir.go:117",after:=#[],guard:=none}).events prog w #[]=#[]:=by
 constructor<;>simp[go_sem]
abbrev PK:Oper:={dst:=none,op:=.store 3 (.tmp 14) (.tmp 74),type:=0,pos:= "keydir.go:117",after:=#[{on:=1,ground:=.data},{on:=0,ground:=.data},{on:=0,ground:=.phase},{on:=1,ground:=.phase}],guard:=none}
theorem c0S{ρ:Operand->Value}{b:Nat}{v:Int}(h1:ρ (.tmp 14)=.pointer (some ⟨b,0,none⟩))(h2:ρ (.tmp 74)=.int .i64 v){w:World}(hc:w.heap[b]?=some (.cells #[.int .i64 0] 3)):
 (execOp ρ PK).run prog w=.ok .skip (w.setCell ⟨b,0,none⟩ (.int .i64 v))/\(execOp ρ PK).events prog w #[]=#[⟨.cell ⟨b,0,none⟩,true,false⟩]:=by
 have hz:w.frozen? ⟨b,0,none⟩=false:=by simp[World.frozen?,hc]
 have hx:w.cell? ⟨b,0,none⟩=some (.int .i64 0):=by simp[World.cell?,hc]
 constructor
 ·unfold execOp;simp only[h1,h2];simp[go_sem,stored,hx,hz]
 ·unfold execOp;simp only[h1,h2];simp[go_sem,storedEv,hx,hz]
theorem heap_set(w:World)(b:Nat)(v u:Value)(t:TypeId)(h:w.heap[b]?=some (.cells #[u] t)):(w.setCell ⟨b,0,none⟩ v).heap[b]?=some (.cells #[v] t):=by
 simp[World.setCell,aO,h]
end
abbrev qu:Oper:={dst:=some 74,op:=.move (.tmp 72),type:=3,pos:= "keydir.go:117",after:=#[],guard:=none}
abbrev PI:Oper:={dst:=some 76,op:=.makeFunc (.func 59) #[] #[.tmp 13,.tmp 14,.tmp 6,.tmp 4,.tmp 11,.tmp 12],type:=1,pos:= "keydir.go:119",after:=#[],guard:=none}
abbrev PG:Oper:={dst:=none,op:=.go {callee:=.value (.tmp 76),args:=#[],argTypes:=#[]},type:=0,pos:= "keydir.go:119",after:=#[{on:=0,ground:=.data}],guard:=none}
theorem run_go{ρ:Operand->Value}{f:Fn}{c:Array Value}(h:ρ (.tmp 76)=.func f #[] c)(w:World):(execOp ρ PG).run prog w=.ok (.spawn {target:=.fn f c,args:=#[]}) w/\(execOp ρ PG).events prog w #[]=#[]:=by
 constructor<;>(unfold execOp;simp[go_sem,Deferred.ofValue];rw[h];rfl)
abbrev vt:Array Oper:=#[{dst:=some 77,op:=.binOp .add 3 (.tmp 72) (.const (.int .i64 1)) 3,type:=3,pos:= "keydir.go:117",after:=#[],guard:=none},{dst:=some 72,op:=.move (.tmp 77),type:=3,pos:= "keydir.go:117",after:=#[{on:=0,ground:=.data}],guard:=none}]
theorem JX(w:World)(o:Obj):(w.alloc o).heap.size=w.heap.size+1:=fJ ..
theorem JQ(w:World)(o:Obj){b:Nat}(h:b<w.heap.size):(w.alloc o).heap[b]?=w.heap[b]?:=by
 show(w.heap.push o)[b]?=_;rw[gG h,<-bK]
theorem Zc(w:World)(o:Obj):(w.alloc o).heap[w.heap.size]?=some o:=iC
theorem Vi{AnchW:Goroutine->World->Prop}{r:Nat}{g g':Goroutine}{w:World}(h:∀Stop,(∃T,W0 Z Stop T none g' w)->∃T,W0 Z Stop T none g w)(k:Spawns Z (Fin Z AnchW) r none g' w):Spawns Z (Fin Z AnchW) r none g w:=by
 cases r with
 | zero=>exact⟨rfl,h _ k.2⟩
 | succ r=>exact h _ k
theorem b8e(hZ:jY Z)(hP:Z.P=prog)(hty:Z.ty=149)(hn:Z.n<2147483648)(hL:Z.L0<=nD.heap.size)
 (tq:∀i b w,i<Z.n->Z.L0<=b->R0 Z none nD w->w.heap[b]?=some (.cells #[.int .i64 i] 3)->kY Z w->kS Z w->WgLive Z.ty Z.Wg w->Works Z i b (born prog (Tf Z V4 V6 jE b)) w)(r:Nat):
 ∀j T w,j+r=Z.n->Lay Z T0 V4 V6 jE T j->Kn Z none nD w->Spawns Z (Fin Z (CG Z nD T0 V4 V6 jE K cs)) r none (G ((base 14).at ⟨T,[]⟩ (.code Z9::.inLoop Z9::.inBlock 2::.code (I9 9)::K)) cs) w:=by
 induction r with
 | zero=>
  intro j T w hj hT hF;obtain rfl:j=Z.n:=by omega
  exact⟨rfl,b8d hP hty hT hF⟩
 | succ r ih=>
  intro j T w hj hT hF;have ej:Z.n - (r+1)=j:=by omega
  have hjn:j<Z.n:=by omega
  show ∃Tr,W0 Z (AtKdS Z (Z.n - (r+1)) (Spawns Z (Fin Z (CG Z nD T0 V4 V6 jE K cs)) r)) Tr none _ w;rw[ej];refine zp hP hT ?_;have q1:decide ((j:Int)<(Z.n:Int))=true:=by simp;omega
  rw[q1];have hT1:=hT.set 73 (.bool true) (by decide);generalize T.setIfInBounds 73 (.bool true)=T1 at hT1⊢;rw[if_pos rfl,show Item.code (.seq (.block 3 Ua) _)=Item.code (.seq (.block 3 _) _) from congrArg (λc=>Item.code (.seq (.block 3 c) _)) TE];refine N9 rfl (λ_=>stepG_skip) (N9 rfl (λ_=>stepG_seq) (N9 rfl (λ_=>stepG_block) (N9 rfl (λ_=>stepG_seq) (N9 rfl (λ_=>stepG_region) ?_))));refine Hw (i:=0) (rest:=[1,2]) (o:=qu) rfl rfl (by decide) (v:=.int .i64 j) (λw=>by rw[<-L8 (ds:=[]) hT1.t72];rfl) (λw=>rfl) ?_;have hT2:=hT1.set 74 (.int .i64 j) (by decide);have t74:(T1.setIfInBounds 74 (.int .i64 j))[74]?=some (.int .i64 j):=wO (by rw[hT1.size];decide);have eT:Act.put ⟨T1,[]⟩ (some 74) (.int .i64 j)=⟨T1.setIfInBounds 74 (.int .i64 j),[]⟩:=rfl;rw[show qu.dst=some 74 from rfl,eT];clear eT;generalize T1.setIfInBounds 74 (.int .i64 j)=T2 at hT2 t74⊢;refine sR (i:=1) (rest:=[2]) (o:=YF) rfl rfl (by decide) λw₁ h₁=>?_;replace hF:=hF.rely h₁;clear h₁;rw[hP];have hrb:=c3A (Act.eval ⟨T2,[]⟩) w₁;have hb:Z.L0<=w₁.heap.size:=ay hL hF.1.size;refine⟨_,_,some w₁.heap.size,hrb.1,⟨by rw[JX];omega,rfl,rfl,rfl,λb hb _=>JQ _ _ hb,.inr (.inr ⟨_,rfl,aj _,by rw[JX];omega⟩),by rw[show listed prog (base 14).fn ⟨T2,[]⟩ YF w₁=#[] by unfold listed;rw[hrb.2];exact seen_none _ _];simp⟩,?_⟩;clear hrb;have hnew:=Zc w₁ (.cells #[.int .i64 0] 3);have hF2:R0 Z none nD (w₁.alloc (.cells #[.int .i64 0] 3))/\WgLive Z.ty Z.Wg (w₁.alloc (.cells #[.int .i64 0] 3)):=by
   have hW:Z.Wg<w₁.heap.size:=ak hZ.W0 hb;have hl:WgLive Z.ty Z.Wg (w₁.alloc (.cells #[.int .i64 0] 3)):=let ⟨st,sm,h⟩:=hF.2;⟨st,sm,(JQ _ _ hW).trans h⟩;exact⟨⟨by rw[JX];have:=hF.1.size;omega,λb' hb'=>(JQ _ _ (ak (hZ.iP b' hb').1 hb)).trans (hF.1.iP b' hb'),λ_ h=>(by cases h),λ_=>hl,λb' hb'=>(JQ _ _ (ak (hZ.sh b' hb').1 hb)).trans (hF.1.xP b' hb')⟩,hl⟩
  have hbs:w₁.heap.size<(w₁.alloc (.cells #[.int .i64 0] 3)).heap.size:=by rw[JX];omega
  generalize w₁.alloc (.cells #[.int .i64 0] 3)=w₂ at hnew hF2 hbs⊢;generalize w₁.heap.size=b at hb hnew hbs⊢;clear hF;have XZ:=hT2.set 14 (.pointer (some ⟨b,0,none⟩)) (by decide);have KY:(T2.setIfInBounds 14 (.pointer (some ⟨b,0,none⟩)))[74]?=some (.int .i64 j):=C9 t74 (by decide);have t14:(T2.setIfInBounds 14 (.pointer (some ⟨b,0,none⟩)))[14]?=some (.pointer (some ⟨b,0,none⟩)):=wO (by rw[hT2.size];decide);have eT:Act.put ⟨T2,[]⟩ YF.dst (.pointer (some ⟨b,0,none⟩))=⟨T2.setIfInBounds 14 (.pointer (some ⟨b,0,none⟩)),[]⟩:=rfl;rw[eT];clear eT;generalize T2.setIfInBounds 14 (.pointer (some ⟨b,0,none⟩))=T3 at XZ KY t14⊢;refine c38 (i:=2) (rest:=[]) (o:=PK) rfl rfl (by decide) λw₃ h₃=>?_;rw[hP];have hc3:w₃.heap[b]?=some (.cells #[.int .i64 0] 3):=(h₃.cur b rfl).trans hnew;obtain⟨hr1,hr2⟩:=c0S (L8 (ds:=[]) t14) (L8 (ds:=[]) KY) hc3;have hne:b≠Z.Wg:=by have:=hZ.W0;omega
  have hF3:R0 Z none nD w₃:=R0.trans Z hF2.1 ⟨h₃.size,h₃.iP,λ_ h=>(by cases h),h₃.live,h₃.xP⟩;have hlv:WgLive Z.ty Z.Wg w₃:=h₃.live hF2.2;have hset:∀b',b'≠b->(w₃.setCell ⟨b,0,none⟩ (.int .i64 j)).heap[b']?=w₃.heap[b']?:=λb' hb'=>Below.heap_setCell _ _ _ _ hb';have hsz:(w₃.setCell ⟨b,0,none⟩ (.int .i64 j)).heap.size=w₃.heap.size:=(aside_setCell w₃ ⟨b,0,none⟩ _).size;refine⟨_,some b,hr1,⟨dS hsz.symm,rfl,rfl,rfl,λb' _ hb'=>hset b' λe=>hb' (e▸rfl),.inl rfl,?_⟩,?_⟩
  ·rw[show listed prog (base 14).fn ⟨T3,[]⟩ PK w₃=#[⟨.cell ⟨b,0,none⟩,true,false⟩] by unfold listed;rw[hr2,seen_eq tU (by simp)]];intro e he;rw[sF] at he;subst he;exact⟨by rw[hsz];have:=h₃.size;exact ak hbs this,rfl,.inr rfl⟩
  have hl4:WgLive Z.ty Z.Wg (w₃.setCell ⟨b,0,none⟩ (.int .i64 j)):=let ⟨st,sm,h⟩:=hlv;⟨st,sm,(hset _ (bP hne)).trans h⟩;have Ea:R0 Z none nD (w₃.setCell ⟨b,0,none⟩ (.int .i64 j)):=⟨by rw[hsz];exact hF3.size,λb' hb'=>(hset b' (by have:=(hZ.iP b' hb').1;omega)).trans (hF3.iP b' hb'),λ_ h=>(by cases h),λ_=>hl4,λb' hb'=>(hset b' (by have:=(hZ.sh b' hb').1;omega)).trans (hF3.xP b' hb')⟩;have hc4:(w₃.setCell ⟨b,0,none⟩ (.int .i64 j)).heap[b]?=some (.cells #[.int .i64 j] 3):=heap_set w₃ b _ _ 3 hc3;generalize w₃.setCell ⟨b,0,none⟩ (.int .i64 j)=w₄ at hl4 Ea hc4⊢;clear hsz hset hlv hF3 hr1 hr2 hc3 h₃ hF2 hnew hbs;have eT:Act.put ⟨T3,[]⟩ PK.dst undef=⟨T3,[]⟩:=rfl;rw[eT];clear eT;refine N9 rfl (λ_=>stepG_region_end) (N9 rfl (λ_=>stepG_seq) (N9 rfl (λ_=>stepG_region) ?_));refine AI (i:=0) (rest:=[]) rfl rfl (by decide) rfl (by rw[hP];exact func58) (by kernel_rfl) rfl ?_;have ea:#[Operand.tmp 13,.const (.int .i64 1)].map (Act.eval ⟨T3,[]⟩)=#[.pointer (some ⟨Z.Wg,0,none⟩),.int .i64 1]:=by
   simp only[eH,aB,dJ];rw[L8 XZ.t13];rfl
  rw[ea];refine zD (L:=link) (j:=j) (w0:=w₄) hZ (hP▸wgLib) hty (λe=>hne (aF e)) (λw₅ h₅=>?_) w₄ ⟨R0.refl Z _ _,hl4⟩;have sf:R0 Z none nD w₅:=R0.trans Z Ea ⟨h₅.1.size,h₅.1.iP,λ_ h=>(by cases h),h₅.1.live,h₅.1.xP⟩;have hc5:w₅.heap[b]?=some (.cells #[.int .i64 j] 3):=(h₅.1.cur b rfl).trans hc4;have hl5:=h₅.2;clear h₅ Ea hc4 hl4;have eT:Act.put ⟨T3,[]⟩ ((#[({dst:=some 75,op:=.call {callee:=.value (.func 58),args:=#[.tmp 13,.const (.int .i64 1)],argTypes:=#[149,3]},type:=0,pos:= "keydir.go:118",after:=#[],guard:=none}:Oper)][0]?).bind (·.dst)) (.tuple #[])=⟨T3.setIfInBounds 75 (.tuple #[]),[]⟩:=rfl;rw[eT];clear eT;have DY:=XZ.set 75 (.tuple #[]) (by decide);have KZ:(T3.setIfInBounds 75 (.tuple #[]))[14]?=some (.pointer (some ⟨b,0,none⟩)):=C9 t14 (by decide);generalize T3.setIfInBounds 75 (.tuple #[])=T4 at DY KZ⊢;refine N9 rfl (λ_=>stepG_region_end) (N9 rfl (λ_=>stepG_region) ?_);have hv:∀w,(execOp (Act.eval ⟨T4,[]⟩) PI).run prog w=.ok (.value (.func (.func 59) #[] (BZ Z V4 V6 jE b))) w/\(execOp (Act.eval ⟨T4,[]⟩) PI).events prog w #[]=#[]:=λw=>by
   have e1:#[Operand.tmp 13,.tmp 14,.tmp 6,.tmp 4,.tmp 11,.tmp 12].map (Act.eval ⟨T4,[]⟩)=BZ Z V4 V6 jE b:=by
    simp only[eH,aB,dJ];rw[L8 DY.t13,L8 KZ,L8 DY.t6,L8 DY.t4,L8 DY.t11,L8 DY.t12];rfl
   rw[<-e1];constructor<;>simp[go_sem]
  refine Hw (i:=0) (rest:=[1]) (o:=PI) rfl rfl (by decide) (λw=>hP▸(hv w).1) (λw=>hP▸(hv w).2) ?_;have eT:Act.put ⟨T4,[]⟩ PI.dst (.func (.func 59) #[] (BZ Z V4 V6 jE b))=⟨T4.setIfInBounds 76 (.func (.func 59) #[] (BZ Z V4 V6 jE b)),[]⟩:=rfl;rw[eT];clear eT;have SC:=DY.set 76 (.func (.func 59) #[] (BZ Z V4 V6 jE b)) (by decide);have t76:(T4.setIfInBounds 76 (.func (.func 59) #[] (BZ Z V4 V6 jE b)))[76]?=some (.func (.func 59) #[] (BZ Z V4 V6 jE b)):=wO (by rw[DY.size];decide);generalize T4.setIfInBounds 76 (.func (.func 59) #[] (BZ Z V4 V6 jE b))=T5 at SC t76⊢;refine c39 λw₆ h₆=>?_;have hr:=run_go (L8 (ds:=[]) t76) w₆;have OC:R0 Z none nD w₆:=R0.trans Z sf ⟨h₆.size,h₆.iP,λ_ h=>(by cases h),h₆.live,h₆.xP⟩;have hst:=stepG_spawn (P:=prog) (main:=true) (b:=base 14) (a:=⟨T5,[]⟩) (k:=.inBlock 3::.code (.region 23 vt false)::.inLoop Z9::.inBlock 2::.code (I9 9)::K) (cs:=cs) (ops:=#[PI,PG]) (i:=1) (rest:=[]) (o:=PG) rfl rfl (by decide) hr.1 rfl;rw[show listed prog (base 14).fn ⟨T5,[]⟩ PG w₆=#[] by unfold listed;rw[hr.2];exact seen_none _ _] at hst;refine⟨rfl,b,_,_,rfl,(by rw[hP];exact hst),rfl,λhal hcb hlv=>tq j b w₆ hjn hb OC ((h₆.cur b rfl).trans hc5) hal hcb hlv,?_⟩;have pt:WgLive Z.ty Z.Wg w₆:=h₆.live hl5;have hi:=Tu (T:=T5) SC.t72 (by omega);have rk:=SC.set 77 (.int .i64 ((j+1:Nat):Int)) (by decide);have t77:(T5.setIfInBounds 77 (.int .i64 ((j+1:Nat):Int)))[77]?=some (.int .i64 ((j+1:Nat):Int)):=wO (by rw[SC.size];decide);refine Vi (g':=G ((base 14).at ⟨(T5.setIfInBounds 77 (.int .i64 ((j+1:Nat):Int))).setIfInBounds 72 (.int .i64 ((j+1:Nat):Int)),[]⟩ (.code Z9::.inLoop Z9::.inBlock 2::.code (I9 9)::K)) cs) (λStop hk=>?_) (ih (j+1) _ w₆ (by omega) (rk.next (j+1)) ⟨OC,pt⟩);refine N9 rfl (λ_=>stepG_region_end) (N9 rfl (λ_=>stepG_inBlock) (N9 rfl (λ_=>stepG_region) ?_));refine Hw (i:=0) (rest:=[1]) rfl rfl (by decide) (λw=>hP▸(hi w).1) (λw=>hP▸(hi w).2) ?_;refine Hw (i:=1) (rest:=[]) (v:=.int .i64 ((j+1:Nat):Int)) rfl rfl (by decide) (λw=>?_) (λw=>rfl) ?_
  ·exact congrArg (λv=>(Result.ok (Next.value v) w:Result Next)) (L8 (ds:=[]) t77)
  ·exact N9 rfl (λ_=>stepG_region_end) (N9 rfl (λ_=>stepG_inLoop) hk)
end
section
open Go.RowKit Go.Conc Go.Conc.Lib
noncomputable def bot:Frame:={(default:Frame) with fn:=prog.funcs.size,defers:=[],mode:=.panicking [goexitEntry]}
theorem born_step(c:Array Value)(w:World):stepG prog false (born prog {target:=.fn (.func 59) c,args:=#[]}) w =
 .go (G ((baseD 59).at ⟨c++Array.replicate (29 - c.size) undef,[]⟩ [.code (sN 0)]) [bot]) w #[]:=by
 simp[born,stepG,unwind,callDeferred,invoke,callFunc,func59,Tryz.f59,seen,GStep.after,G,Frame.enter,Frame.at,baseD,bot,sN,Code.behind];exact seen_none _ _
theorem quits_tail(T:Array Value):QuitsD prog 2 0 (G {(baseD 59).at ⟨T,[]⟩ [] with mode:=.returning} [bot]):=by
 refine QuitsD.ctl (g':=G bot []) rfl (λw=>?_) ?_
 ·simp[G,stepG,unwind,doReturn,results,Frame.at,baseD,bot,func59,Tryz.f59,seen,GStep.after,goexitEntry];exact seen_none _ _
 refine QuitsD.ctl (g':={G bot [] with status:=.finished}) rfl (λw=>?_) ⟨rfl,rfl⟩;simp[G,stepG,unwind,bot,goexitEntry,Frame.catches];rfl
end
end Go.Proofs.YtgpbhjjajpbeeaaGreatDoor
namespace Go.Bi
section
variable{S:Sit}{P:Program}
structure POK(S:Sit)(P:Program):Prop where
 inj:∀a b,S.D a->S.D b->S.ren a=S.ren b->a=b
def mF(S:Sit)(P:Program)(t:TypeId):Prop:=∀i z,P.info? t=some i->i.zero=some z->VR S z z
theorem vR{a:Addr}(h:S.D a.block):Im S P (VR S) (load a) (load (rA S a)):=⟨rfl,rfl,h,rfl,λ_ _ hv=>hv⟩
theorem b9G{a:Addr}(h:S.D a.block){v v':Value}(hv:VR S v v'):Im S P (λ_ _=>True) (store a v) (store (rA S a) v'):=⟨rfl,rfl,h,rfl,hv,trivial⟩
theorem Lq{o o':Obj}(h:xk S o o'):Im S P (λr r'=>S.D r/\r'=S.ren r) (newObj o) (newObj o'):=⟨h,λ_ hr=>⟨hr,rfl⟩⟩
theorem Qv{r:Nat}(h:S.D r):Im S P (λa b=>b=a) (shape r) (shape (S.ren r)):=.inr ⟨h,rfl,λ_=>rfl⟩
theorem QG(q:Question):Im S P (λa b=>b=a) (choose q) (choose q):=⟨rfl,λ_=>rfl⟩
theorem Y9:Im S P (λa b=>a=P/\b=P) program program:=⟨rfl,rfl⟩
theorem vQ{m:Mark}(h:fU m):Im S P (λ_ _=>True) (mark m) (mark m):=⟨rfl,h,trivial⟩
theorem A8{α β:Type}{R:α->β->Prop}(x:String)(s:Sem β):Im S P R (stuck x) s:=Im.halt _ _
theorem y9{α β:Type}{R:α->β->Prop}(x:Unsupported)(s:Sem β):Im S P R (unsupported x) s:=Im.halt _ _
theorem Rr{α β:Type}{R:α->β->Prop}(x:Value)(s:Sem β):Im S P R (goPanic x) s:=Im.halt _ _
theorem Uy(n:Nat):Im S P (λ_ _=>True) (askRoom n) (askRoom n):=by
 unfold askRoom;split
 ·exact vQ trivial
 ·exact Im.pure trivial
theorem F5(t:TypeId):Im S P (λa b=>b=a/\P.underlying t=some a) (underlying t) (underlying t):=by
 unfold underlying;refine Im.bind Y9 ?_;rintro _ _ ⟨rfl,rfl⟩;split
 ·rename_i h;exact Im.pure ⟨rfl,h⟩
 ·exact A8 _ _
theorem Y0(t:TypeId):Im S P (λa b=>b=a/\P.info? t=some a) (typeInfo t) (typeInfo t):=by
 unfold typeInfo;refine Im.bind Y9 ?_;rintro _ _ ⟨rfl,rfl⟩;split
 ·rename_i h;exact Im.pure ⟨rfl,h⟩
 ·exact A8 _ _
theorem U3(t:TypeId):Im S P (λa b=>b=a) (sizeOf t) (sizeOf t):=by
 unfold sizeOf;refine Im.bind (Y0 t) ?_;rintro a _ ⟨rfl,_⟩;exact Im.pure rfl
theorem b9H(t:TypeId):Im S P (λa b=>b=a) (isAgg t) (isAgg t):=by
 unfold isAgg;refine Im.bind (F5 t) ?_;rintro a _ ⟨rfl,_⟩;split<;>exact Im.pure rfl
theorem b7k(t:TypeId):Im S P (λa b=>b=a) (elemOf t) (elemOf t):=by
 unfold elemOf;refine Im.bind (F5 t) ?_;rintro a _ ⟨rfl,_⟩;split
 ·exact Im.pure rfl
 ·exact A8 _ _
theorem Y1(t:TypeId)(hz:mF S P t):Im S P (VR S) (zeroValue t) (zeroValue t):=by
 unfold zeroValue;refine Im.bind (Y0 t) ?_;rintro a _ ⟨rfl,hi⟩;split
 ·rename_i h;exact Im.pure (hz _ _ hi h)
 ·exact y9 _ _
theorem VR.cells{v v':Value}(h:VR S v v'):AR S v.cells v'.cells:=by
 cases h with
 | agg c c' hc hc'=>exact⟨hc,hc'⟩
 | _=>exact AR.one (by constructor<;>assumption)
theorem a6F{a:Addr}(h:S.D a.block)(n:Nat):∀(i:Nat)(acc acc':Array Value),AR S acc acc'->Im S P (AR S) (loadCellsFrom a i n acc) (loadCellsFrom (rA S a) i n acc'):=by
 induction n with
 | zero=>intro i acc acc' hA;exact Im.pure hA
 | succ n ih=>
  intro i acc acc' hA;unfold loadCellsFrom;rw[<-zl];refine Im.bind (vR (by rw[add_block];exact h)) ?_;intro v v' hv;exact ih _ _ _ (hA.push hv)
theorem c_{a:Addr}(h:S.D a.block)(n:Nat):Im S P (AR S) (loadCells a n) (loadCells (rA S a) n):=a6F h n 0 _ _ AR.nil
theorem Rh{a:Addr}(h:S.D a.block):∀(l l':List Value)(i:Nat),LR (VR S) l l'->Im S P (λ_ _=>True) (storeCells a l i) (storeCells (rA S a) l' i):=by
 intro l l' i hl
 induction hl generalizing i with
 | nil=>exact Im.pure trivial
 | cons hv _ ih=>
  unfold storeCells;rw[<-zl];refine Im.bind (b9G (by rw[add_block];exact h) hv) ?_;intro _ _ _;exact ih _
theorem AR.list{c c':Array Value}(h:AR S c c'):LR (VR S) c.toList c'.toList:=by
 obtain⟨l⟩:=c;obtain⟨l'⟩:=c';obtain⟨h1,h2⟩:=h;simp only[f_] at h1;simp only[List.getElem_toArray] at h2
 induction l generalizing l' with
 | nil=>
  cases l' with
  | nil=>exact .nil
  | cons _ _=>simp at h1
 | cons x l ih=>
  cases l' with
  | nil=>simp at h1
  | cons y l'=>
   refine .cons (h2 0 (by simp) (by simp)) (ih l' (λi h3 h4=>?_) (by simpa using h1));have:=h2 (i+1) (by simpa using h3) (by simpa using h4);simpa using this
theorem Rm(t:TypeId){a:Addr}(h:S.D a.block):Im S P (VR S) (loadVar t a) (loadVar t (rA S a)):=by
 unfold loadVar;refine Im.bind (b9H t) ?_;rintro b _ rfl;split
 ·refine Im.bind (U3 t) ?_;rintro n _ rfl;refine Im.bind (c_ h _) ?_;intro c c' hc;exact Im.pure (VR.agg' hc)
 ·exact vR h
theorem b29(t:TypeId){a:Addr}(h:S.D a.block){v v':Value}(hv:VR S v v'):Im S P (λ_ _=>True) (storeVar t a v) (storeVar t (rA S a) v'):=by
 unfold storeVar;refine Im.bind (U3 t) ?_;rintro n _ rfl;have hc:=hv.cells;dsimp only;rw[hc.size];split
 ·exact A8 _ _
 ·exact Rh h _ _ _ hc.list
theorem KC(t:TypeId){c c':Array Value}(h:AR S c c'):Im S P (λa a'=>S.D a.block/\a'=rA S a) (newRow t c) (newRow t c'):=by
 unfold newRow;refine Im.bind (Lq (.cells _ _ _ _ _ h (SX.refl _))) ?_;rintro r _ ⟨hr,rfl⟩;exact Im.pure ⟨hr,rfl⟩
theorem Ln(t:TypeId){v v':Value}(h:VR S v v'):Im S P (λa a'=>S.D a.block/\a'=rA S a) (newVar t v) (newVar t v'):=KC t h.cells
def qe:RuntimeError->Prop
 | .typeAssertion ..=>False
 | _=>True
theorem Q7{α β:Type}{R:α->β->Prop}(e:RuntimeError)(he:qe e):Im S P R (runtimePanic e) (runtimePanic e):=by
 unfold runtimePanic;refine Im.bind Y9 ?_;rintro p p' ⟨hp,hp'⟩;subst hp';subst hp
 cases e with
 | typeAssertion i c a m=>exact he.elim
 | panicNil=>
  refine Im.bind (b7k _) ?_;rintro x _ rfl
  exact Im.bind (Ln _ (VR.agg' AR.nil)) λ_ _ _=>Rr _ _
 | _=>exact Rr _ _
theorem ep{α β:Type}{R:α->β->Prop}(k:IntKind)(x y:Int)(c:BoundsCode):Im S P R (boundsPanic k x y c) (boundsPanic k x y c):=by
 unfold boundsPanic;dsimp only;split
 ·refine Im.bind (R:=λa b=>b=a) (Im.bind (S:=S) (P:=P) (R:=λa b=>b=a) (QG _) ?_) ?_
  ·rintro a _ rfl;exact Im.pure rfl
  ·rintro a _ rfl;exact Q7 _ trivial
 ·refine Im.bind (R:=λa b=>b=a) (Im.pure rfl) ?_;rintro a _ rfl;exact Q7 _ trivial
theorem cr{v v':Value}(h:VR S v v'):Im S P (λa b=>b=a/\v=.int a.1 a.2) (asIntOf v) (asIntOf v'):=by
 cases h<;>first|exact Im.pure ⟨rfl,rfl⟩|exact y9 _ _|exact A8 _ _
theorem b9I{v v':Value}(h:VR S v v'):Im S P (λa b=>b=a) (asInt v) (asInt v'):=by
 unfold asInt;refine Im.bind (cr h) ?_;rintro a _ ⟨rfl,_⟩;exact Im.pure rfl
theorem b7l{v v':Value}(h:VR S v v'):Im S P (λa b=>b=a) (asBool v) (asBool v'):=by
 cases h<;>first|exact Im.pure rfl|exact A8 _ _
theorem K9{v v':Value}(h:VR S v v'):Im S P (λa a'=>S.D a.block/\a'=rA S a) (asAddr v) (asAddr v'):=by
 cases h with
 | jc=>exact Q7 (α:=Addr) (β:=Addr) .nilDeref trivial
 | ptr a h=>exact Im.pure ⟨h,rfl⟩
 | _=>exact A8 _ _
theorem QX{v v':Value}(h:VR S v v'):Im S P (λa a'=>S.D a.block/\a'=rA S a) (Instr.sureAddr v) (Instr.sureAddr v'):=by
 cases h with
 | ptr a h=>exact Im.pure ⟨h,rfl⟩
 | _=>exact A8 _ _
theorem K8{r:Nat}(h:S.D r):Im S P (λo o'=>∃a l,S.D a.block/\o=.number a l/\o'=.number (rA S a) l) (getObj r) (getObj (S.ren r)):=⟨h,rfl,λa l ha=>⟨a,l,ha,rfl,rfl⟩⟩
theorem K7{r:Nat}(h:S.D r):Im S P (λa b=>b=a) (viewAt r) (viewAt (S.ren r)):=by
 unfold viewAt;refine Im.bind (Qv h) ?_;rintro s _ rfl;split
 ·exact Im.pure rfl
 ·refine Im.bind (K8 h) ?_;rintro _ _ ⟨a,l,ha,rfl,rfl⟩;exact Im.pure rfl
inductive NR(S:Sit):Option (Addr×Bool)->Option (Addr×Bool)->Prop
 | none:NR S none none
 | some (a:Addr) (l:Bool) (h:S.D a.block):NR S (some (a,l)) (some (rA S a,l))
theorem RO{r:Nat}(h:S.D r):Im S P (NR S) (numberAt r) (numberAt (S.ren r)):=by
 unfold numberAt;refine Im.bind (Qv h) ?_;rintro s _ rfl;split
 ·exact Im.pure .none
 ·refine Im.bind (K8 h) ?_;rintro _ _ ⟨a,l,ha,rfl,rfl⟩;exact Im.pure (.some a l ha)
theorem U6{a:Addr}(h:S.D a.block):Im S P (λp p'=>S.D p.1.block/\p'=(rA S p.1,p.2)) (behindNumber a) (behindNumber (rA S a)):=by
 unfold behindNumber;refine Im.bind (RO h) ?_;intro o o' ho
 cases ho with
 | none=>exact Im.pure ⟨h,rfl⟩
 | some b l hb=>exact Im.pure ⟨hb,rfl⟩
theorem b3a{a:Addr}(h:S.D a.block)(l:Bool):Im S P (VR S) (asNumber a l) (asNumber (rA S a) l):=by
 unfold asNumber;refine Im.bind (Lq (.number _ _ h)) ?_;rintro r _ ⟨hr,rfl⟩;exact Im.pure (.ptr ⟨r,0,none⟩ hr)
theorem b7m{a:Addr}(h:S.D a.block):Im S P (λ_ _=>True) (noView a) (noView (rA S a)):=by
 unfold noView;refine Im.bind (K7 h) ?_;rintro s _ rfl;split
 ·exact y9 _ _
 ·exact Im.pure trivial
end
section
variable{S:Sit}{P:Program}
theorem b9J(t:TypeId)(hz:mF S P t):Im S P (VR S) (Instr.alloc t true (.tuple #[])) (Instr.alloc t true (.tuple #[])):=by
 unfold Instr.alloc;refine Im.bind (Y1 t hz) ?_;intro z z' hz;refine Im.bind (Ln t hz) ?_;rintro a _ ⟨ha,rfl⟩;exact Im.pure (.ptr a ha)
structure PR(p p':Nat×Value):Prop where
 at_:p'.1=p.1
 val:VR S p.2 p'.2
theorem b9K(off:Nat):∀(l l':List (Value×Nat))(c c':Array Value),LR (λp p'=>VR S p.1 p'.1/\p'.2=p.2) l l'->AR S c c'->
 AR S (l.foldl (λcs(c,j)=>cs.setIfInBounds (off+j) c) c) (l'.foldl (λcs(c,j)=>cs.setIfInBounds (off+j) c) c'):=by
 intro l l' c c' hl
 induction hl generalizing c c' with
 | nil=>intro h;exact h
 | @cons p p' l l' h _ ih=>
  intro hc;obtain⟨v,i⟩:=p;obtain⟨v',i'⟩:=p';obtain⟨h1,h2⟩:=h;dsimp only at h1 h2;subst h2;rw[jG,jG];exact ih _ _ (hc.set _ h1)
theorem PT{l l':List Value}(h:LR (VR S) l l'):∀k,LR (λp p'=>VR S p.1 p'.1/\p'.2=p.2) (l.zipIdx k) (l'.zipIdx k):=by
 induction h with
 | nil=>intro k;exact .nil
 | cons h _ ih=>intro k;exact .cons ⟨h,rfl⟩ (ih _)
theorem ZW(place:Nat->Option (Nat×Nat)):∀(l l':List (Nat×Value))(c c':Array Value),LR (PR (S:=S)) l l'->AR S c c'->
 (Instr.fill place c l=none)\/∃x x',Instr.fill place c l=some x/\Instr.fill place c' l'=some x'/\AR S x x':=by
 intro l l' c c' hl
 induction hl generalizing c c' with
 | nil=>intro h;exact .inr ⟨c,c',rfl,rfl,h⟩
 | @cons p p' l l' h _ ih=>
  intro hc;obtain⟨i,v⟩:=p;obtain⟨i',v'⟩:=p';obtain⟨rfl,hv⟩:=h;have hcs:=hv.cells;unfold Instr.fill;dsimp only
  cases place i' with
  | none=>exact .inl rfl
  | some os=>
   obtain⟨off,size⟩:=os;dsimp only at hcs⊢;rw[<-hcs.size,<-hc.size];split
   ·exact .inl rfl
   ·refine ih _ _ ?_;have h1:LR (λp p'=>VR S p.1 p'.1/\p'.2=p.2) v.cells.zipIdx.toList v'.cells.zipIdx.toList:=by
     rw[sD,sD];exact PT hcs.list 0
    have:=b9K off _ _ c c' h1 hc;rw[<-lU,<-lU];exact this
theorem b1T{α β:Type}(f:α->Sem β)(h:∀x,Im S P (λa b=>b=a) (f x) (f x))(l:List α):Im S P (λa b=>b=a) (l.mapM f) (l.mapM f):=by
 induction l with
 | nil=>exact Im.pure rfl
 | cons x l ih=>
  rw[lJ];refine Im.bind (h x) ?_;rintro _ a rfl;refine Im.bind ih ?_;rintro _ b rfl;exact Im.pure rfl
theorem a96{α β:Type}(f:α->Sem β)(h:∀x,Im S P (λa b=>b=a) (f x) (f x))(l:Array α):Im S P (λa b=>b=a) (l.mapM f) (l.mapM f):=by
 rw[gZ];show Im S P _ (Functor.map List.toArray _) (Functor.map List.toArray _);rw[jv];refine Im.bind (b1T f h _) ?_;rintro _ a rfl;exact Im.pure rfl
theorem b9L(t:TypeId)(hz:mF S P t){parts parts':Array (Nat×Value)}(h:LR (PR (S:=S)) parts.toList parts'.toList):Im S P (VR S) (Instr.build t parts) (Instr.build t parts'):=by
 unfold Instr.build;refine Im.bind (Y1 t hz) ?_;intro z z' hz;dsimp only;refine Im.bind (F5 t) ?_;rintro d _ ⟨rfl,_⟩;split
 ·refine Im.bind (a96 _ (λf=>?_) _) ?_
  ·refine Im.bind (U3 _) ?_;rintro _ n rfl;exact Im.pure rfl
  ·rintro _ places rfl;rcases ZW (λi=>places[i]?) _ _ _ _ h hz.cells with e|⟨x,x',e,e',hx⟩
   ·rw[e];exact A8 _ _
   ·rw[e,e'];exact Im.pure (VR.agg' hx)
 ·refine Im.bind (U3 _) ?_;rintro _ n rfl;rcases ZW (λi=>some (i*n,n)) _ _ _ _ h hz.cells with e|⟨x,x',e,e',hx⟩
  ·rw[e];exact A8 _ _
  ·rw[e,e'];exact Im.pure (VR.agg' hx)
 ·exact A8 _ _
theorem b1U{c c':Array Value}(h:AR S c c')(hne:∀n,n≠0->True)(n:Nat)(hd:0<c.size\/n=0):AR S ((Array.range n).map (c[· % c.size]!)) ((Array.range n).map (c'[· % c'.size]!)):=by
 refine⟨by simp,λi h1 h2=>?_⟩;simp only[mM,Array.getElem_range];simp only[Array.size_map,Array.size_range] at h1;rcases hd with hd|hd
 ·have hm:i%c.size<c.size:=Nat.mod_lt _ hd;have hm':i%c'.size<c'.size:=by rw[<-h.size];exact hm
  rw[vY c _ hm,vY c' _ hm'];have:=h.at_ (i%c.size) hm (by rw[<-h.size];exact hm);simpa only[h.size] using this
 ·omega
theorem b4y:VR S (default:Value) default:=VR.bool _
theorem ag{c c':Array Value}(h:AR S c c')(n:Nat):AR S ((Array.range n).map (c[· % c.size]!)) ((Array.range n).map (c'[· % c'.size]!)):=by
 by_cases hd:0<c.size
 ·exact b1U h (λ_ _=>trivial) n (.inl hd)
 ·refine⟨by simp,λi h1 h2=>?_⟩;simp only[mM,Array.getElem_range];have h0:c.size=0:=by omega
  have h0':c'.size=0:=by rw[<-h.size];exact h0
  rw[getElem!_neg c _ (by omega),getElem!_neg c' _ (by omega)];exact b4y
theorem a97(t:TypeId)(hz:∀e,P.underlying t=some (.slice e)->mF S P e)(len:Nat){parts parts':Array (Nat×Value)}(h:LR (PR (S:=S)) parts.toList parts'.toList):Im S P (VR S) (Instr.buildSlice t len parts) (Instr.buildSlice t len parts'):=by
 unfold Instr.buildSlice;refine Im.bind (F5 t) ?_;rintro d _ ⟨rfl,hd⟩;split
 ·rename_i elem;refine Im.bind (U3 _) ?_;rintro _ size rfl;dsimp only;split
  ·exact y9 _ _
  ·have key:∀z z',AR S z z'->Im S P (VR S)
    (do
      let some cells:=Instr.fill (λi=>some (i*size,size)) ((Array.range (len*size)).map (z[· % z.size]!)) parts.toList|stuck "buildSlice: a part of the wrong size"
      pure (.slice (some (<-newRow elem cells)) len len))
    (do
      let some cells:=Instr.fill (λi=>some (i*size,size)) ((Array.range (len*size)).map (z'[· % z'.size]!)) parts'.toList|stuck "buildSlice: a part of the wrong size"
      pure (.slice (some (<-newRow elem cells)) len len)):=by
    intro z z' hz;rcases ZW (λi=>some (i*size,size)) _ _ _ _ h (ag hz (len*size)) with e|⟨x,x',e,e',hx⟩
    ·rw[e];exact A8 _ _
    ·rw[e,e'];refine Im.bind (KC _ hx) ?_;rintro a _ ⟨ha,rfl⟩;exact Im.pure (.slice a len len ha)
   split
   ·exact Im.bind (R:=AR S) (Im.pure AR.nil) key
   ·exact Im.bind (Y1 _ (hz _ hd)) λz z' hz=>Im.bind (R:=AR S) (Im.pure hz.cells) key
 ·exact A8 _ _
theorem b7n(t:TypeId){a a':Value}(h:VR S a a'):Im S P (VR S) (Instr.loadAt t a) (Instr.loadAt t a'):=by
 unfold Instr.loadAt;refine Im.bind (QX h) ?_;rintro a _ ⟨ha,rfl⟩;exact Rm t ha
theorem b4z(t:TypeId){a a' v v':Value}(h:VR S a a')(hv:VR S v v'):Im S P (λ_ _=>True) (Instr.storeAt t a v) (Instr.storeAt t a' v'):=by
 unfold Instr.storeAt;refine Im.bind (QX h) ?_;rintro a _ ⟨ha,rfl⟩;exact b29 t ha hv
theorem a98{a:Addr}(h:S.D a.block)(f:Field)(hz:∀i,P.info? f.type=some i->i.size≠0):Im S P (λa a'=>S.D a.block/\a'=rA S a) (fieldPlace a f) (fieldPlace (rA S a) f):=by
 unfold fieldPlace;unfold sizeOf;simp only[bind_assoc,pure_bind];refine Im.bind (Y0 _) ?_;rintro _ i ⟨rfl,hi⟩;rw[if_neg (hz _ hi),if_neg (hz _ hi),<-zl];exact Im.pure ⟨by rw[add_block];exact h,rfl⟩
theorem b4A(s:TypeId)(f:Nat)(hz:∀fs g i,P.underlying s=some (.struct fs)->fs[f]?=some g->P.info? g.type=some i->i.size≠0){a a':Value}(h:VR S a a'):Im S P (VR S) (Instr.fieldAt s a f) (Instr.fieldAt s a' f):=by
 unfold Instr.fieldAt;refine Im.bind (F5 s) ?_;rintro _ d ⟨rfl,hd⟩;split
 ·rename_i fs;split
  ·rename_i g hg;refine Im.bind (QX h) ?_;rintro a _ ⟨ha,rfl⟩;refine Im.bind (a98 ha g λi hi=>hz fs g i hd hg hi) ?_;rintro b _ ⟨hb,rfl⟩;exact Im.pure (.ptr b hb)
  ·exact A8 _ _
 ·exact A8 _ _
def cq(t:TypeId)(k:IntKind)(n:Int)(p:Option Addr×Nat×TypeId):Sem Value:=do
 let tiny:=p.2.1<=1&&(match <-underlying t with|.array ..=>true|_=>false)
 match p.1 with
 | some a=>
  if 0<=n/\n<p.2.1 then pure (.pointer (some (a.add (n.toNat*(<-sizeOf p.2.2)))))
  else if tiny then unsupported (.noEntry "op/indexAddr.an index out of range at an array of length 0 or 1 (ledger 616)")
  else boundsPanic k n p.2.1 .index
 | none=>boundsPanic k n 0 .index
theorem cY(hP:POK S P)(t:TypeId)(k:IntKind)(n:Int){p p':Option Addr×Nat×TypeId}(h2:p'.2=p.2)(h1:(p.1=none/\p'.1=none)\/∃x,p.1=some x/\p'.1=some (rA S x)/\S.D x.block):
 Im S P (VR S) (cq t k n p) (cq t k n p'):=by
 obtain⟨b,l⟩:=p;obtain⟨b',l'⟩:=p';dsimp only at h1 h2;subst h2;unfold cq;refine Im.bind (F5 t) ?_;rintro _ d ⟨rfl,_⟩;dsimp only;rcases h1 with⟨rfl,rfl⟩|⟨a,rfl,rfl,ha⟩
 ·exact ep _ _ _ _
 ·dsimp only;split
  ·refine Im.bind (U3 _) ?_;rintro _ s rfl;rw[<-zl];exact Im.pure (.ptr _ (by rw[add_block];exact ha))
  ·split<;>split<;>first|exact y9 _ _|exact ep _ _ _ _
theorem b4B(hP:POK S P)(t:TypeId){x x' i i':Value}(h:VR S x x')(hi:VR S i i'):Im S P (VR S) (Instr.indexAt t x i) (Instr.indexAt t x' i'):=by
 unfold Instr.indexAt;refine Im.bind (cr hi) ?_;rintro _ ⟨k,n⟩ ⟨rfl,_⟩;dsimp only;refine Im.bind (F5 t) ?_;rintro _ d ⟨rfl,_⟩
 cases d with
 | array len elem=>
  refine Im.bind (QX h) ?_;rintro a _ ⟨ha,rfl⟩
  exact cY hP t k n (p:=(some a,len,elem)) (p':=(some (rA S a),len,elem)) rfl (.inr ⟨a,rfl,rfl,ha⟩)
 | slice elem=>
  cases h with
  | gy l c=>exact cY hP t k n (p:=(none,l,elem)) (p':=(none,l,elem)) rfl (.inl ⟨rfl,rfl⟩)
  | slice a l c ha=>exact cY hP t k n (p:=(some a,l,elem)) (p':=(some (rA S a),l,elem)) rfl (.inr ⟨a,rfl,rfl,ha⟩)
  | _=>exact A8 _ _
 | _=>exact A8 _ _
theorem a99(hP:POK S P){x x':Value}(h:VR S x x')(y:Nat)(c:BoundsCode):Im S P (λa b=>b=a) (Instr.sliceBound x y c) (Instr.sliceBound x' y c):=by
 unfold Instr.sliceBound;refine Im.bind (cr h) ?_;rintro _ ⟨k,n⟩ ⟨rfl,_⟩;dsimp only;split
 ·exact Im.pure rfl
 ·exact ep _ _ _ _
inductive OR(S:Sit):Option Value->Option Value->Prop
 | none:OR S none none
 | some {v v':Value} (h:VR S v v'):OR S (some v) (some v')
theorem QY(hP:POK S P)(b:Bool)(n c:Nat){l l' h h' m m':Option Value}(hl:OR S l l')(hh:OR S h h')(hm:OR S m m'):Im S P (λa b=>b=a) (Instr.sliceBounds b n c l h m) (Instr.sliceBounds b n c l' h' m'):=by
 unfold Instr.sliceBounds;cases hm<;>cases hh<;>cases hl<;>dsimp only <;>
  repeat (first|exact A8 _ _|exact Im.pure rfl|(refine Im.bind (R:=λ(a b:Nat)=>b=a) (by first|exact Im.pure rfl|exact A8 _ _|exact a99 hP (by assumption) _ _) ?_;rintro _ _ rfl))
theorem b9M(hP:POK S P)(t:TypeId){x x':Value}(hx:VR S x x'){l l' h h' m m':Option Value}(hl:OR S l l')(hh:OR S h h')(hm:OR S m m'):Im S P (VR S) (Instr.slice t x l h m) (Instr.slice t x' l' h' m'):=by
 unfold Instr.slice;refine Im.bind (F5 t) ?_;rintro _ d ⟨rfl,_⟩;have key:∀(a:Addr)(ha:S.D a.block)(elem:TypeId)(b:Bool)(n c:Nat),Im S P (VR S)
  (do let (l,h,m) <-Instr.sliceBounds b n c l h m;let size <-sizeOf elem;pure (.slice (some (if m=l then a else a.add (l*size))) (h - l) (m - l)):Sem Value)
  (do let (l,h,m) <-Instr.sliceBounds b n c l' h' m';let size <-sizeOf elem;pure (.slice (some (if m=l then rA S a else(rA S a).add (l*size))) (h - l) (m - l)):Sem Value):=by
  intro a ha elem b n c;refine Im.bind (QY hP _ _ _ hl hh hm) ?_;rintro _ ⟨i,j,k⟩ rfl;refine Im.bind (U3 _) ?_;rintro _ s rfl;split
  ·exact Im.pure (.slice a _ _ ha)
  ·rw[<-zl];exact Im.pure (.slice _ _ _ (by rw[add_block];exact ha))
 cases d with
 | string=>
  cases hx with
  | string s=>
   dsimp only
   cases hm with
   | some _=>exact A8 _ _
   | none=>
    refine Im.bind (QY hP _ _ _ hl hh .none) ?_;rintro _ ⟨i,j,k⟩ rfl
    exact Im.pure (.string _)
  | _=>exact A8 _ _
 | slice elem=>
  cases hx with
  | gy n c=>
   dsimp only;refine Im.bind (QY hP _ _ _ hl hh hm) ?_;rintro _ ⟨i,j,k⟩ rfl;refine Im.bind (U3 _) ?_;rintro _ s rfl;dsimp only
   split<;>exact Im.pure (.gy _ _)
  | slice a n c ha=>
   dsimp only;refine Im.bind (QY hP _ _ _ hl hh hm) ?_;rintro _ ⟨i,j,k⟩ rfl;refine Im.bind (U3 _) ?_;rintro _ s rfl;dsimp only;split
   ·exact Im.pure (.slice a _ _ ha)
   ·rw[dH,dH,<-zl];exact Im.pure (.slice _ _ _ (by rw[add_block];exact ha))
  | _=>exact A8 _ _
 | pointer arr=>
  refine Im.bind (K9 hx) ?_;rintro a _ ⟨ha,rfl⟩;refine Im.bind (F5 _) ?_;rintro _ d ⟨rfl,_⟩;split
  ·exact key a ha _ _ _ _
  ·exact A8 _ _
 | _=>exact A8 _ _
theorem b4C(hP:POK S P)(t:TypeId){x x':Value}(hx:VR S x x'){l l' h h' m m':Option Value}(hl:OR S l l')(hh:OR S h h')(hm:OR S m m'):Im S P (VR S) (Instr.sliceAt t x l h m) (Instr.sliceAt t x' l' h' m'):=by
 unfold Instr.sliceAt;refine Im.bind (F5 t) ?_;rintro _ d ⟨rfl,_⟩;split
 ·refine Im.bind (QX hx) ?_;rintro a _ ⟨ha,rfl⟩;refine Im.bind (QY hP _ _ _ hl hh hm) ?_;rintro _ ⟨i,j,k⟩ rfl;refine Im.bind (U3 _) ?_;rintro _ s rfl;split
  ·exact Im.pure (.slice a _ _ ha)
  ·rw[<-zl];exact Im.pure (.slice _ _ _ (by rw[add_block];exact ha))
 ·exact b9M hP t hx hl hh hm
theorem a6H(t:TypeId)(ht:S.T t){x x':Value}(hx:VR S x x'):Im S P (VR S) (Instr.makeInterface t x) (Instr.makeInterface t x'):=by
 unfold Instr.makeInterface;refine Im.bind (F5 t) ?_;rintro _ d ⟨rfl,_⟩;split
 ·exact A8 _ _
 ·exact Im.pure (.iface t _ _ ht hx)
theorem b4D(i:Nat){x x':Value}(h:VR S x x'):Im S P (VR S) (Instr.extract x i) (Instr.extract x' i):=by
 unfold Instr.extract
 cases h with
 | tuple c c' hc hc'=>
  rcases AR.get? ⟨hc,hc'⟩ i with⟨e,_⟩|⟨v,v',e,e',hv⟩
  ·dsimp only;rw[e];exact A8 _ _
  ·dsimp only;rw[e,e'];exact Im.pure hv
 | _=>exact A8 _ _
end
section
variable{S:Sit}{P:Program}
theorem qL{α β:Type}{R:α->β->Prop}(c:Prop)[Decidable c]{s t:Sem α}{s' t':Sem β}(h:c->Im S P R s s')(k:¬c->Im S P R t t'):Im S P R (if c then s else t) (if c then s' else t'):=by
 split
 ·exact h ‹_›
 ·exact k ‹_›
theorem U8{α β β':Type}{R:β->β'->Prop}(x:Unsupported)(f:α->Sem β)(s':Sem β'):Im S P R (unsupported x >>= f) s':=Im.halt _ _
theorem RL(op:BinOp)(k:IntKind)(x y:Int):Im S P (VR S) (Op.intArith op k x y) (Op.intArith op k x y):=by
 unfold Op.intArith;split<;>first|exact Im.pure (.int _ _)|exact A8 _ _
theorem Rb(op:BinOp)(k:IntKind)(x y:Int):Im S P (VR S) (Op.intBits op k x y) (Op.intBits op k x y):=by
 unfold Op.intBits;dsimp only;split<;>first|exact Im.pure (.int _ _)|exact A8 _ _
theorem b7o(op:BinOp)(x y:Int):Im S P (VR S) (Op.intCmp op x y) (Op.intCmp op x y):=by
 unfold Op.intCmp;split<;>first|exact Im.pure (.bool _)|exact A8 _ _
theorem b7p(op:BinOp)(k:IntKind)(x y:Int):Im S P (VR S) (Op.intDiv op k x y) (Op.intDiv op k x y):=by
 unfold Op.intDiv;split
 ·exact Q7 _ trivial
 ·split<;>first|exact Im.pure (.int _ _)|exact A8 _ _
theorem b9N(op:BinOp)(k:IntKind)(x:Int)(j:IntKind)(y:Int):Im S P (VR S) (Op.shift op k x j y) (Op.shift op k x j y):=by
 unfold Op.shift;split
 ·exact Q7 _ trivial
 ·dsimp only;split<;>first|exact Im.pure (.int _ _)|exact A8 _ _
theorem cQ(op:BinOp)(x y:ByteArray):Im S P (VR S) (Op.stringOp op x y) (Op.stringOp op x y):=by
 unfold Op.stringOp;dsimp only;split
 ·split
  ·exact y9 _ _
  ·exact Im.pure (.string _)
 all_goals first|exact Im.pure (.bool _)|exact A8 _ _
theorem b9O(op:UnOp){x x':Value}(h:VR S x x'):Im S P (VR S) (Op.unary op x) (Op.unary op x'):=by
 cases h<;>cases op<;>first|exact RL .sub _ 0 _|exact Rb .xor _ _ _|exact Im.pure (.float _ _)|exact Im.pure (.complex _ _ _)|exact Im.pure (.bool _)|exact y9 _ _|exact A8 _ _
theorem cj(op:BinOp)(t:TypeId)(k:IntKind)(a:Int)(k':IntKind)(b:Int):Im S P (VR S) (binOp op t (.int k a) (.int k' b)) (binOp op t (.int k a) (.int k' b)):=by
 have key:∀{s s':Sem Value},Im S P (VR S) s s'->Im S P (VR S) (if k≠k' then stuck "BinOp: operands of different kinds" else s) (if k≠k' then stuck "BinOp: operands of different kinds" else s'):=λh=>qL _ (λ_=>A8 _ _) λ_=>h
 cases op<;>first
  | exact key (RL _ _ _ _)
  | exact key (b7p _ _ _ _)
  | exact key (Rb _ _ _ _)
  | exact key (b7o _ _ _)
  | (unfold binOp;exact b9N _ _ _ _ _)
theorem Vh(t:TypeId){p p':Option Addr}(hp:VR S (.pointer p) (.pointer p')){y y':Value}(hy:VR S y y'):Im S P (VR S) (Builtin.unsafeAdd_ #[] t #[.pointer p,y]) (Builtin.unsafeAdd_ #[] t #[.pointer p',y']):=by
 unfold Builtin.unsafeAdd_;dsimp only;refine Im.bind (b9I hy) ?_;rintro n _ rfl
 cases hp with
 | jc=>
  dsimp only;split
  ·exact y9 _ _
  ·split
   ·exact U8 _ _ _
   ·exact y9 _ _
 | ptr a ha=>
  dsimp only;split
  ·refine Im.bind (K7 ha) ?_;rintro o _ rfl;split
   ·exact U8 _ _ _
   ·exact Im.pure (.ptr a ha)
  ·split
   ·exact U8 _ _ _
   ·refine Im.bind (Qv ha) ?_;rintro s _ rfl;split
    ·refine Im.bind Y9 ?_;rintro p p' ⟨hp,hp'⟩;subst hp';subst hp;rw[Zh];split
     ·rename_i off _;exact Im.pure (.ptr {a with off:=off} ha)
     ·exact y9 _ _
    ·exact y9 _ _
theorem Vy(t:TypeId){x x' y y':Value}(hx:VR S x x')(hy:VR S y y'):Im S P (VR S) (movedNumber t x y) (movedNumber t x' y'):=by
 unfold movedNumber;refine Im.bind (F5 t) ?_;rintro d _ ⟨rfl,_⟩
 cases hx with
 | ptr a ha=>
  dsimp only;refine qL _ (λ_=>U8 _ _ _) λ_=>?_;refine Im.bind (U6 ha) ?_;rintro⟨b,l⟩ _ ⟨hb,rfl⟩;refine Im.bind (Vh t (.ptr b hb) hy) ?_;intro v v' hv
  cases hv with
  | ptr c hc=>exact b3a hc _
  | _=>exact Im.pure (by constructor<;>assumption)
 | jc=>
  dsimp only
  exact qL _ (λ_=>U8 _ _ _) λ_=>Vh t .jc hy
 | _=>
  dsimp only;exact qL _ (λ_=>U8 _ _ _) λ_=>Im.halt _ _
theorem bi(t:TypeId){p p':Option Addr}(hp:VR S (.pointer p) (.pointer p')){y y':Value}(hy:VR S y y'):Im S P (VR S) (movedPointer t (.pointer p) y) (movedPointer t (.pointer p') y'):=by
 unfold movedPointer
 cases hp with
 | jc=>exact Vh t .jc hy
 | ptr a ha=>
  refine Im.bind (RO ha) ?_;intro o o' ho
  cases ho with
  | none=>exact Vh t (.ptr a ha) hy
  | some b l hb=>exact U8 _ _ _
theorem b7q{a:Addr}(ha:S.D a.block):Im S P (λa b=>b=a) (byteOf a) (byteOf (rA S a)):=by
 unfold byteOf;rw[c22];split
 ·exact Im.pure rfl
 ·refine Im.bind Y9 ?_;rintro p p' ⟨hp,hp'⟩;subst hp';subst hp;refine Im.bind (b7m ha) ?_;intro _ _ _;refine Im.bind (Qv ha) ?_;rintro _ s rfl;rw[Zh];split
  ·dsimp only;split
   ·exact Im.pure rfl
   ·split
    ·exact Im.pure rfl
    ·exact A8 _ _
  ·exact A8 _ _
structure PGK(S:Sit)(P:Program):Prop where
 high:∀b,S.D b->P.globals.size<=b
 inj:∀a b,S.D a->S.D b->S.ren a=S.ren b->a=b
theorem b4E(hP:PGK S P)(op:BinOp){a b a' b':Addr}(ha:S.D a.block):Im S P (VR S) (Op.addrCmp op a b) (Op.addrCmp op a' b'):=by
 unfold Op.addrCmp Op.twoPlaces;have e:(a.block != b.block||decide (a.block ≥ P.globals.size))=true:=by simp[hP.high _ ha]
 refine Im.bind (R:=λ_ _=>False) (Im.bind Y9 ?_) λ_ _ h=>h.elim;rintro p p' ⟨hp,hp'⟩;subst hp';subst hp;rw[if_pos e];exact U8 _ _ _
theorem Q6(k:IntKind){a:Addr}(ha:S.D a.block)(n:Int):Im S P (VR S) (Op.addrMod k a n) (Op.addrMod k (rA S a) n):=by
 unfold Op.addrMod;refine Im.bind (Qv ha) ?_;rintro s _ rfl;split
 ·refine Im.bind (Y0 _) ?_;rintro i _ ⟨rfl,_⟩;dsimp only;refine qL _ (λ_=>U8 _ _ _) λ_=>?_;refine Im.bind (b7q ha) ?_;rintro n _ rfl;exact Im.pure (.int _ _)
 ·exact y9 _ _
def SV:BinOp->Bool
 | .add|.lss|.gtr|.and|.or|.xor|.mul|.shl|.shr=>true
 | _=>false
theorem b9P(hP:PGK S P)(op:BinOp)(ho:SV op=true)(t:TypeId){x x' y y':Value}(hx:VR S x x')(hy:VR S y y'):Im S P (VR S) (binOp op t x y) (binOp op t x' y'):=by
 have hx0:=hx;have hy0:=hy;have hadd:∀{a b u u':Value}{c:Prop}[Decidable c]{r r':Sem Value},Im S P (VR S) r r'->(Im S P (VR S) (movedNumber t a u) (movedNumber t b u'))->Im S P (VR S) (if c then r else movedNumber t a u) (if c then r' else movedNumber t b u'):=λh k=>qL _ (λ_=>h) λ_=>k
 cases hx with
 | int k a=>
  cases hy with
  | int k' b=>exact cj _ _ _ _ _ _
  | ptr b hb=>
   cases op<;>first
    | exact absurd ho (by decide)
    | (unfold binOp;dsimp only;first
        | exact Vy t hy0 hx0
        | exact y9 _ _
        | (refine Im.bind (U6 hb) ?_;rintro p _ ⟨h1,rfl⟩;exact Q6 _ h1 _))
  | _=>cases op<;>first
   | exact absurd ho (by decide)
   | (unfold binOp;dsimp only;first
       | exact Vy t hy0 hx0
       | exact y9 _ _
       | exact A8 _ _)
 | string s=>
  cases hy with
  | string u=>cases op<;>first|exact absurd ho (by decide)|(unfold binOp;dsimp only;exact cQ _ _ _)
  | _=>cases op<;>first
   | exact absurd ho (by decide)
   | (unfold binOp;dsimp only;first|exact y9 _ _|exact A8 _ _)
 | ptr a ha=>
  cases hy with
  | int k' b=>
   cases op<;>first
    | exact absurd ho (by decide)
    | (unfold binOp;dsimp only;first
        | exact y9 _ _
        | (refine Im.bind (U6 ha) ?_;rintro p _ ⟨h1,rfl⟩;exact Q6 _ h1 _)
        | (refine Im.bind (F5 t) ?_
           rintro d _ ⟨rfl,_⟩
           exact hadd (bi t hx0 hy0) (Vy t hx0 hy0)))
  | ptr b hb=>
   cases op<;>first
    | exact absurd ho (by decide)
    | (unfold binOp;dsimp only;first
        | exact y9 _ _
        | (refine Im.bind (U6 ha) ?_;rintro p _ ⟨h1,rfl⟩
           refine Im.bind (U6 hb) ?_;rintro q _ ⟨h2,rfl⟩
           exact b4E hP _ h1))
  | _=>cases op<;>first
   | exact absurd ho (by decide)
   | (unfold binOp;dsimp only;first|exact y9 _ _|exact A8 _ _)
 | jc=>
  cases hy with
  | int k' b=>
   cases op<;>first
    | exact absurd ho (by decide)
    | (unfold binOp;dsimp only;first
        | exact y9 _ _
        | (refine Im.bind (F5 t) ?_
           rintro d _ ⟨rfl,_⟩
           exact hadd (bi t hx0 hy0) (Vy t hx0 hy0)))
  | _=>cases op<;>first
   | exact absurd ho (by decide)
   | (unfold binOp;dsimp only;first|exact y9 _ _|exact A8 _ _)
 | _=>
  cases hy<;>cases op<;>first
   | exact absurd ho (by decide)
   | (unfold binOp;dsimp only;first|exact y9 _ _|exact A8 _ _)
end
section
variable{S:Sit}{P:Program}
structure PQG(S:Sit)(P:Program):Prop extends PGK S P where
 high':∀b,S.D b->P.globals.size<=S.ren b
theorem PQ(hP:PGK S P){a b:Addr}(ha:S.D a.block)(hb:S.D b.block):(rA S a==rA S b)=(a==b):=by
 rw[Bool.eq_iff_iff,dP,dP];refine⟨λh=>?_,λh=>by rw[h]⟩;obtain⟨x,i,s⟩:=a;obtain⟨y,j,u⟩:=b;unfold rA at h;injection h with h1 h2 h3;have:=hP.inj _ _ ha hb h1;dsimp only at this h2 h3;subst this;subst h2;subst h3;rfl
theorem XX(hP:PQG S P)(d:Nat)(t:TypeId){k:IntKind}(ht:P.underlying t=some (.int k)){x x' y y':Value}(hx:VR S x x')(hy:VR S y y'):Im S P (λa b=>b=a) (Op.equalIn (d+1) t x y) (Op.equalIn (d+1) t x' y'):=by
 rw[Op.equalIn,Op.equalIn];refine Im.bind (F5 t) ?_;rintro _ td ⟨rfl,h⟩;rw[ht] at h;injection h with h;subst h
 cases hx with
 | int k1 a=>
  cases hy with
  | int k2 b=>exact qL _ (λ_=>Im.pure rfl) λ_=>A8 _ _
  | ptr b hb=>
   by_cases e:a=0
   ·subst e;exact Im.pure rfl
   ·dsimp only;split<;>first|exact Im.pure rfl|(rename_i h _;cases h)|skip
    all_goals first|exact y9 _ _|exact absurd (by simp_all) e|skip
    all_goals simp_all
  | _=>first|exact y9 _ _|exact A8 _ _
 | ptr a ha=>
  cases hy with
  | int k2 b=>
   by_cases e:b=0
   ·subst e;exact Im.pure rfl
   ·dsimp only;split<;>first|exact Im.pure rfl|skip
    all_goals first|exact y9 _ _|exact absurd (by simp_all) e|skip
    all_goals simp_all
  | ptr b hb=>
   dsimp only;refine Im.bind (U6 ha) ?_;rintro⟨p,l⟩ _ ⟨hp,rfl⟩;refine Im.bind (U6 hb) ?_;rintro⟨q,l'⟩ _ ⟨hq,rfl⟩;refine Im.bind Y9 ?_;rintro p0 p0' ⟨h0,h0'⟩;rw[h0,h0'];have e1:¬(p.block==q.block&&decide (p.block<P.globals.size))=true:=by simp;intro _;exact hP.high _ hp
   have e2:¬((rA S p).block==(rA S q).block&&decide ((rA S p).block<P.globals.size))=true:=by
    have h3:decide ((rA S p).block<P.globals.size)=false:=aI (by have h4:P.globals.size<=S.ren p.block:=hP.high' _ hp;simp only[Ge];omega);rw[h3];simp
   dsimp only;rw[if_neg e1,if_neg e2];refine Im.bind (Y0 t) ?_;rintro _ i ⟨rfl,_⟩;rw[PQ hP.toPGK hp hq];split
   ·exact qL _ (λ_=>Im.pure rfl) λ_=>y9 _ _
   ·exact y9 _ _
  | _=>first|exact y9 _ _|exact A8 _ _
 | jc=>cases hy<;>first|exact y9 _ _|exact A8 _ _
 | _=>cases hy<;>first|exact y9 _ _|exact A8 _ _
theorem FO(hP:PQG S P)(t:TypeId){k:IntKind}(ht:P.underlying t=some (.int k)){x x' y y':Value}(hx:VR S x x')(hy:VR S y y'):Im S P (λa b=>b=a) (Op.equal t x y) (Op.equal t x' y'):=XX hP 9999 t ht hx hy
theorem b3b(op:BinOp)(t:TypeId){k:IntKind}(ht:P.underlying t=some (.int k))(x y:Operand){a a' b b':Value}(ha:VR S a a')(hb:VR S b b'):Im S P (λ_ _=>True) (eqGuard op t x y a b) (eqGuard op t x y a' b'):=by
 have key:∀(u:Unsupported){a a' b b':Value},Im S P (λ_ _=>True) (do if <-Op.eqGuardIn Op.maxDepth t a b then unsupported u:Sem Unit) (do if <-Op.eqGuardIn Op.maxDepth t a' b' then unsupported u:Sem Unit):=by
  intro u a a' b b';refine Im.bind (R:=λa b=>a=false/\b=false) ?_ ?_
  ·show Im S P _ (Op.eqGuardIn (9999+1) t a b) (Op.eqGuardIn (9999+1) t a' b');rw[Op.eqGuardIn,Op.eqGuardIn];refine Im.bind (F5 t) ?_;rintro _ td ⟨rfl,h⟩;rw[ht] at h;injection h with h;subst h;exact Im.pure ⟨rfl,rfl⟩
  ·rintro _ _ ⟨rfl,rfl⟩;exact Im.pure trivial
 unfold eqGuard;refine qL _ (λ_=>Im.pure trivial) λ_=>?_
 cases ha with
 | nilIface=>
  cases hb with
  | nilIface=>exact qL _ (λ_=>Im.pure trivial) λ_=>key _
  | _=>exact Im.pure trivial
 | agg c c' hc hc'=>
  cases hb with
  | agg e e' he he'=>
   dsimp only;refine Im.bind Y9 ?_;rintro p0 p0' ⟨h0,h0'⟩;rw[h0,h0'];refine Im.bind Y9 ?_;rintro p1 p1' ⟨h1,h1'⟩;rw[h1,h1']
   exact qL _ (λ_=>Im.pure trivial) λ_=>key _
  | _=>exact Im.pure trivial
 | _=>cases hb<;>exact Im.pure trivial
theorem b3c(op:BinOp)(t:TypeId)(x:Operand){a a':Value}(ha:VR S a a'):Im S P (λ_ _=>True) (eqGuard op t x (.const .nilIface) a .nilIface) (eqGuard op t x (.const .nilIface) a' .nilIface):=by
 unfold eqGuard;refine qL _ (λ_=>Im.pure trivial) λ_=>?_
 cases ha with
 | nilIface=>exact qL _ (λ_=>Im.pure trivial) λh=>absurd (by simp) h
 | _=>exact Im.pure trivial
theorem b9Q(t:TypeId){ms:Array (String×TypeId)}(ht:P.underlying t=some (.interface ms)){x x':Value}(hx:VR S x x'):Im S P (λa b=>b=a) (Op.equal t x .nilIface) (Op.equal t x' .nilIface):=by
 show Im S P _ (Op.equalIn (9999+1) t x _) (Op.equalIn (9999+1) t x' _);rw[Op.equalIn,Op.equalIn];refine Im.bind (F5 t) ?_;rintro _ td ⟨rfl,h⟩;rw[ht] at h;injection h with h;subst h;cases hx<;>first|exact Im.pure rfl|exact A8 _ _
inductive Td(P:Program)(t:TypeId):Operand->Prop
 | int (k:IntKind) (ht:P.underlying t=some (.int k)) (y:Operand):Td P t y
 | nil (ms:Array (String×TypeId)) (ht:P.underlying t=some (.interface ms)):Td P t (.const .nilIface)
theorem C7(op:BinOp)(ho:op=.eql\/op=.neq)(t:TypeId){x x' y y':Value}(hx:VR S x x')(hy:VR S y y')(h:Im S P (λa b=>b=a) (Op.equal t x y) (Op.equal t x' y')):Im S P (VR S) (binOp op t x y) (binOp op t x' y'):=by
 have k1:Im S P (VR S) (do pure (.bool (<-Op.equal t x y)):Sem Value) (do pure (.bool (<-Op.equal t x' y')):Sem Value):=Im.bind h λa b e=>by subst e;exact Im.pure (.bool _)
 have k2:Im S P (VR S) (do pure (.bool (!(<-Op.equal t x y))):Sem Value) (do pure (.bool (!(<-Op.equal t x' y'))):Sem Value):=Im.bind h λa b e=>by subst e;exact Im.pure (.bool _)
 rcases ho with rfl|rfl
 ·cases hx<;>cases hy<;>first|exact cj _ _ _ _ _ _|exact k1|exact cQ .eql _ _
 ·cases hx<;>cases hy<;>first|exact cj _ _ _ _ _ _|exact k2|exact cQ .neq _ _
theorem b9R{β β':Type}{Q:β->β'->Prop}{l l':List Value}(hl:LR (VR S) l l'){b:β}{b':β'}(hb:Q b b'){f:Value->β->Sem (ForInStep β)}{f':Value->β'->Sem (ForInStep β')}
 (hf:∀x x' b b',VR S x x'->Q b b'->Im S P (λr r'=>(∃c c',r=.yield c/\r'=.yield c'/\Q c c')\/∃c c',r=.done c/\r'=.done c'/\Q c c') (f x b) (f' x' b')):
 Im S P Q (forIn l b f) (forIn l' b' f'):=by
 induction hl generalizing b b' with
 | nil=>simp only[List.forIn_nil];exact Im.pure hb
 | cons hx _ ih=>
  simp only[oI];refine Im.bind (hf _ _ _ _ hx hb) ?_;rintro r r' (⟨c,c',rfl,rfl,h⟩|⟨c,c',rfl,rfl,h⟩)
  ·exact ih h
  ·exact Im.pure h
theorem a6J{x x':Value}(hx:VR S x x'):Im S P (VR S) (Conv.bytesToString x) (Conv.bytesToString x'):=by
 unfold Conv.bytesToString
 cases hx with
 | gy=>exact Im.pure (.string _)
 | slice a n c ha=>
  dsimp only;refine Im.bind (c_ ha _) ?_;intro cs cs' hc;refine Im.bind (R:=λa b=>b=a) ?_ ?_
  ·rw[<-jJ,<-jJ];refine b9R (Q:=λa b=>b=a) hc.list rfl ?_;rintro y y' s _ hy rfl
   cases hy with
   | int k m=>cases k<;>first|exact Im.pure (.inl ⟨_,_,rfl,rfl,rfl⟩)|exact A8 _ _
   | _=>exact A8 _ _
  ·rintro s _ rfl;exact Im.pure (.string _)
 | _=>exact A8 _ _
inductive YL(P:Program)(s d:TypeId):Prop
 | int (k k':IntKind) (hs:P.underlying s=some (.int k)) (hd:P.underlying d=some (.int k'))
 | bytes (e:TypeId) (hs:P.underlying s=some (.slice e)) (he:P.underlying e=some (.int .u8)) (hd:P.underlying d=some .string)
theorem b4F{s d:TypeId}(h:YL P s d){x x':Value}(hx:VR S x x'):Im S P (VR S) (convert s d x) (convert s d x'):=by
 unfold convert;refine Im.bind (F5 s) ?_;rintro _ ts ⟨rfl,h1⟩;refine Im.bind (F5 d) ?_;rintro _ td ⟨rfl,h2⟩
 cases h with
 | int k k' hs hd=>
  rw[hs] at h1;injection h1 with h1;subst h1;rw[hd] at h2;injection h2 with h2;subst h2
  cases hx<;>first|exact Im.pure (.int _ _)|exact y9 _ _
 | bytes e hs he hd=>
  rw[hs] at h1;injection h1 with h1;subst h1;rw[hd] at h2;injection h2 with h2;subst h2;have key:∀{x x':Value},VR S x x'->Im S P (VR S) (do match <-underlying e with|.int .u8=>Conv.bytesToString x|.int .i32=>Conv.runesToString x|_=>stuck "Convert: a slice of what to string?":Sem Value) (do match <-underlying e with|.int .u8=>Conv.bytesToString x'|.int .i32=>Conv.runesToString x'|_=>stuck "Convert: a slice of what to string?":Sem Value):=by
   intro x x' hx;refine Im.bind (F5 e) ?_;rintro _ te ⟨rfl,h3⟩;rw[he] at h3;injection h3 with h3;subst h3;exact a6J hx
  cases hx with
  | int k n=>exact Im.pure (.string _)
  | string s=>exact Im.pure (.string _)
  | _=>exact key (by constructor<;>assumption)
end
end Go.Bi
