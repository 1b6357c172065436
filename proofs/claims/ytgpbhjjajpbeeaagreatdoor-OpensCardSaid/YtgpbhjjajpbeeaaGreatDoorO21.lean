/- A part of what the last file proves. -/
import Derived.Test.YtgpbhjjajpbeeaaGreatDoorO20
import Derived.Sort.Walk0
import Derived.Laws.StructEq
set_option linter.all false
set_option maxRecDepth 100000
set_option maxHeartbeats 6400000
open Go.Proofs.Tryz
namespace Go.Proofs.YtgpbhjjajpbeeaaGreatDoor
section
open Go.RowKit Go.Lib Go.Maps Dk Pl
def JK(n:Int)(s:Sg):Prop:=(s.tail.length:Int)<=n/\20*(s.recs.length:Int)<=n/\∀r∈s.recs,(r.key.size:Int)<=n/\(r.val.size:Int)<=n
def JJ(n:Int)(s:Sg)(j:Nat):Prop:=(s.tail.length:Int)<=n/\20*(j:Int)<=n/\∀r∈s.recs.take j,(r.key.size:Int)<=n/\(r.val.size:Int)<=n
def Tq(n:Int)(s:Ot):Prop:=(s.name.size:Int)<=n/\(s.bytes.length:Int)<=n
theorem JK.mono{n m:Int}{s:Sg}(h:JK n s)(k:n<=m):JK m s:=
 ⟨by have:=h.1;omega,by have:=h.2.1;omega,λr hr=>by have:=h.2.2 r hr;omega⟩
theorem JJ.step{n m:Int}{s:Sg}{j:Nat}{r:Rc}(h:JJ n s j)(hr:s.recs[j]?=some r)(hm:m=n+20+r.key.size+r.val.size)(hn:0<=n):JJ m s (j+1):=by
 refine⟨by have:=h.1;omega,by have:=h.2.1;omega,λx hx=>?_⟩;rw[dW,hr] at hx;rcases aU.1 hx with hx|hx
 ·have:=h.2.2 x hx;omega
 ·simp at hx;subst hx;omega
theorem JJ.all{n:Int}{s:Sg}(h:JJ n s s.recs.length):JK n s:=⟨h.1,h.2.1,λr hr=>h.2.2 r (by rw[bG];exact hr)⟩
theorem GB{α:Type}{p:α->Prop}{l:List α}{i:Nat}{x:α}(h:∀s∈l.take i,p s)(hx:l[i]?=some x)(hp:p x):∀s∈l.take (i+1),p s:=by
 intro s hs;rw[dW,hx] at hs;rcases aU.1 hs with hs|hs
 ·exact h s hs
 ·simp at hs;subst hs;exact hp
def CZ(d:Dr)(w:World)(e:Ending)(w':World):Prop:=∃b:Bool,e=.returned (.bool b)/\(b=true->d.Small)/\Ext w w'
theorem CZ.no{d:Dr}{w w':World}(h:Ext w w'):CZ d w (.returned (.bool false)) w':=⟨false,rfl,⟨λh=>(by cases h),h⟩⟩
theorem b8R(v:Value)(d:Dr)(w:World)(h:Ef w v d)(hf:d.Fits 281474976710656):
 Calls prog 12 #[v] w (CZ d w):=by
 obtain⟨v0,v1,v3,rfl,h0,h1,h3⟩:=h;obtain⟨a0,c0,rfl,hl0,hm0⟩:=h0.form;obtain⟨a1,c1,rfl,hl1,hm1⟩:=h1.form;obtain⟨a3,c3,rfl,hl3,po,-⟩:=h3.open;have hE0:∀o,Ext w (w.alloc o):=λo=>(Ext.refl w).new o;have H0:=ah h0;have H1:=ah h1;have HF:=ah hf;have Dw:=ah hE0;clear h0 h1 h3 hf hE0;by_cases k0:60<d.dL.length
 ·go_enter func12,ntmps12
  go_wp2;go_ret;exact CZ.no (Dw.out _)
 by_cases k1:300<d.others.length
 ·go_enter func12,ntmps12
  go_wp2;go_ret;exact CZ.no (Dw.out _)
 by_cases k2:40000<d.spoilt.length
 ·go_enter func12,ntmps12
  go_wp2;go_ret;exact CZ.no (Dw.out _)
 obtain⟨w0,hw0⟩:∃w0,w.alloc (.cells #[.slice a0 d.dL.length c0,.slice a1 d.others.length c1,.int .u64 d.gen,.slice a3 d.spoilt.length c3,.bool d.whole,.bool d.without] 27)=w0:=⟨_,rfl⟩;have hb0:o8 w0 w.heap.size 27 #[.slice a0 d.dL.length c0,.slice a1 d.others.length c1,.int .u64 d.gen,.slice a3 d.spoilt.length c3,.bool d.whole,.bool d.without]:=hw0▸o8.new _ _ rfl;have qI:Ext w w0:=hw0▸Dw.out _;have b0:=(hb0.cell 0).trans (show _=some (Value.slice a0 d.dL.length c0) from rfl);have b1:=(hb0.cell 1).trans (show _=some (Value.slice a1 d.others.length c1) from rfl);have VZ:=ah qI;have HW0:=ah hw0;clear qI Dw hw0 hb0;have HB0:=ah b0;have HB1:=ah b1;go_enter func12,ntmps12
 go_wp2;rw[HW0.out];go_loopw [3,4] (λn i wr=>∃(k:Nat)(z:Int),k<=d.dL.length/\i=.int .i64 k/\n=.int .i64 z/\0<=z/\z<=40000+k*281474976710656/\(∀s∈d.dL.take k,JK z s)/\Ext w0 wr) (λ_ i _=>d.dL.length - (intOf i).toNat)
 case atStart=>exact⟨0,0,by omega,rfl,rfl,by omega,by omega,by simp,Ext.refl w0⟩
 case round=>
  obtain⟨k,z,hk,rfl,rfl,hz0,hz1,hseg,hE⟩:=hrel;have e0:=hE.cell b0;have e1:=hE.cell b1;have qI:=VZ.out.trans hE;clear b0 b1;have Ry:=ah hseg;have HE:=ah hE;have Iw:=ah qI;clear hseg hE qI;by_cases hlt:k<d.dL.length
  ·obtain⟨s,hs⟩:∃s,d.dL[k]?=some s:=⟨_,au hlt⟩;have hsm:=aJ hs;have hft:=HF.out.tail s hsm;have hfr:=HF.out.recs s hsm;obtain⟨b,rfl,u1,u2,-,s1,s2,-,-,hrec,htail⟩:=(H0.out.ext λ_ _=>zY.ext Iw.out).at hs;obtain⟨ra,rc,rfl,hrc,Nr⟩:=hrec.form;obtain⟨ta,tc,rfl,htc,Na,-⟩:=htail.open;have Io:=ah hrec;have eh:=ah s1;have HS:=ah hs;have HFR:=ah hfr;clear hrec htail hs hsm hfr;go_wp2;go_loopw [3,5] (λn i wq=>∃(j:Nat)(y:Int),j<=s.recs.length/\i=.int .i64 j/\n=.int .i64 y/\z<=y/\(y<=40000\/y<=z+281474976710656)/\JJ y s j/\Ext wr wq) (λ_ i _=>s.recs.length - (intOf i).toNat)
   case atStart=>exact⟨0,z+s.tail.length,by omega,rfl,by go_num,by omega,by omega,⟨by omega,by omega,by simp⟩,Ext.refl _⟩
   case round=>
    obtain⟨j,y,hj,rfl,rfl,hy0,hy1,hto,hEq⟩:=hrel;have d0:=hEq.cell e0;have d1:=hEq.cell e1;have t1:=hEq.cell s1;have qI:=Iw.out.trans hEq;clear e0 e1 s1 s2;have dE:=ah hto;have qR:=ah hEq;have zS:=ah qI;clear hto hEq qI;by_cases hjl:j<s.recs.length
    ·obtain⟨r,hr⟩:∃r,s.recs[j]?=some r:=⟨_,au hjl⟩;obtain⟨hk1,hv1⟩:=HFR.out r (aJ hr);obtain⟨bb,rfl,-,r1,r2,-⟩:=(Io.out.ext λ_ _=>Cc.ext qR.out).at hr;have HR:=ah hr;clear hr;obtain⟨y2,hy2⟩:∃y2,y+20+r.key.size+r.val.size=y2:=⟨_,rfl⟩;have hst:=dE.out.step HR.out hy2.symm (by omega);have HST:=ah hst;clear hst;go_wp2_with fail
     go_quiet (fail)
     by_cases hbig:40000<y2
     ·go_wp2;go_ret;exact CZ.no (zS.out.trans (Ext.drewN _ nq))
     ·go_wp2;go_roundw
      case rel=>exact⟨j+1,y2,by omega,by go_num,by go_num,by omega,by omega,HST.out,qR.out.trans (Ext.drewN _ nq)⟩
      case measure=>simp[intOf];omega
    ·obtain rfl:j=s.recs.length:=by omega
     have hall:=GB (λs hs=>(Ry.out s hs).mono hy0) HS.out dE.out.all;have Dx:=ah hall;clear hall;go_wp2;go_roundw
     case rel=>exact⟨k+1,y,by omega,by go_num,rfl,by omega,by omega,Dx.out,HE.out.trans qR.out⟩
     case measure=>simp[intOf];omega
  ·obtain rfl:k=d.dL.length:=by omega
   have lq:∀s∈d.dL,JK z s:=by have:=Ry.out;rwa [bG] at this
   have zN:=ah lq;clear lq;go_wp2;go_loopw [3,6] (λn i wq=>∃(k:Nat)(y:Int),k<=d.others.length/\i=.int .i64 k/\n=.int .i64 y/\z<=y/\(y<=40000\/y=z)/\(∀s∈d.others.take k,Tq y s)/\Ext wr wq) (λ_ i _=>d.others.length - (intOf i).toNat)
   case atStart=>exact⟨0,z,by omega,rfl,rfl,by omega,by omega,by simp,Ext.refl _⟩
   case round=>
    obtain⟨k,y,hk,rfl,rfl,hy0,hy1,hoth,hEq⟩:=hrel;have d1:=hEq.cell e1;have qI:=Iw.out.trans hEq;clear e0 e1;have fu:=ah hoth;have qR:=ah hEq;have zS:=ah qI;clear hoth hEq qI;by_cases hlt:k<d.others.length
    ·obtain⟨s,hs⟩:∃s,d.others[k]?=some s:=⟨_,au hlt⟩;have hsm:=aJ hs;obtain⟨hf1,hf2⟩:=HF.out.other s hsm;obtain⟨b,rfl,u2,o0,-,o2,hby⟩:=(H1.out.ext λ_ _=>B_.ext zS.out).at hs;obtain⟨ta,tc,rfl,htc,Na,-⟩:=hby.open;obtain⟨y2,hy2⟩:∃y2,y+s.bytes.length+s.name.size=y2:=⟨_,rfl⟩;have hst:=GB (p:=Tq y2) (λs hs=>⟨by have:=(fu.out s hs).1;omega,by have:=(fu.out s hs).2;omega⟩) hs ⟨by omega,by omega⟩;have HST:=ah hst;clear hst hs hsm hby;go_wp2_with fail
     go_quiet (fail)
     by_cases hbig:40000<y2
     ·go_wp2;go_ret;exact CZ.no (zS.out.trans (Ext.drewN _ nq))
     ·go_wp2;go_roundw
      case rel=>exact⟨k+1,y2,by omega,by go_num,by go_num,by omega,by omega,HST.out,qR.out.trans (Ext.drewN _ nq)⟩
      case measure=>simp[intOf];omega
    ·obtain rfl:k=d.others.length:=by omega
     have hother:∀s∈d.others,Tq y s:=by have:=fu.out;rwa [bG] at this
     have hfin:CZ d w (.returned (.bool (decide (y<=40000)))) wr:=by
      refine⟨_,rfl,λh=>?_,zS.out⟩;have hyl:=dF h;refine⟨by omega,by omega,by omega,λs hs=>?_,λs hs=>?_,λs hs=>?_⟩
      ·have:=(zN.out s hs).1;omega
      ·have h1:=zN.out s hs;refine⟨by have:=h1.2.1;omega,λr hr=>?_⟩;have:=h1.2.2 r hr;omega
      ·have:=hother s hs;unfold Tq at this;omega
     have Du:=ah hfin;clear hfin hother;go_wp2;go_ret;exact Du.out
end
section
open Go.RowKit Go.Lib Go.Maps Dk
namespace Dk
structure D.Fit(d:D):Prop where
 data:∀x∈d.ids,(d.node x).data.length<=1099511627776
 len:d.now.length<=400
 names:∀p∈d.now,p.1.length<=1000000
theorem b90(l:List (Nm×Nat))(ns:List Nm):(D6 l (ns.map λn=>(n,none))).length<=l.length:=by
 induction ns generalizing l with
 | nil=>exact aj _
 | cons n ns ih=>exact ay (ih (qg l n)) (jZ _ _)
theorem D.Fit.sweep{d:D}(h:d.Fit)(hs:d.Safe)(ids:List Int):(d.sweep ids).2.Fit:=by
 obtain⟨e,he,-,-,jU,-,yB⟩:=hs.sweep ids;have yA:(d.sweep ids).2.now=D6 d.now (((d.list.take d.list.length).filter λn=>!wG ids n).map λn=>(n,none)):=by
  have hsw:=hs.calm.sw hs.nodup ids d.list.length;rw[b7U hs.calm hs.nodup ids,hsw.calm.gK];exact hsw.now
 refine⟨λx hx=>?_,?_,λp hp=>?_⟩
 ·rw[he] at hx⊢;dsimp only at hx⊢;rw[jU] at hx;rw[yB];exact h.data x hx
 ·rw[yA];exact ay (b90 _ _) h.len
 ·rw[yA] at hp;rcases QS hp with hp|⟨x,hx,e⟩
  ·exact h.names p hp
  ·obtain⟨n,-,rfl⟩:=bg.1 hx;cases e
theorem D.Safe.stepped{d:D}(h:d.Safe)(dir:Nat):d.stepped dir=d.safe:=by unfold D.stepped;rw[h.moves];simp
end Dk
end
section
open Go.RowKit Go.Lib Go.Maps Dk Pl
noncomputable def opC(n:Nat):Code:=Code.behind n (Tryz.f5.body.getD .skip)
noncomputable def g_(n:Nat):Code:=Code.head (opC n)
theorem uC:opC 0=Fs.chain [g_ 0,g_ 1,g_ 2,g_ 3,g_ 4] (opC 5):=by kernel_rfl
def uG(k:Nat):Bool:=decide (3<=k/\k<=18)||decide (32<=k/\k<=87)||decide (96<=k/\k<=99)||decide (107<=k/\k<=108)
theorem A4(k:Nat)(h:uG k=true):k<109:=by
 unfold uG at h;simp at h;omega
structure rW(W:World)(kv:Value)(n:Nat)(a:Act)(w:World):Prop where
 at_:∃(b:Nat)(F:Nat->Prop)(D:Dk.D)(fv:Value)(rows:List (Nm×Value))(w4:World),a.tmps.size=109/\a.tmps[1]?=some kv/\a.tmps[6]?=some (o7 b)/\a.tmps[7]?=some fv/\
  (∀k,uG k=true->k≠6->k≠7->Fs.okV (a.tmps.getD k undef)=true)/\n<=300/\Ext W w4/\(∀b,F b->W.heap.size<=b)/\(∀b,F b->b<w4.heap.size)/\qK w w4.heap.size fv rows D.files/\A7 w F b D/\fA F F w4 w/\D.Safe/\D.Fit
def rP(W:World)(a:Act)(w:World):Prop:=a.defers=[]/\a.tmps[4]?=some (.bool true)/\Ext W w
theorem A3(v:Value)(d:Dr)(ba:Option Addr)(n bc:Nat)(W:World)(h:Ef W v d)(hf:d.Fits 281474976710656)(hL:Laid W):
 Fs.WL prog (rW W (.slice ba n bc) n) (rP W) [g_ 0,g_ 1,g_ 2,g_ 3,g_ 4] ⟨#[v,.slice ba n bc]++Array.replicate (109 - 2) undef,[]⟩ W:=by
 obtain⟨v0,v1,v3,rfl,hr0,hr1,hr3⟩:=id h;rw[OK 107];obtain⟨K,hK⟩:∃K,K=Fs.WL prog (rW W (.slice ba n bc) n) (rP W) [g_ 1,g_ 2,g_ 3,g_ 4]:=⟨_,rfl⟩;show(g_ 0).wp prog (Fs.WK (Fs.WL prog (rW W (.slice ba n bc) n) (rP W) [g_ 1,g_ 2,g_ 3,g_ 4]) (rP W)) _ _;rw[<-hK];clear hr0 hr1 hr3;have HD:=ah h;have HL:=ah hL;have HK:=ah hK;clear h hL hK;unfold g_ opC;simp only[Code.behind,Code.head,Tryz.f5,aP,AN,List.range,List.range.loop,aB,dJ,reduceIte,Nat.reduceEqDiff];go_wp2_with fail
 refine⟨rfl,?_⟩;rw[HK.out];clear HK K;have hE1:Ext W (W.alloc (.cells (Value.agg #[v0,v1,.int .u64 d.gen,v3,.bool d.whole,.bool d.without]).cells 27)):=(Ext.refl W).new _;have hb:o8 (W.alloc (.cells (Value.agg #[v0,v1,.int .u64 d.gen,v3,.bool d.whole,.bool d.without]).cells 27)) W.heap.size 27 #[v0,v1,.int .u64 d.gen,v3,.bool d.whole,.bool d.without]:=o8.new _ _ rfl;simp only[Value.cells] at hE1 hb;generalize W.alloc (.cells #[v0,v1,.int .u64 d.gen,v3,.bool d.whole,.bool d.without] 27)=w1 at hE1 hb⊢;obtain⟨K,hK⟩:∃K,K=Fs.WL prog (rW W (.slice ba n bc) n) (rP W) [g_ 2,g_ 3,g_ 4]:=⟨_,rfl⟩;show(g_ 1).wp prog (Fs.WK (Fs.WL prog (rW W (.slice ba n bc) n) (rP W) [g_ 2,g_ 3,g_ 4]) (rP W)) _ _;rw[<-hK];have HK:=ah hK;clear hK;unfold g_ opC;simp only[Code.behind,Code.head,Tryz.f5,aP];have b0:=(hb.cell 0).trans (show _=some v0 from rfl);have b1:=(hb.cell 1).trans (show _=some v1 from rfl);have b2:=(hb.cell 2).trans (show _=some (Value.int .u64 d.gen) from rfl);have b3:=(hb.cell 3).trans (show _=some v3 from rfl);have b4:=(hb.cell 4).trans (show _=some (Value.bool d.whole) from rfl);have b5:=(hb.cell 5).trans (show _=some (Value.bool d.without) from rfl);have VL:=ah (b8R _ d w1 (HD.out.ext hE1) hf);have lV:=ah hE1;clear hb hE1 hf;go_wp2_with fail
 refine VL.out.mono ?_;rintro e w2 ⟨b,rfl,hsm,hE2⟩;have c0:=hE2.cell b0;have c1:=hE2.cell b1;have c2:=hE2.cell b2;have c3:=hE2.cell b3;have c4:=hE2.cell b4;have c5:=hE2.cell b5;have HE2:=ah (lV.out.trans hE2);have HS:=ah hsm;clear b0 b1 b2 b3 b4 b5 hE2 hsm VL lV;go_wp2_with fail
 refine⟨rfl,?_⟩;rw[HK.out];clear HK K;obtain⟨K,hK⟩:∃K,K=Fs.WL prog (rW W (.slice ba n bc) n) (rP W) [g_ 3,g_ 4]:=⟨_,rfl⟩;show(g_ 2).wp prog (Fs.WK (Fs.WL prog (rW W (.slice ba n bc) n) (rP W) [g_ 3,g_ 4]) (rP W)) _ _;rw[<-hK];have HK:=ah hK;clear hK;unfold g_ opC;simp only[Code.behind,Code.head,Tryz.f5,aP];have hfin:∀T:Array Value,T[4]?=some (.bool true)->rP W ⟨T,[]⟩ w2:=λT h=>⟨rfl,h,HE2.out⟩;have RN:=ah hfin;clear hfin
 cases b with
 | false=>
  go_wp2_with fail
  exact RN.out _ rfl
 | true=>
  by_cases hn:n<=300;rotate_left
  ·have hg:(300:Int)<(n:Int):=by omega
   go_wp2_with fail
   exact RN.out _ rfl
  have hg:¬(300:Int)<(n:Int):=by omega
  go_wp2_with fail
  refine⟨rfl,?_⟩;rw[HK.out];clear HK K RN;obtain⟨K,hK⟩:∃K,K=Fs.WL prog (rW W (.slice ba n bc) n) (rP W) [g_ 4]:=⟨_,rfl⟩;show(g_ 3).wp prog (Fs.WK (Fs.WL prog (rW W (.slice ba n bc) n) (rP W) [g_ 4]) (rP W)) _ _;rw[<-hK];have HK:=ah hK;clear hK;unfold g_ opC;simp only[Code.behind,Code.head,Tryz.f5,aP];have HDK:=ah (c0B _ d w2 (HD.out.ext HE2.out) (HS.out trivial) (HL.out.ext HE2.out));go_wp2_with fail
  refine HDK.out.mono ?_;rintro e w4 ⟨a,F,D,rfl,hD,hsafe,hdat,hlen,FN,mW,hF⟩;have hfit:D.Fit:=⟨hdat,hlen,FN⟩;have hfs:=Ut F a D w4 hD hsafe.calm (by omega) (λx hx=>by have:=hdat x hx;omega) (λp hp=>by have:=FN p hp;unfold maxLen;omega);have uw:=ah hfs;have xI:=ah (HE2.out.trans mW);have HFT:=ah hfit;have HSF:=ah hsafe;have wY:∀b,F b->W.heap.size<=b:=λb hb=>ay HE2.out.size (hF b hb);have HF:=ah wY;have HLW:=ah hD.low;clear hD hsafe hdat hlen FN mW hF hfit hfs HDK HE2 HS HL HD wY c0 c1 c2 c3 c4 c5;unfold o7;go_wp2_with fail
  refine⟨rfl,?_⟩;rw[HK.out];clear HK K;obtain⟨K,hK⟩:∃K,K=Fs.WL prog (rW W (.slice ba n bc) n) (rP W) []:=⟨_,rfl⟩;show(g_ 4).wp prog (Fs.WK (Fs.WL prog (rW W (.slice ba n bc) n) (rP W) []) (rP W)) _ _;rw[<-hK];have HK:=ah hK;clear hK;unfold g_ opC;simp only[Code.behind,Code.head,Tryz.f5,aP];unfold o7 at uw;go_wp2_with fail
  refine uw.out.mono ?_;rintro e w5 ⟨fv,rows,rfl,hR,hD2,hC2⟩;have HR:=ah hR;have HD2:=ah hD2;have HC2:=ah hC2;clear hR hD2 hC2 uw;go_wp2_with fail
  refine⟨rfl,?_⟩;rw[HK.out];refine⟨a,F,D,fv,rows,w4,rfl,rfl,rfl,rfl,?_,hn,xI.out,HF.out,HLW.out,HR.out,HD2.out,HC2.out,HSF.out,HFT.out⟩;exactλk hk h6 h7=>Fs.okV.all 109 [6,7] (by kernel_rfl) A4 hk (by simp[h6,h7])
end
section
open Dk Pl
def D5(bss:List (List UInt8)):List (List (Nat×Rec)):=bss.map N7
theorem U_(bss:List (List UInt8))(i:Nat)(hi:i<bss.length):(D5 bss).getD i []=N7 (bss.getD i []):=by
 unfold D5;rw[bf,bf,aZ,au hi];rfl
def tZ(bss:List (List UInt8))(n:Nat):List Fd:=(List.range n).flatMap λi=>(N7 (bss.getD i [])).map λp=>(i,p)
theorem K5(bss:List (List UInt8))(n:Nat):tZ bss (n+1)=tZ bss n++(N7 (bss.getD n [])).map λp=>(n,p):=by
 unfold tZ;rw[List.range_succ,dM];simp
theorem QL(bss:List (List UInt8)):∀n,U7 bss n=(tZ bss n).foldl (λm f=>kU m f.2.2.key f) []:=by
 intro n
 induction n with
 | zero=>rfl
 | succ n ih=>
  rw[K5,mJ,<-ih,List.foldl_map];rfl
def lastOf(key:Nm):List Fd->Option Fd
 | []=>none
 | f::l=>(lastOf key l).or (if f.2.2.key=key then some f else none)
theorem bX(key:Nm):∀(l:List Fd)(m:List (Nm×Fd)),D7 (l.foldl (λm f=>kU m f.2.2.key f) m) key=(lastOf key l).or (D7 m key):=by
 intro l
 induction l with
 | nil=>intro m;simp[lastOf]
 | cons f l ih=>
  intro m;rw[jG,ih,cg,lastOf];by_cases h:key=f.2.2.key
  ·subst h;cases lastOf f.2.2.key l<;>simp
  ·rw[if_neg h,if_neg (λe=>h e.symm)];cases lastOf key l<;>simp
theorem ac(key:Nm):∀(a b:List Fd),lastOf key (a++b)=(lastOf key b).or (lastOf key a):=by
 intro a b
 induction a with
 | nil=>simp[lastOf]
 | cons f a ih=>
  rw[List.cons_append,lastOf,ih,lastOf];cases lastOf key b<;>simp
theorem b4L{key:Nm}:∀{l:List Fd}{f:Fd},lastOf key l=some f->f∈l/\f.2.2.key=key:=by
 intro l
 induction l with
 | nil=>intro f h;cases h
 | cons g l ih=>
  intro f h;rw[lastOf] at h
  cases e:lastOf key l with
  | some x=>
   rw[e] at h;simp at h;subst h
   exact⟨dR _ (ih e).1,(ih e).2⟩
  | none=>
   rw[e] at h;simp at h;obtain⟨h1,rfl⟩:=h;exact⟨iL ..,h1⟩
def sizes(l:List (Nat×Rec)):Nat:=(l.map λp=>p.2.size).sum
theorem a8W:∀(n off:Nat)(l:List UInt8),off<=l.length->off+sizes (P9 n off l)<=l.length:=by
 intro n
 induction n with
 | zero=>intro off l h;simpa [sizes,P9] using h
 | succ n ih=>
  intro off l h;unfold P9
  cases hd:dec (l.drop off) with
  | none=>simpa [sizes] using h
  | some r=>
   have h2:=(Kq hd).2;rw[dD] at h2;have:=ih (off+r.size) l (by omega);simp only[sizes,aB,Rq] at this⊢;omega
theorem b2b:∀(n off:Nat)(l:List UInt8),∀p∈P9 n off l,17<=p.2.size:=by
 intro n
 induction n with
 | zero=>intro off l p h;cases h
 | succ n ih=>
  intro off l p hp;unfold P9 at hp
  cases hd:dec (l.drop off) with
  | none=>rw[hd] at hp;cases hp
  | some r=>
   rw[hd] at hp;rcases aY.1 hp with rfl|hp
   ·exact(Kq hd).1
   ·exact ih _ _ p hp
theorem b3m(l:List UInt8):sizes (N7 l)<=l.length:=by
 have:=a8W (l.length+1) 0 l (bU _);unfold N7;omega
theorem b7x(l:List UInt8):∀p∈N7 l,17<=p.2.size:=b2b _ _ _
end
section
open Dk Pl
def oD(r:Rec):List (Nm×Nm)->Bool->List (Nm×Nm)
 | [],done=>if done then[] else[(r.key,r.val)]
 | p::l,done=>(if !done&&!Op.bytesLess p.1 r.key then[(r.key,r.val)] else[])++((if p.1=r.key then[] else[p])++oD r l (done||!Op.bytesLess p.1 r.key))
def rO(l:List (Nm×Nm))(r:Rec):List (Nm×Nm):=oD r l r.del
theorem c1M(r:Rec):∀(l:List (Nm×Nm))(done:Bool),(oD r l done).length<=l.length+(if done then 0 else 1):=by
 intro l
 induction l with
 | nil=>intro done;cases done<;>simp[oD]
 | cons p l ih=>
  intro done;rw[oD,aC,aC];have:=ih (done||!Op.bytesLess p.1 r.key);have h2:(if p.1=r.key then([]:List (Nm×Nm)) else[p]).length<=1:=by split<;>simp
  cases done<;>cases hb:Op.bytesLess p.1 r.key<;>simp[hb] at this⊢<;>omega
def G5(p:Nm×Nm):List Value:=[.string ⟨p.1.toArray⟩,.string ⟨p.2.toArray⟩]
def S9(l:List (Nat×Rec)):List (Nm×Nm):=l.foldl (λm q=>rO m q.2) []
theorem b2G(l:List (Nat×Rec))(q:Nat×Rec):S9 (l++[q])=rO (S9 l) q.2:=by unfold S9;rw[mJ];rfl
theorem R9(l:List (Nat×Rec)):(S9 l).length<=l.length:=by
 suffices h:∀(l:List (Nat×Rec))(m:List (Nm×Nm)),(l.foldl (λm q=>rO m q.2) m).length<=m.length+l.length by simpa [S9] using h l []
 intro l
 induction l with
 | nil=>intro m;simp
 | cons q l ih=>
  intro m;have:=ih (rO m q.2);have h2:=c1M q.2 m q.2.del;unfold rO at this;rw[jG,bV];unfold rO;split at h2<;>omega
def Y4(dL:List (List (Nat×Rec))):List (Nm×Nm):=S9 dL.flatten
def ahead(dL:List (List (Nat×Rec)))(i m:Nat):List (Nat×Rec):=(dL.take i).flatten++(dL.getD i []).take m
theorem b5P{dL:List (List (Nat×Rec))}{i m:Nat}{q:Nat×Rec}(h:(dL.getD i [])[m]?=some q):ahead dL i (m+1)=ahead dL i m++[q]:=by
 unfold ahead;rw[dW,h];simp
theorem G0{dL:List (List (Nat×Rec))}{i:Nat}(hi:i<dL.length):ahead dL i (dL.getD i []).length=ahead dL (i+1) 0:=by
 unfold ahead;have e:dL.take (i+1)=dL.take i++[dL[i]]:=by rw[dW,au hi];rfl
 have e2:dL.getD i []=dL[i]:=by rw[bf,au hi];rfl
 rw[bG,e2,jk,dO,e,List.flatten_append];simp
theorem GW(dL:List (List (Nat×Rec))):ahead dL dL.length 0=dL.flatten:=by
 unfold ahead;simp
theorem GQ{dL:List (List (Nat×Rec))}{B:Nat}(hB:∀i,17*(dL.getD i []).length<=B):∀(i m:Nat),i<=dL.length->m<=(dL.getD i []).length->17*(ahead dL i m).length<=(i+1)*B:=by
 intro i
 induction i with
 | zero=>
  intro m _ hm;have:=hB 0;unfold ahead;rw[jk,List.flatten_nil,cO,bD]
  omega
 | succ i ih=>
  intro m hi hm;have h1:=ih _ (by omega) (aj _);rw[G0 (by omega)] at h1;have h2:(ahead dL (i+1) m).length=(ahead dL (i+1) 0).length+m:=by
   unfold ahead;rw[aC,aC,bD,jk,fB,kT hm];rfl
  have h3:=hB (i+1);have h4:(i+1+1)*B=(i+1)*B+B:=kZ _ _;rw[h2,h4];omega
theorem aL(r:Rec)(key:Nm):∀(l:List (Nm×Nm))(done:Bool),(∀p∈l,p.1≠r.key->p∈oD r l done)/\(∀p∈oD r l done,(p∈l/\p.1≠r.key)\/(done=false/\p=(r.key,r.val))):=by
 intro l
 induction l with
 | nil=>
  intro done;refine⟨λp h=>(by cases h),λp h=>?_⟩;cases done<;>simp[oD] at h
  exact .inr ⟨rfl,h⟩
 | cons q l ih=>
  intro done;obtain⟨i1,i2⟩:=ih (done||!Op.bytesLess q.1 r.key);refine⟨λp h hp=>?_,λp h=>?_⟩
  ·rw[oD];rcases aY.1 h with rfl|h
   ·rw[if_neg hp];simp
   ·exact List.mem_append_right _ (List.mem_append_right _ (i1 p h hp))
  ·rw[oD] at h;rcases aU.1 h with h|h
   ·split at h
    ·rename_i hc;simp at h hc;exact .inr ⟨hc.1,h⟩
    ·cases h
   ·rcases aU.1 h with h|h
    ·split at h
     ·cases h
     ·rename_i hq;simp at h;subst h;exact .inl ⟨iL ..,hq⟩
    ·rcases i2 p h with⟨h1,h2⟩|⟨h1,h2⟩
     ·exact .inl ⟨dR _ h1,h2⟩
     ·refine .inr ⟨?_,h2⟩;cases done
      ·rfl
      ·cases h1
end
section
open Dk Pl
theorem L1(bss:List (List UInt8)):∀n,n<=bss.length->(tZ bss n).map Prod.snd=((D5 bss).take n).flatten:=by
 intro n
 induction n with
 | zero=>intro _;simp[tZ]
 | succ n ih=>
  intro hn;have hl:(D5 bss).length=bss.length:=by unfold D5;rw[b_]
  have e:(D5 bss).take (n+1)=(D5 bss).take n++[N7 (bss.getD n [])]:=by
   rw[dW,au (by omega)];have:=U_ bss n (by omega);rw[bf,au (by omega)] at this;simp at this;simp[this]
  rw[K5,bY,ih (by omega),e,List.flatten_append,jQ,show(Prod.snd∘λp:Nat×Rec=>((n,p):Fd))=id from rfl,List.map_id];simp
theorem b4P:∀(l A:List Fd)(m:List (Nm×Nm)),(∀p∈m,∃f,lastOf p.1 A=some f/\f.2.2.del=false/\f.2.2.val=p.2)->
 ∀p∈(l.map Prod.snd).foldl (λm q=>rO m q.2) m,∃f,lastOf p.1 (A++l)=some f/\f.2.2.del=false/\f.2.2.val=p.2:=by
 intro l
 induction l with
 | nil=>intro A m h p hp;simpa using h p hp
 | cons f l ih=>
  intro A m h p hp;have:=ih (A++[f]) (rO m f.2.2) (λq hq=>by
   rw[ac];rcases(aL f.2.2 q.1 m f.2.2.del).2 q hq with⟨h1,h2⟩|⟨h1,rfl⟩
   ·obtain⟨g,hg⟩:=h q h1;refine⟨g,?_,hg.2⟩;have e:lastOf q.1 [f]=none:=by
     rw[lastOf,lastOf,if_neg λe=>h2 e.symm];rfl
    rw[e,hg.1];rfl
   ·exact⟨f,by simp[lastOf],h1,rfl⟩) p hp
  rwa [fH] at this
theorem Qu{bss:List (List UInt8)}{n:Nat}(hn:bss.length=n):∀p∈Y4 (D5 bss),∃f,D7 (U7 bss n) p.1=some f/\f.2.2.del=false/\f.2.2.val=p.2:=by
 intro p hp;have e:(D5 bss).flatten=(tZ bss n).map Prod.snd:=by
  rw[L1 bss n (by omega),eG (by unfold D5;rw[b_];omega)]
 unfold Y4 S9 at hp;rw[e] at hp;obtain⟨f,h1,h2⟩:=b4P (tZ bss n) [] [] (λ_ h=>by cases h) p hp;refine⟨f,?_,h2⟩;rw[QL,bX];rw[cO] at h1;rw[h1];rfl
theorem Zt{bss:List (List UInt8)}{n:Nat}{key:Nm}{f:Fd}(h:D7 (U7 bss n) key=some f):f.1<n/\f.2∈N7 (bss.getD f.1 [])/\f.2.2.key=key:=by
 rw[QL,bX] at h
 cases e:lastOf key (tZ bss n) with
 | none=>rw[e] at h;cases h
 | some g=>
  rw[e] at h;simp at h;subst h;obtain⟨h1,h2⟩:=b4L e;unfold tZ at h1;obtain⟨i,hi,h3⟩:=zL.1 h1;obtain⟨q,hq,rfl⟩:=bg.1 h3;exact⟨fV.1 hi,hq,h2⟩
end
section
open Dk Pl
theorem c3Q(r:Rec):∀l,(r.key,r.val)∈oD r l false:=by
 intro l
 induction l with
 | nil=>simp[oD]
 | cons p l ih=>
  rw[oD]
  cases hb:Op.bytesLess p.1 r.key with
  | false=>simp
  | true=>simpa using Or.inr ih
theorem b3Z(r:Rec):∀(l:List (Nm×Nm))(done:Bool),l.Pairwise (λa b=>a.1<b.1)->(oD r l done).Pairwise (λa b=>a.1<b.1):=by
 intro l
 induction l with
 | nil=>intro done _;cases done<;>simp[oD]
 | cons p l ih=>
  intro done h;obtain⟨h1,h2⟩:=lI.1 h;have hk:=λd=>(aL r p.1 l d).2;rw[oD,Go.Proofs.bytesLess_eq];by_cases hb:p.1<r.key
  ·have hne:p.1≠r.key:=λe=>by rw[e] at hb;exact absurd hb (kF)
   simp only[hb,decide_true,Bool.not_true,IC,cu,if_false,hne,cO,Bool.or_false,List.singleton_append];refine lI.2 ⟨λq hq=>?_,ih done h2⟩;rcases hk done q hq with⟨e,_⟩|⟨_,rfl⟩
   ·exact h1 q e
   ·exact hb
  ·have hle:r.key<=p.1:=Std.not_lt.1 hb;have hrest:∀q∈oD r l true,p.1<q.1:=λq hq=>by
    rcases hk true q hq with⟨e,_⟩|⟨e,_⟩
    ·exact h1 q e
    ·cases e
   simp only[hb,decide_false,lQ,RV,Bool.or_true];have hp:((if p.1=r.key then[] else[p])++oD r l true).Pairwise (λa b=>a.1<b.1)/\∀q∈((if p.1=r.key then[] else[p])++oD r l true),r.key<q.1:=by
    split
    ·rename_i e;exact⟨ih true h2,λq hq=>e▸hrest q hq⟩
    ·rename_i e;have hlt:r.key<p.1:=Std.lt_of_le_of_ne hle (λe'=>e e'.symm);refine⟨lI.2 ⟨hrest,ih true h2⟩,λq hq=>?_⟩;rcases aY.1 hq with rfl|hq
     ·exact hlt
     ·exact Std.lt_trans hlt (hrest q hq)
   cases done with
   | true=>simpa using hp.1
   | false=>exact lI.2 ⟨hp.2,hp.1⟩
theorem QN(l:List (Nat×Rec)):(S9 l).Pairwise (λa b=>a.1<b.1):=by
 suffices h:∀(l:List (Nat×Rec))(m:List (Nm×Nm)),m.Pairwise (λa b=>a.1<b.1)->(l.foldl (λm q=>rO m q.2) m).Pairwise (λa b=>a.1<b.1) from h l [] .nil
 intro l
 induction l with
 | nil=>exactλm h=>h
 | cons q l ih=>exactλm h=>ih _ (b3Z _ _ _ h)
theorem b5J:∀(l A:List Fd)(m:List (Nm×Nm)),(∀k f,lastOf k A=some f->f.2.2.del=false->(k,f.2.2.val)∈m)->
 ∀k f,lastOf k (A++l)=some f->f.2.2.del=false->(k,f.2.2.val)∈(l.map Prod.snd).foldl (λm q=>rO m q.2) m:=by
 intro l
 induction l with
 | nil=>intro A m h k f hk;rw[dO] at hk;exact h k f hk
 | cons g l ih=>
  intro A m h k f hk hd;refine ih (A++[g]) (rO m g.2.2) (λk f hk hd=>?_) k f (by rwa [fH]) hd;rw[ac,lastOf,lastOf] at hk;by_cases e:g.2.2.key=k
  ·subst e;simp at hk;subst hk;unfold rO;rw[hd];exact c3Q _ _
  ·simp[e] at hk;exact(aL g.2.2 k m _).1 _ (h k f hk hd) λe'=>e e'.symm
theorem FR{bss:List (List UInt8)}{n:Nat}(hn:bss.length=n):(D5 bss).flatten=(tZ bss n).map Prod.snd:=by
 rw[L1 bss n (by omega),eG (by unfold D5;rw[b_];omega)]
theorem FG{bss:List (List UInt8)}{n:Nat}(hn:bss.length=n){k:Nm}{f:Fd}(h:D7 (U7 bss n) k=some f)(hd:f.2.2.del=false):(k,f.2.2.val)∈Y4 (D5 bss):=by
 rw[QL,bX] at h;unfold Y4 S9;rw[FR hn];refine b5J (tZ bss n) [] [] (λ_ _ h=>by cases h) k f ?_ hd;rw[cO]
 cases e:lastOf k (tZ bss n) with
 | none=>rw[e] at h;cases h
 | some g=>rw[e] at h;simpa using h
theorem cD(bss:List (List UInt8))(n:Nat):((U7 bss n).map (·.1)).Nodup:=by
 rw[QL];suffices h:∀(l:List Fd)(m:List (Nm×Fd)),(m.map (·.1)).Nodup->((l.foldl (λm f=>kU m f.2.2.key f) m).map (·.1)).Nodup from h _ [] (by simp)
 intro l
 induction l with
 | nil=>exactλm h=>h
 | cons q l ih=>exactλm h=>ih _ (UK h _ _)
def uf(L:List (Nm×Fd)):List Nm:=(L.filter λp=>!p.2.2.2.del).map (·.1)
theorem b8J{bss:List (List UInt8)}{n:Nat}(hn:bss.length=n)(k:Nm):k∈uf (U7 bss n)<->k∈(Y4 (D5 bss)).map (·.1):=by
 unfold uf;constructor
 ·intro h;obtain⟨p,hp,rfl⟩:=bg.1 h;obtain⟨h1,h2⟩:=iR.1 hp;obtain⟨j,hj⟩:=dY h1;have:=Af (cD bss n) hj;exact bg.2 ⟨_,FG hn this (by simpa using h2),rfl⟩
 ·intro h;obtain⟨p,hp,rfl⟩:=bg.1 h;obtain⟨f,h1,h2,-⟩:=Qu hn p hp;exact bg.2 ⟨(p.1,f),iR.2 ⟨Ad h1,by simpa using h2⟩,rfl⟩
theorem Ss{bss:List (List UInt8)}{n:Nat}(hn:bss.length=n):(uf (U7 bss n)).mergeSort nI=(Y4 (D5 bss)).map (·.1):=by
 have hs:((Y4 (D5 bss)).map (·.1)).Pairwise (λa b=>a<b):=ig.2 (QN _);have hp:(uf (U7 bss n)).Perm ((Y4 (D5 bss)).map (·.1)):=by
  refine(jl ?_ ?_).2 (b8J hn)
  ·exact List.Nodup.sublist (List.Sublist.map _ List.filter_sublist) (cD bss n)
  ·exact hs.imp λh e=>by rw[e] at h;exact absurd h kF
 rw[bR hp];refine List.mergeSort_of_pairwise (hs.imp λh=>?_);unfold nI;simpa using Std.le_of_lt h
end
section
open Dk Pl
theorem b2h:∀(n off:Nat)(l:List UInt8),∀p∈P9 n off l,dec (l.drop p.1)=some p.2:=by
 intro n
 induction n with
 | zero=>intro off l p h;cases h
 | succ n ih=>
  intro off l p hp;unfold P9 at hp
  cases hd:dec (l.drop off) with
  | none=>rw[hd] at hp;cases hp
  | some r=>
   rw[hd] at hp;rcases aY.1 hp with rfl|hp
   ·exact hd
   ·exact ih _ _ p hp
theorem QF{l:List UInt8}{p:Nat×Rec}(h:p∈N7 l):dec (l.drop p.1)=some p.2:=b2h _ _ _ p h
theorem c0f{l:List UInt8}{p:Nat×Rec}(h:p∈N7 l):p.1+p.2.size<=l.length:=by
 have:=Kq (QF h);rw[dD] at this;omega
def PY(r q:Rec):Bool:=decide (r.seq=q.seq)&&(decide (r.key=q.key)&&(decide (r.val=q.val)&&decide (r.del=q.del)))
end
section
open Dk Pl
def P8(l:Fl):List Int->List (List UInt8)->Option (List (List UInt8))×Nm
 | [],acc=>(some acc,[])
 | id::ids,acc=>match D7 l (F6 I8 id.toNat) with
  | none=>(none,F6 I8 id.toNat)
  | some b=>P8 l ids (acc++[b])
theorem dy{l:Fl}{id:Int}{ids:List Int}{acc:List (List UInt8)}{b:List UInt8}(h:D7 l (F6 I8 id.toNat)=some b):P8 l (id::ids) acc=P8 l ids (acc++[b]):=by
 show(match D7 l (F6 I8 id.toNat) with|none=>(none,F6 I8 id.toNat)|some b=>P8 l ids (acc++[b]))=_;rw[h]
theorem dx{l:Fl}{id:Int}{ids:List Int}{acc:List (List UInt8)}(h:D7 l (F6 I8 id.toNat)=none):P8 l (id::ids) acc=(none,F6 I8 id.toNat):=by
 show(match D7 l (F6 I8 id.toNat) with|none=>(none,F6 I8 id.toNat)|some b=>P8 l ids (acc++[b]))=_;rw[h]
def N8(l:Fl):Option (Nat×List Int×List (List UInt8))×Int×Nm:=
 match D7 l I5 with
 | none=>(none,5,[])
 | some m=>match aV m with
  | none=>(none,6,[])
  | some (g,ids)=>match P8 l ids [] with
   | (some bss,_)=>(some (g,ids,bss),0,[])
   | (none,n)=>(none,7,n)
section
variable{l:Fl}{m:List UInt8}{g:Nat}{ids:List Int}{bss:List (List UInt8)}{n:Nm}
theorem Vq(h:D7 l I5=none):N8 l=(none,5,[]):=by unfold N8;rw[h]
theorem UW(h:D7 l I5=some m)(hm:aV m=none):N8 l=(none,6,[]):=by unfold N8;rw[h];dsimp only;rw[hm]
theorem UH(h:D7 l I5=some m)(hm:aV m=some (g,ids))(hs:P8 l ids []=(some bss,n)):N8 l=(some (g,ids,bss),0,[]):=by unfold N8;rw[h];dsimp only;rw[hm];dsimp only;rw[hs]
theorem Vp(h:D7 l I5=some m)(hm:aV m=some (g,ids))(hs:P8 l ids []=(none,n)):N8 l=(none,7,n):=by unfold N8;rw[h];dsimp only;rw[hm];dsimp only;rw[hs]
end
theorem b2N(l:Fl)(h:(N8 l).1≠none):(N8 l).2.2=[]:=by
 cases hm:D7 l I5 with
 | none=>rw[Vq hm]
 | some m=>
  cases hr:aV m with
  | none=>rw[UW hm hr]
  | some r=>
   obtain⟨g,ids⟩:=r
   cases hs:P8 l ids [] with
   | mk o n=>
    cases o with
    | some bss=>rw[UH hm hr hs]
    | none=>rw[Vp hm hr hs] at h;exact absurd rfl h
theorem b0s{d:D}(h:d.Calm):∀(ids:List Int)(acc:List (List UInt8)),(∀bss n,P8 d.files ids acc=(some bss,n)->D.bZ ids d acc=(bss,.ok,d))/\(∀n,P8 d.files ids acc=(none,n)->∃acc',D.bZ ids d acc=(acc',.file 7 n,d)):=by
 intro ids
 induction ids with
 | nil=>
  intro acc;refine⟨λbss n e=>?_,λn e=>?_⟩
  ·simp only[P8,kH,bJ] at e;rw[<-e.1];rfl
  ·simp[P8] at e
 | cons id ids ih=>
  intro acc;have hw:=h.whole (F6 I8 id.toNat)
  cases hf:d.file (F6 I8 id.toNat) with
  | none=>
   rw[hf] at hw;dsimp only at hw;have hl:D7 d.files (F6 I8 id.toNat)=none:=by rw[Ux,hf]
   rw[dx hl];refine⟨λbss n e=>by simp at e,λn e=>?_⟩;simp only[kH,true_and] at e;subst e
   exact⟨acc,by rw[Vg hw (by simp)];simp[Er.code]⟩
  | some b=>
   rw[hf] at hw;dsimp only at hw;have hl:D7 d.files (F6 I8 id.toNat)=some b:=by rw[Ux,hf]
   rw[dy hl,cP hw];exact ih (acc++[b])
theorem Ni{d:D}(h:d.Calm):d.gq.2.2=d/\d.gq.1=(N8 d.files).1/\d.gq.2.1.code=(N8 d.files).2.1/\(d.gq.2.1.code=7->d.gq.2.1.name=(N8 d.files).2.2)/\(d.gq.1=none<->d.gq.2.1.code≠0):=by
 have hr:=h.aV;have hl:=Ux d I5
 cases hf:d.file I5 with
 | none=>
  rw[hf] at hr hl;dsimp only at hr;have e:d.gq=(none,.num 5,d):=by rw[KG (by rw[hr]),hr]
  rw[e,Vq hl]
  exact⟨rfl,rfl,rfl,λh=>by simp[Er.code] at h,by simp[Er.code]⟩
 | some m=>
  rw[hf] at hr hl;dsimp only at hr
  cases hm:aV m with
  | none=>
   rw[hm] at hr;dsimp only at hr;have e:d.gq=(none,.num 6,d):=by rw[KG (by rw[hr]),hr]
   rw[e,UW hl hm]
   exact⟨rfl,rfl,rfl,λh=>by simp[Er.code] at h,by simp[Er.code]⟩
  | some r=>
   obtain⟨g,ids⟩:=r;rw[hm] at hr;dsimp only at hr;obtain⟨h1,h2⟩:=b0s h ids [];have e1:d.aV.1=some (g,ids):=by rw[hr]
   have e2:d.aV.2.2=d:=by rw[hr]
   cases hs:P8 d.files ids [] with
   | mk o n=>
    cases o with
    | some bss=>
     have e3:=h1 bss n hs;have e:d.gq=(some (g,ids,bss),.ok,d):=by rw[ZI e1 (by rw[e2,e3]),e2,e3]
     rw[e,UH hl hm hs]
     exact⟨rfl,rfl,rfl,λh=>by simp[Er.code] at h,by simp[Er.code]⟩
    | none=>
     obtain⟨acc',e3⟩:=h2 n hs;have e:d.gq=(none,.file 7 n,d):=by rw[KA e1 (by rw[e2,e3];simp),e2,e3]
     rw[e,Vp hl hm hs];exact⟨rfl,rfl,rfl,λ_=>rfl,by simp[Er.code]⟩
end
section
open Dk Pl
theorem JW(l:List UInt8){n a b:Nat}(h:a+b<=n):((l.take n).drop a).take b=(l.drop a).take b:=by
 rw[fG,qA,kT (by omega)]
theorem c1w{l:List UInt8}{r:Rec}(h:dec l=some r):dec (l.take r.size)=some r:=by
 have hs:=Kq h;unfold dec at h⊢;split at h
 ·rename_i hg;obtain⟨n,hn⟩:∃n,16+D9 l+H8 l=n:=⟨_,rfl⟩;injection h with h;have hr:r.size=n:=by rw[<-h,<-hn]
  rw[hr];rw[hr] at hs;have k1:D9 (l.take n)=D9 l:=by unfold D9;rw[JW l (by omega)]
  have k2:H8 (l.take n)=H8 l:=by unfold H8;rw[JW l (by omega)]
  have k3:P6 (l.take n)=P6 l:=by unfold P6;rw[JW l (by omega)]
  have k4:((l.take n).take n).drop 4=(l.take n).drop 4:=by rw[qA,Nat.min_self]
  have k5:(l.take n).take 4=l.take 4:=by rw[qA,kT (by omega)]
  have hg2:good (l.take n)=true:=by
   unfold good at hg⊢;rw[k1,k2,k3,hn,k4,k5,bD,kT (by omega)];rw[hn] at hg;simp only[aH,dQ] at hg⊢;exact⟨aj _,hg.2⟩
  rw[if_pos hg2,k1,k2,k3,JW l (by omega),JW l (by omega),JW l (by omega),<-h]
 ·cases h
theorem b5G{l:Fl}:∀(ids:List Int)(acc bss:List (List UInt8))(n:Nm),P8 l ids acc=(some bss,n)->bss.length=acc.length+ids.length/\(∀i,i<acc.length->bss.getD i []=acc.getD i [])/\∀i,i<ids.length->D7 l (F6 I8 (ids.getD i 0).toNat)=some (bss.getD (acc.length+i) []):=by
 intro ids
 induction ids with
 | nil=>
  intro acc bss n h;simp only[P8,kH,bJ] at h;obtain⟨rfl,-⟩:=h
  exact⟨rfl,λ_ _=>rfl,λi hi=>by cases hi⟩
 | cons id ids ih=>
  intro acc bss n h
  cases hl:D7 l (F6 I8 id.toNat) with
  | none=>rw[dx hl] at h;simp at h
  | some b=>
   rw[dy hl] at h;obtain⟨h1,h2,h3⟩:=ih _ _ _ h;rw[aC,oM] at h1 h2 h3;refine⟨by rw[h1,bV];omega,λi hi=>?_,λi hi=>?_⟩
   ·rw[h2 i (by omega),bf,bH hi,bf]
   ·cases i with
    | zero=>
     have:=h2 acc.length (by omega);rw[bf (l:=acc++[b]),bF (aj _),Nat.sub_self] at this;rw[jw,this]
     exact hl
    | succ i=>
     have:=h3 i (by simpa using hi);rw[show acc.length+(i+1)=acc.length+1+i by omega];simpa using this
theorem QO{d:D}{g:Nat}{ids:List Int}{bss:List (List UInt8)}(h:(N8 d.files).1=some (g,ids,bss)):bss.length=ids.length/\∀i,i<ids.length->d.file (F6 I8 (ids.getD i 0).toNat)=some (bss.getD i []):=by
 cases hm:D7 d.files I5 with
 | none=>rw[Vq hm] at h;cases h
 | some m=>
  cases hr:aV m with
  | none=>rw[UW hm hr] at h;cases h
  | some r=>
   obtain⟨g',MW⟩:=r
   cases hs:P8 d.files MW [] with
   | mk o n=>
    cases o with
    | none=>rw[Vp hm hr hs] at h;cases h
    | some YZ=>
     rw[UH hm hr hs] at h;simp only[bJ,kH] at h;obtain⟨-,rfl,rfl⟩:=h;obtain⟨h1,-,h3⟩:=b5G _ _ _ _ hs;refine⟨by simpa using h1,λi hi=>?_⟩;have:=h3 i hi;rw[Ux] at this;simpa using this
theorem b5H(r:Rec):PY r r=true:=by simp[PY]
def valOf(m:List (Nm×Nm))(k:Nm):Nm×Bool:=match D7 m k with|some v=>(v,true)|none=>([],false)
theorem c1x{bss:List (List UInt8)}{n:Nat}(hn:bss.length=n)(k:Nm):D7 (Y4 (D5 bss)) k=(D7 (U7 bss n) k).bind λf=>if f.2.2.del then none else some f.2.2.val:=by
 have hnd:((Y4 (D5 bss)).map (·.1)).Nodup:=(ig.2 (QN _)).imp (R:=λa b:Nm=>a<b) λh e=>by rw[e] at h;exact absurd h kF
 cases e:D7 (U7 bss n) k with
 | none=>
  show _=none;refine UL λp hp hk=>?_;obtain⟨f,hf,-⟩:=Qu hn p hp;rw[hk,e] at hf
  cases hf
 | some f=>
  show _=if f.2.2.del=true then none else some f.2.2.val
  cases hd:f.2.2.del with
  | true=>
   refine UL λp hp hk=>?_;obtain⟨f',hf,h2,-⟩:=Qu hn p hp;rw[hk,e] at hf;cases hf;rw[hd] at h2
   cases h2
  | false=>
   obtain⟨j,hj⟩:=dY (FG hn e hd);exact Af hnd hj
end
section
open Go.RowKit Go.Lib Go.Maps Dk Pl
theorem b5F{F:Nat->Prop}{a:Nat}{d:D}{w:World}(h:A7 w F a d)(hc:d.Calm):Calls prog 93 #[o7 a] w λe w'=>e=.returned (.bool false)/\w'=w:=by
 obtain⟨m1,m2,mv,gs,dv,h⟩:=h;have c4:=h.box.cell 4;have c5:=h.box.cell 5;rw[hc.1] at c4;rw[hc.2] at c5;clear h hc;unfold o7;go_enter func93,ntmps93
 go_wp2;go_ret;exact⟨rfl,rfl⟩
theorem b8I{F:Nat->Prop}{a:Nat}{d:D}{name:Nm}{x:Nat}{w:World}(h:A7 w F a d)(hc:d.Calm)(hn:name.length<=maxLen)(hx:D7 d.now name=some x):Calls prog 124 #[o7 a,bC name] w λe w'=>e=.returned (.tuple #[o7 x,.nilIface])/\w'=w:=by
 have kM:=b5F h hc;obtain⟨m1,m2,mv,gs,dv,h⟩:=h;have c0:=h.box.cell 0;have hlk:=h.now.look EH Ag underlying171 (ZT w) (Et hn);rw[hx] at hlk;simp only[dH,aP] at hlk;clear h hc hx;have HF:=ah kM;clear kM;unfold bC o7 at *;go_enter func124,ntmps124
 go_wp2_with fail
 refine HF.out.mono ?_;rintro e w1 ⟨rfl,rfl⟩;go_wp2;go_ret2
 exact⟨rfl,rfl⟩
theorem b3X{F:Nat->Prop}{a:Nat}{d:D}{name:Nm}{w:World}{L:List UInt8}{i m:Nat}(h:A7 w F a d)(hc:d.Calm)(hn:name.length<=maxLen)(hf:d.file name=some L)(him:i+m<=L.length)(hL:L.length<=140737488355328):
 Calls prog 68 #[o7 a,bC name,.int .i64 i,.int .i64 m] w λe w'=>∃u,e=.returned (.tuple #[u,.nilIface])/\Bytes w' u ((L.drop i).take m)/\Ext w w':=by
 obtain⟨x,hx,hxL⟩:=aS.1 (show(D7 d.now name).map (λx=>(d.node x).data)=some L from hf);have hfind:=b8I h hc hn hx;have hxm:x∈d.ids:=by
  have e:=hc.find name;rw[hx] at e;dsimp only at e;have:=D.kN d name x (by rw[e]) (by rw[e];obtain⟨_,_,_,_,_,h⟩:=h;exact h.wf);rwa [e] at this
 obtain⟨m1,m2,mv,gs,dv,hr⟩:=h;obtain⟨hb,ho⟩:=hr.file x hxm;rw[hxL] at ho;obtain⟨da,dc,hdv⟩:=ownsRow_form ho;rw[hdv] at hb ho;have hbb:Bytes w (.slice da L.length dc) L:=OwnB.bytes ho;have hdc:L.length<=dc/\dc<=9223372036854775807:=by
  obtain⟨a',c',e,h1,h2,_⟩:=hbb;injection e with e1 e2 e3;subst e3;exact⟨h1,h2.1⟩
 have c0:=hb.cell 0;have hp:(L.take (i+m)).drop i=(L.drop i).take m:=by rw[fG];congr 1;omega
 have hcl:=clone_any _ _ w (hbb.sliced i (i+m) (by omega) him) (by rw[dD,bD];omega) (by rw[dD,bD];omega);have yE:∀u,u=.slice (if dc=i then da else da.map (·.add i)) m (dc - i)->Calls prog 88 #[u] w (Zv ((L.drop i).take m) w):=by
  rintro _ rfl;have:=hcl;rwa [show i+m - i=m by omega,hp] at this
 have x1:min (i:Int) (L.length:Int)=i:=by omega
 have x2:min (m:Int) ((L.length:Int) - i)=m:=by omega
 have HF:=ah hfind;have iS:=ah yE;clear hfind yE hcl hp hr ho hb hbb hxm hx hf hc hxL;unfold o7 bC at *;go_enter func68,ntmps68
 go_wp2_with fail
 refine HF.out.mono ?_;rintro e w1 ⟨rfl,rfl⟩;go_wp2_with fail
 all_goals
  refine(iS.out _ (by first|(rename_i h;rw[if_pos h,show dc - i=0 by omega])|(rename_i h;rw[if_neg h]))).mono ?_;rintro e w2 ⟨u,rfl,hu,hE,-⟩;go_wp2;go_ret2
  exact⟨u,rfl,OwnB.bytes hu,hE⟩
end
section
open Go.RowKit Go.Lib Go.Maps Dk Pl
theorem LO(w:World):(zeroValue 160).run prog w=.ok (.agg #[.int .i64 0,.int .i64 0,.int .i64 0,.int .u64 0,.string ⟨#[]⟩,.string ⟨#[]⟩,.bool false]) w:=by kernel_rfl
theorem fieldPlace(a b c d:Int)(k v:ByteArray)(e:Bool)(w:World):(Instr.field 160 (.agg #[.int .i64 a,.int .i64 b,.int .i64 c,.int .u64 d,.string k,.string v,.bool e]) 0).run prog w=.ok (.agg #[.int .i64 a,.int .i64 b]) w:=by kernel_rfl
end
section
open Go.RowKit Go.Lib Go.Maps Dk Pl
theorem IF(r q:Rec)(w:World):(binOp .neq 111 (.agg #[.int .u64 r.seq,.string ⟨r.key.toArray⟩,.string ⟨r.val.toArray⟩,.bool r.del]) (.agg #[.int .u64 q.seq,.string ⟨q.key.toArray⟩,.string ⟨q.val.toArray⟩,.bool q.del])).run prog w=.ok (.bool (!PY r q)) w:=by
 have key:(Op.equalIn 10000 111 (.agg #[.int .u64 r.seq,.string ⟨r.key.toArray⟩,.string ⟨r.val.toArray⟩,.bool r.del]) (.agg #[.int .u64 q.seq,.string ⟨q.key.toArray⟩,.string ⟨q.val.toArray⟩,.bool q.del])).run prog w=.ok (PY r q) w:=by
  rw[show(10000:Nat)=9999+1 from rfl,run_equalIn_struct w 9999 111 _ _ (by kernel_rfl) (by kernel_rfl)];simp only[Program.fieldsOf,underlying111];go_simp
  unfold PY;by_cases h1:r.seq=q.seq<;>by_cases h2:r.key=q.key<;>by_cases h3:r.val=q.val<;>by_cases h4:r.del=q.del<;>simp[h1,h2,h3,h4]<;>omega
 simp[binOp,Op.equal,Op.maxDepth,key]
structure qw(w:World)(F:Nat->Prop)(a sb gen:Nat)(D:D)(ids:List Int)(bss:List (List UInt8)):Prop where
 disk:A7 w F a D
 calm:D.Calm
 fit:D.Fit
 st:Held w F (λW=>Zr W sb a gen ids bss)
 rE:Em ids
 P:Held w F nZ
 La:Held w F Laid
 op:(N8 D.files).1=some (gen,ids,bss)
 small:∀i,(bss.getD i []).length<=1099511627776
theorem qw.ext{w w':World}{F:Nat->Prop}{a sb gen:Nat}{D:D}{ids:List Int}{bss:List (List UInt8)}(h:qw w F a sb gen D ids bss)(hE:Ext w w'):qw w' F a sb gen D ids bss:=
 ⟨h.disk.ext hE,h.calm,h.fit,h.st.ext hE,h.rE,h.P.ext hE,h.La.ext hE,h.op,h.small⟩
def GX(bss:List (List UInt8))(key:Nm)(w:World)(e:Ending)(w':World):Prop:=
 e=.returned (.tuple #[bC (valOf (Y4 (D5 bss)) key).1,.bool (valOf (Y4 (D5 bss)) key).2,.nilIface])/\Ext w w'
theorem aM{F:Nat->Prop}{a sb gen:Nat}{D:D}{ids:List Int}{bss:List (List UInt8)}{w:World}(h:qw w F a sb gen D ids bss){key:Nm}(hk:key.length<=maxLen):
 Calls prog 22 #[o7 sb,bC key] w (GX bss key w):=by
 obtain⟨hn0,jC⟩:=QO h.op;obtain⟨ia,ic,Cb,r,vv,hb,-,hS,hM,hbl⟩:=h.st.get;have hlk:=hM.Fv EH Ag underlying136 (LO w) (Et hk);have hml:=c1x hn0 key;have d0:=(hb.cell 0).trans (show _=some (o7 a) from rfl);have d3:=(hb.cell 3).trans (show _=some (Value.slice (some ⟨Cb,0,none⟩) ids.length ids.length) from rfl);have d4:=(hb.cell 4).trans (show _=some (Value.map (some r)) from rfl);have H:=ah h;have HS:=ah hS;have xG:=ah jC;clear h hb hS hM jC
 cases hlook:D7 (U7 bss ids.length) key with
 | none=>
  rw[hlook] at hlk hml;have hg:valOf (Y4 (D5 bss)) key=([],false):=by unfold valOf;rw[hml];rfl
  have tH:(Instr.lookup 136 (.map (some r)) (.string ⟨key.toArray⟩) true).run prog w=.ok (.tuple #[.agg #[.int .i64 0,.int .i64 0,.int .i64 0,.int .u64 0,.string ⟨#[]⟩,.string ⟨#[]⟩,.bool false],.bool false]) w:=hlk;unfold GX;rw[hg];clear hlk hg hlook hml;unfold o7 bC at *;go_enter func22,ntmps22
  go_wp2_with fail
  go_ret3
  exact⟨rfl,(Ext.refl w).new _⟩
 | some f=>
  rw[hlook] at hlk hml;obtain⟨hfn,hfm,hfk⟩:=Zt hlook;have tH:(Instr.lookup 136 (.map (some r)) (.string ⟨key.toArray⟩) true).run prog w=.ok (.tuple #[.agg #[.int .i64 f.1,.int .i64 f.2.1,.int .i64 f.2.2.size,.int .u64 f.2.2.seq,.string ⟨f.2.2.key.toArray⟩,.string ⟨f.2.2.val.toArray⟩,.bool f.2.2.del],.bool true]) w:=hlk;obtain⟨w1,hw1⟩:∃w1,w.alloc (.cells #[.int .i64 f.1,.int .i64 f.2.1,.int .i64 f.2.2.size,.int .u64 f.2.2.seq,.string ⟨f.2.2.key.toArray⟩,.string ⟨f.2.2.val.toArray⟩,.bool f.2.2.del] 160)=w1:=⟨_,rfl⟩;have hE1:Ext w w1:=hw1▸(Ext.refl w).new _;have hx:o8 w1 w.heap.size 160 #[.int .i64 f.1,.int .i64 f.2.1,.int .i64 f.2.2.size,.int .u64 f.2.2.seq,.string ⟨f.2.2.key.toArray⟩,.string ⟨f.2.2.val.toArray⟩,.bool f.2.2.del]:=hw1▸o8.new _ _ rfl;have x0:=(hx.cell 0).trans (show _=some (Value.int .i64 f.1) from rfl);have x1:=(hx.cell 1).trans (show _=some (Value.int .i64 f.2.1) from rfl);have x2:=(hx.cell 2).trans (show _=some (Value.int .i64 f.2.2.size) from rfl);have x3:=(hx.cell 3).trans (show _=some (Value.int .u64 f.2.2.seq) from rfl);have x4:=(hx.cell 4).trans (show _=some (Value.string ⟨f.2.2.key.toArray⟩) from rfl);have x5:=(hx.cell 5).trans (show _=some (Value.string ⟨f.2.2.val.toArray⟩) from rfl);have x6:=(hx.cell 6).trans (show _=some (Value.bool f.2.2.del) from rfl);have lV:=ah hE1;have HW1:=ah hw1;have Du:=ah hfn;have ie:=ah hfm;clear hlk hx hE1 hw1 hfn hfm hfk hlook
  cases hdel:f.2.2.del with
  | true=>
   rw[hdel] at x6 tH HW1;have hg:valOf (Y4 (D5 bss)) key=([],false):=by unfold valOf;rw[hml,eF,if_pos hdel]
   unfold GX;rw[hg];clear hg hdel hml;unfold o7 bC at *;go_enter func22,ntmps22
   go_wp2_with fail
   go_ret3
   exact⟨rfl,by rw[HW1.out];exact lV.out⟩
  | false=>
   rw[hdel] at x6 tH HW1;obtain⟨s0,-⟩:=HS.out f.1 Du.out;have hil:=H.out.rE.1;have hid:=H.out.rE.2 (ids.getD f.1 0) (by rw[bf,au Du.out];exact fE _);have hfl:=xG.out f.1 Du.out;obtain⟨id,NP⟩:∃id:Nat,ids.getD f.1 0=(id:Int):=⟨(ids.getD f.1 0).toNat,by omega⟩;rw[NP] at s0 hid hfl;rw[iw] at hfl;have WB:=lV.out.cell s0;rw[oh] at WB;have qq:=lV.out.cell d0;have YC:=lV.out.cell d3;have hg:valOf (Y4 (D5 bss)) key=(f.2.2.val,true):=by unfold valOf;rw[hml,eF,if_neg (by rw[hdel];decide)]
   have hin:=c0f ie.out;have hdc:=c1w (QF ie.out);have hb1:=H.out.small f.1;generalize bss.getD f.1 []=L at hfl hin hdc hb1;obtain⟨n,hn⟩:∃n,ids.length=n:=⟨_,rfl⟩;have hfi:(f.1:Int)<(n:Int):=by have:=Du.out;omega
   rw[hn] at YC hil;have ip:=ah hdel;have HDC:=ah hdc;unfold GX;rw[hg];clear hg hml hn hn0 NP s0 hdel hdc;unfold o7 bC at *;go_enter func22,ntmps22
   go_upto_region 4 with fail
   rw[HW1.out];go_cut [9] (λv wx=>v=.string ⟨(F6 I8 id).toArray⟩/\Ext w1 wx)
   case first=>
    have vU:Ext w1 w1.drew:=Below.drew (Ext.refl w1);have rn:nZ w1.drew:=(H.out.P.ext (lV.out.trans vU):Held w1.drew F nZ).get;have y0:=vU.cell x0;have y1:=vU.cell YC;have y2:=vU.cell WB;have hkn:=bE I8 id w1.drew (by decide) (by omega) rn;have gP:=ah vU;have fY:=ah hkn;clear vU hkn;unfold bC at fY;unfold I8 at fY;go_region_with (go_at_call 56;refine fY.out.mono ?_;rintro e wq ⟨rfl,hE⟩)
    all_goals
     go_wp2_with fail
     go_meet
     exact⟨rfl,gP.out.trans hE⟩
   case rest=>
    obtain⟨rfl,yN⟩:=hcut;obtain⟨wo,hwo⟩:∃wo,wo=wc:=⟨_,rfl⟩;rw[<-hwo] at yN⊢;clear hwo wc;have OE:=lV.out.trans yN;have c0:=yN.cell x0;have c1:=yN.cell x1;have c2:=yN.cell x2;have c3:=yN.cell x3;have c4:=yN.cell x4;have c5:=yN.cell x5;have c6:=yN.cell x6;have cd:=yN.cell qq;have hnl:(F6 I8 id).length<=maxLen:=by
     have:(F6 I8 id).length=11:=by simp[F6,I8]
     rw[this];decide
    obtain⟨nm,hnm⟩:∃nm,F6 I8 id=nm:=⟨_,rfl⟩;rw[hnm] at hnl hfl⊢;have Iy:=ah OE;have RN:=ah hfl;clear yN OE x0 x1 x2 x3 x4 x5 x6 d0 qq d3 YC d4 WB tH hnm HW1 lV hfl;go_upto_region 5 with fail
    go_cut [10,11] (λu v wx=>v=.nilIface/\Bytes wx u ((L.drop f.2.1).take f.2.2.size)/\Ext wo wx)
    case first=>
     have vU:Ext wo wo.drew:=Below.drew (Ext.refl wo);have y1:=vU.cell c1;have y2:=vU.cell c2;have yd:=vU.cell cd;have hra:=b3X (i:=f.2.1) (m:=f.2.2.size) (H.out.ext (Iy.out.trans vU)).disk H.out.calm hnl RN.out hin (by omega);have KN:=ah hra;have gP:=ah vU;clear hra vU;unfold o7 bC at KN;go_region_with (go_at_call 68;refine KN.out.mono ?_;rintro e wq ⟨u,rfl,q1,q2⟩)
     all_goals
      go_wp2_with fail
      go_meet
      exact⟨rfl,q1,gP.out.trans q2⟩
    case rest=>
     obtain⟨rfl,hb,hE2⟩:=hcut;have z3:=hE2.cell c3;have z4:=hE2.cell c4;have z5:=hE2.cell c5;have z6:=hE2.cell c6;have hdec:=decode_any u10 _ wc hb;rw[HDC.out] at hdec;have iN:=ah hdec;have jX:=Iy.out.trans hE2;have qG:=ah jX;clear hdec hb c0 c1 c2 c3 c4 c5 c6 cd hE2 jX Iy;go_wp2_with fail
     refine iN.out.mono ?_;rintro e w3 ⟨rfl,mW⟩;have hne:=λwx=>IF f.2.2 f.2.2 wx;rw[ip.out,b5H] at hne;have Jw:=mW.new (.cells #[.int .u64 f.2.2.seq,.string ⟨f.2.2.key.toArray⟩,.string ⟨f.2.2.val.toArray⟩,.bool false] 111);have y3:=Jw.cell z3;have y4:=Jw.cell z4;have y5:=Jw.cell z5;have y6:=Jw.cell z6;have xI:=ah (qG.out.trans Jw);clear Jw z3 z4 z5 z6 mW;unfold nK;dsimp only;rw[ip.out];go_wp2_with fail
     go_ret3
     exact⟨rfl,xI.out⟩
end
section
open Go.RowKit Go.Lib Go.Maps Dk Pl
end
section
open Go.RowKit Go.Lib Go.Maps Dk Pl
theorem rS{γ:Type}(f:γ->List Value){N:Nat}(hf:∀x,(f x).length=N):∀(l:List γ)(i:Nat)(x:γ),l[i]?=some x->∀j,j<N->(l.flatMap f)[i*N+j]?=(f x)[j]?:=by
 intro l
 induction l with
 | nil=>intro i x h;simp at h
 | cons y l ih=>
  intro i x h j hj;rw[iW]
  cases i with
  | zero=>
   simp at h;subst h
   rw[bH (by rw[hf];omega)];simp
  | succ i=>
   simp at h;have e:(i+1)*N+j - N=i*N+j:=by rw[kZ];omega
   rw[bF (by rw[hf,kZ];omega),hf,e];exact ih i x h j hj
theorem Hr{γ:Type}{f:γ->List Value}{N:Nat}(hf:∀x,(f x).length=N){w:World}{B:Nat}{e:TypeId}{v:Value}{l:List γ}(h:w.ownsRow B e N v l.length (l.flatMap f)){k:Nat}{t:γ}(hk:l[k]?=some t):
 ∃g cap,v=.slice (some ⟨g,0,none⟩) l.length cap/\l.length<=cap/\g<w.heap.size/\B<=g/\∀c x,(f t)[c]?=some x->w.cell? ⟨g,k*N+c,none⟩=some x:=by
 have hkl:k<l.length:=(aT.1 hk).1;rcases h.2 with⟨_,h0⟩|⟨g,cap,cur,rfl,hb,hg,h1,h2,h3,h4⟩
 ·omega
 ·refine⟨g,cap,rfl,h1,lt_of_block hg,hb,λc x hx=>?_⟩;have hc:c<N:=by
   have:=(aT.1 hx).1;rw[hf] at this;exact this
  have e1:=rS f hf l k t hk c hc;rw[hx] at e1;have hlt:k*N+c<l.length*N:=by
   have:(k+1)*N<=l.length*N:=h_ _ hkl;rw[kZ] at this;omega
  rw[<-h4,dA,if_pos hlt] at e1;simp only[World.cell?,hg];simpa using e1
end
section
open Go.RowKit Go.Lib Pl
def Ho(p:Nat×Rec):List Value:=[.int .u64 p.2.seq,.string ⟨p.2.key.toArray⟩,.string ⟨p.2.val.toArray⟩,.bool p.2.del,.int .i64 p.2.size]
def sliceLen:Value->Nat
 | .slice _ n _=>n
 | _=>0
theorem b8P:(prog.info? 116).map (λi=>(i.zero,i.size,i.bytes))=some (some (.agg #[.int .u64 0,.string ⟨#[]⟩,.string ⟨#[]⟩,.bool false,.int .i64 0]),5,56):=by kernel_rfl
theorem b35(v:Value)(l:List UInt8)(w:World)(h:Bytes w v l)(hl:l.length<=1099511627776):
 Calls prog 69 #[v] w λe w'=>∃u,e=.returned u/\w'.ownsRow w.heap.size 116 5 u (N7 l).length ((N7 l).flatMap Ho)/\Ext w w':=by
 obtain⟨i0,hi,hz0,hz1,hz2⟩:=info_parts b8P;have H:=ah h;clear h;go_enter func69,ntmps69
 go_wp2;go_loopw [0,3] (λb u wr=>∃(rs:List (Nat×Rec))(off n:Nat),Bytes w b (l.drop off)/\off<=l.length/\rs.length<=off/\N7 l=rs++P9 n off l/\l.length<n+off/\wr.ownsRow w.heap.size 116 5 u rs.length (rs.flatMap Ho)/\Ext w wr) (λb _ _=>sliceLen b)
 case atStart=>exact⟨[],0,l.length+1,H.out,by omega,by simp,rfl,by omega,⟨rfl,Or.inl ⟨rfl,rfl⟩⟩,Ext.refl w⟩
 case round=>
  obtain⟨rs,off,n,hb,hoff,hrs,hsc,hn,hown,hE⟩:=hrel;obtain⟨ba,bc,rfl,hbc,hbc2,-⟩:=id hb;have hdl:(l.drop off).length=l.length - off:=dD;rw[hdl] at hbc hb⊢;have HN:=ah hn;have ET:=ah hsc;have HO:=ah hown;have HE:=ah hE;have HB:=ah hb;have sQ:=ah hrs;clear hn hsc hown hE hb hrs;go_wp2_with fail
  refine(b0p _ (l.drop off) wr (HB.out.ext HE.out)).mono ?_;rintro e w1 ⟨rfl,hE1⟩
  cases hd:dec (l.drop off) with
  | none=>
   have hfin:∀wz,Ext w1 wz->(World.ownsRow wz w.heap.size 116 5 u3 (N7 l).length ((N7 l).flatMap Ho)/\Ext w wz):=λwz hz=>by
    have e0:=(ET.out).trans (by rw[Z1 hd,dO]);rw[e0];exact⟨iV.row HO.out wz λb hb=>(hE1.trans hz).block b (World.ownsRow.lt HO.out b hb).2,HE.out.trans (hE1.trans hz)⟩
   have HF:=ah hfin;clear hfin hE1 HB HN ET HO HE;unfold O7 uY;go_wp2_with fail
   exact bodyPost_ret (v:=u3) (by simp[results,results69]) rfl ⟨u3,rfl,HF.out _ ((Ext.refl w1).new _)⟩
  | some r=>
   obtain⟨hr1,hr2⟩:=Kq hd;rw[hdl] at hr2;have hn:=HN.out;obtain⟨m,rfl⟩:∃m,n=m+1:=⟨n - 1,by omega⟩;have e0:N7 l=(rs++[(off,r)])++P9 m (off+r.size) l:=by
    rw[ET.out,fH];simp[P9,hd]
   have hX:o8 (w1.alloc (.cells #[.int .u64 r.seq,.string ⟨r.key.toArray⟩,.string ⟨r.val.toArray⟩,.bool r.del,.int .i64 r.size] 116)) w1.heap.size 116 #[.int .u64 r.seq,.string ⟨r.key.toArray⟩,.string ⟨r.val.toArray⟩,.bool r.del,.int .i64 r.size]:=o8.new _ _ rfl;obtain⟨ua,uc,rfl⟩:=ownsRow_form HO.out;have Np:∀b,(Value.slice ua rs.length uc).ownBlock=some b->b<w1.heap.size:=λb hb=>ak (World.ownsRow.lt HO.out b hb).2 hE1.size;have Il:=ah Np;clear Np;have hE2:Ext w (w1.alloc (.cells #[.int .u64 r.seq,.string ⟨r.key.toArray⟩,.string ⟨r.val.toArray⟩,.bool r.del,.int .i64 r.size] 116)):=(Ext.trans HE.out hE1).new _;have hown:=iV.row HO.out (w1.alloc (.cells #[.int .u64 r.seq,.string ⟨r.key.toArray⟩,.string ⟨r.val.toArray⟩,.bool r.del,.int .i64 r.size] 116)) λb hb=>(hE1.new (.cells #[.int .u64 r.seq,.string ⟨r.key.toArray⟩,.string ⟨r.val.toArray⟩,.bool r.del,.int .i64 r.size] 116)).block b (World.ownsRow.lt HO.out b hb).2;have hrl:=sQ.out;have hsz:w.heap.size<=w1.heap.size:=(Ext.trans HE.out hE1).size;have hnw:((w1.alloc (.cells #[.int .u64 r.seq,.string ⟨r.key.toArray⟩,.string ⟨r.val.toArray⟩,.bool r.del,.int .i64 r.size] 116)).alloc (.cells #[.int .u64 r.seq,.string ⟨r.key.toArray⟩,.string ⟨r.val.toArray⟩,.bool r.del,.int .i64 r.size] 116)).heap[w1.heap.size+1]?=some (.cells #[.int .u64 r.seq,.string ⟨r.key.toArray⟩,.string ⟨r.val.toArray⟩,.bool r.del,.int .i64 r.size] 116):=by
    have e:(w1.alloc (.cells #[.int .u64 r.seq,.string ⟨r.key.toArray⟩,.string ⟨r.val.toArray⟩,.bool r.del,.int .i64 r.size] 116)).heap.size=w1.heap.size+1:=by simp
    rw[<-e];exact heap_alloc_new _ _
   have hsl:=HB.out.sliced r.size (l.length - off) hr2 (by omega);have HOW:=ah hown;have HE2:=ah hE2;have E0:=ah e0;have HX:=ah hX;have lV:=ah hE1;have HSL:=ah hsl;clear hown hE2 e0 hX hE1 HN ET HO HB hsl;unfold O7;go_wp2_with (at_builtin;go_must (refine D8 rfl _ _ 52 rfl w.heap.size 116 i0 (.agg #[.int .u64 0,.string ⟨#[]⟩,.string ⟨#[]⟩,.bool false,.int .i64 0]) 5 56 underlying52 hi hz0 hz1 hz2 rfl (by omega) (.slice ua rs.length uc) rs.length _ rfl (World.ownsRow.alloc HOW.out (.cells #[.int .u64 r.seq,.string ⟨r.key.toArray⟩,.string ⟨r.val.toArray⟩,.bool r.del,.int .i64 r.size] 116)) (.slice (some ⟨w1.heap.size+1,0,none⟩) 1 1) 1 [.int .u64 r.seq,.string ⟨r.key.toArray⟩,.string ⟨r.val.toArray⟩,.bool r.del,.int .i64 r.size] rfl ⟨_,_,rfl,by omega,⟨by omega,λh=>by cases h⟩,λ_=>⟨_,rfl,World.news_of_block (cs:=#[.int .u64 r.seq,.string ⟨r.key.toArray⟩,.string ⟨r.val.toArray⟩,.bool r.del,.int .i64 r.size]) (t:=116) (fr:=(0,0)) hnw⟩⟩ rfl (by simp[Value.oneCell']) (by unfold maxLen;omega) (by omega) (by simp;omega) ?_);intro b6 c6 w6 hown6 hgrow6 jL;have qP:=ah hown6;have qQ:=ah hgrow6;clear hown6 hgrow6 jL;have rf:=ah ((qQ.out.block w1.heap.size (by simp;omega) (λe=>by have:=Il.out _ e.symm;omega)).trans (HX.out.alloc (.cells #[.int .u64 r.seq,.string ⟨r.key.toArray⟩,.string ⟨r.val.toArray⟩,.bool r.del,.int .i64 r.size] 116)));have d64:=(o8.cell rf.out 4).trans (show _=some (Value.int .i64 r.size) from rfl))
   all_goals
    go_roundw
    case rel=>
     have hs:=HSL.out;refine⟨rs++[(off,r)],off+r.size,m,?_,by omega,by simp;omega,E0.out,by omega,?_,?_⟩
     ·have e1:(l.drop off).take (l.length - off)=l.drop off:=by rw[eG (by rw[hdl];exact aj _)]
      rw[e1,lM] at hs;have e2:(l.drop (off+r.size)).length=l.length - off - r.size:=by rw[dD];omega
      exact hs
     ·have:=qP.out;rw[aC,dM];simpa [Ho] using this
     ·refine Below.grown (HE2.out.new _) qQ.out (by simp;omega) (λj hj=>?_);have:=(World.ownsRow.lt HOW.out j hj).1;omega
    case measure=>simp[sliceLen];omega
end
section
open Go.RowKit Go.Lib Pl
def b8Q(r:Option (Nat×List Int))(w:World)(e:Ending)(w':World):Prop:=
 ∃g v b,e=.returned (.tuple #[.int .u64 g,v,.bool b])/\Ext w w'/\
  ((r=none/\g=0/\v=.slice none 0 0/\b=false)\/(∃gen ids,r=some (gen,ids)/\g=(gen:Int)/\b=true/\iQ w' w.heap.size v ids))
theorem a9L(v:Value)(l:List UInt8)(w:World)(h:Bytes w v l):
 Calls prog 32 #[v] w (b8Q (aV l) w):=by
 obtain⟨i0,hi,hz0,hz1,hz2⟩:=info_parts ZF;obtain⟨a,cap,rfl,h1,h2,h3⟩:=id h;clear h3;by_cases c0:l.length<14
 ·have hd:aV l=none:=Y6 (UY (by omega));clear h;go_enter func32,ntmps32
  go_wp2;go_ret3
  exact⟨0,_,_,rfl,Ext.refl w,Or.inl ⟨hd,rfl,rfl,rfl⟩⟩
 obtain⟨ad,rfl⟩:∃ad,a=some ad:=by
  cases a with
  | none=>have:=h2.2 rfl;omega
  | some ad=>exact⟨ad,rfl⟩
 have HB:=ah h;clear h;have BP:14<=l.length:=by omega
 have hcn:=cnt_lt l;have hwn:IntKind.i64.wrap (cnt l:Int)=(cnt l:Int):=IntWalk.i64_in _ (by omega);have hsl:∀W:World,Ext w W->∀i j,0<i->i<=j->j<=l.length->i<cap->Bytes W (.slice (some ⟨ad.block,ad.off+i,none⟩) (j - i) (cap - i)) ((l.take j).drop i):=by
  intro W hW i j h0 hij hj hc;have:=(HB.out.ext hW).sliced i j hij hj;rw[if_neg (by omega)] at this;have e:(some ad).map (·.add i)=some ⟨ad.block,ad.off+i,none⟩:=by
   show some (ad.add i)=_;unfold Addr.add;rw[if_neg (by omega)]
  rw[e] at this;exact this
 have HS:=ah hsl;clear hsl;have e12:num ((l.take 14).drop 12)=cnt l:=by unfold cnt;rw[fG]
 have hcap:14<=cap:=by omega
 have c1:=V9 _ ((l.take 14).drop 12) w (HS.out _ (Ext.refl w) 12 14 (by omega) (by omega) (by omega) (by omega)) (by simp;omega);rw[e12] at c1;have vF:=ah c1;clear c1 e12;go_enter func32,ntmps32
 go_wp2_with fail
 refine vF.out.mono ?_;rintro e W ⟨rfl,hw⟩;subst hw;have c2:=QH _ (l.drop 4) w (by
  have:=HS.out _ (Ext.refl w) 4 l.length (by omega) (by omega) (aj _) (by omega);rw[bG] at this;exact this)
 have HC2:=ah c2;clear c2;have hw4:IntKind.i64.wrap (4*(cnt l:Int))=4*(cnt l:Int):=IntWalk.i64_in _ (by omega);have ov:IntKind.i64.wrap (14+4*(cnt l:Int))=14+4*(cnt l:Int):=IntWalk.i64_in _ (by omega);go_wp2_with fail
 refine HC2.out.mono ?_;rintro e W ⟨rfl,hw⟩;subst hw;by_cases c3:l.length=14+4*cnt l
 case neg=>
  have hd:aV l=none:=Y6 (UY (by omega));have hne:((l.length:Int) != 14+4*(cnt l:Int))=true:=by rw[bne,bn.2 (by omega)];rfl
  go_wp2;go_ret3
  exact⟨0,_,_,rfl,Ext.refl w,Or.inl ⟨hd,rfl,rfl,rfl⟩⟩
 have heq:((l.length:Int) != 14+4*(cnt l:Int))=false:=by rw[bne,dP.2 (by omega)];rfl
 have HL:=ah c3;clear c3;have c4:=V9 _ (l.take 4) w (by
  have:=(HB.out).sliced 0 4 (by omega) (by omega);rw[if_neg (by omega)] at this;exact this) (by simp;omega)
 have Ah:=ah c4;clear c4;have hm1:num (l.take 4)<4294967296:=O8 l 4;go_wp2_with fail
 refine Ah.out.mono ?_;rintro e W ⟨rfl,hw⟩;subst hw;have hwc:IntKind.u64.wrap (crc (l.drop 4):Int)=(crc (l.drop 4):Int):=by
  have:=Ew (l.drop 4);rw[IntKind.wrap_u64];omega
 by_cases hcr:crc (l.drop 4)=num (l.take 4)
 case neg=>
  have oK:((num (l.take 4):Int) != (crc (l.drop 4):Int))=true:=by rw[bne,bn.2 (by omega)];rfl
  have hd:aV l=none:=Y6 (R2 hcr);go_wp2;go_ret3
  exact⟨0,_,_,rfl,Ext.refl w,Or.inl ⟨hd,rfl,rfl,rfl⟩⟩
 have oK:((num (l.take 4):Int) != (crc (l.drop 4):Int))=false:=by rw[bne,dP.2 (by omega)];rfl
 have V_:=ah hcr;clear hcr;go_wp2;go_loopw [7,8] (λu i wr=>∃k:Nat,k<=cnt l/\i=.int .i64 k/\iQ wr w.heap.size u (Y5 l k)/\Ext w wr) (λ_ i _=>cnt l - (intOf i).toNat)
 case atStart=>exact⟨0,bU _,rfl,⟨rfl,Or.inl ⟨rfl,rfl⟩⟩,Ext.refl w⟩
 case round=>
  obtain⟨k,hk,rfl,hO,hE⟩:=hrel;by_cases hlt:k<cnt l
  ·have hl:=HL.out;have e4:num ((l.take (18+4*k)).drop (14+4*k))=yZ l k:=by unfold yZ;rw[fG];congr 2;omega
   have c5:=V9 (.slice (some (ad.add (14+4*k))) (18+4*k - (14+4*k)) (cap - (14+4*k))) ((l.take (18+4*k)).drop (14+4*k)) wr (by
    have:=(HB.out.ext hE).sliced (14+4*k) (18+4*k) (by omega) (by omega);rw[if_neg (by omega)] at this;exact this) (by simp;omega)
   rw[e4] at c5;have i6:=ah c5;have HO:=ah hO;have HE:=ah hE;have hix:=yq l k;have hwx:IntKind.i64.wrap (yZ l k:Int)=(yZ l k:Int):=IntWalk.i64_in _ (by omega);have hsn:(Y5 l (k+1)).map (Value.int .i64)=(Y5 l k).map (Value.int .i64)++[Value.int .i64 (yZ l k)]:=by rw[NA,bY];rfl
   have Rx:=ah hsn;have hk4:IntKind.i64.wrap (4*(k:Int))=4*(k:Int):=IntWalk.i64_in _ (by omega);have py:IntKind.i64.wrap (14+4*(k:Int))=14+4*(k:Int):=IntWalk.i64_in _ (by omega);have px:IntKind.i64.wrap (18+4*(k:Int))=18+4*(k:Int):=IntWalk.i64_in _ (by omega);have hlc:18+4*k<=cap:=by omega
   have hcl:cnt l<65536:=hcn;clear c5 hO hE e4 hsn hl heq oK;have hsz:=HE.out.size;obtain⟨ua,uc,rfl⟩:=ownsRow_form HO.out;go_wp2_with fail
   refine i6.out.mono ?_;rintro e W5 ⟨rfl,hw5⟩;subst hw5;go_wp2_with (at_builtin;go_must (refine D8 rfl _ _ 69 rfl w.heap.size 3 i0 (.int .i64 0) 1 8 underlying69 hi hz0 hz1 hz2 rfl (by omega) (.slice ua (Y5 l k).length uc) (Y5 l k).length _ rfl (HO.out.alloc (.cells #[.int .i64 (yZ l k)] 3)) (.slice (some ⟨wr.heap.size,0,none⟩) 1 1) 1 [.int .i64 (yZ l k)] rfl ⟨_,_,rfl,by omega,⟨by omega,λh=>by cases h⟩,λ_=>⟨_,rfl,World.news_of_block (cs:=#[.int .i64 (yZ l k)]) (t:=3) (fr:=(0,0)) (heap_alloc_new wr _)⟩⟩ rfl (by simp[Value.oneCell']) (by rw[Ve];unfold maxLen;omega) (by rw[Ve];omega) (by simp;omega) ?_);intro b6 c6 w6 hown6 hgrow6 jL;clear jL)
   have Om:iQ w6 w.heap.size (.slice b6 ((Y5 l k).length+1) c6) (Y5 l (k+1)):=by
    unfold iQ;rw[Rx.out,show(Y5 l (k+1)).length=(Y5 l k).length+1 by rw[Ve,Ve]];exact hown6
   have ni:Ext w w6:=Below.grown (HE.out.new _) hgrow6 (by simp;omega) (λr hr=>(HO.out.lt r hr).1);go_roundw
   case rel=>exact⟨k+1,by omega,by go_num,Om,ni⟩
   case measure=>simp[intOf];omega
  ·obtain rfl:k=cnt l:=by omega
   have hwf:∀n∈Y5 l (cnt l),(Lit.int .i64 n).wf=true:=λn hn=>FA (b33 l _ n hn);have c7:=Wc u7 (Y5 l (cnt l)) wr hO.ints;have HC7:=ah c7;have HO:=ah hO;have HE:=ah hE;clear c7 hO hE hwf;go_wp2_with fail
   refine HC7.out.mono ?_;rintro e W7 ⟨rfl,q,hq⟩;have uM:Ext wr W7:=by rw[hq];exact Ext.drewN _ _
   clear hq;have Yb:iQ W7 w.heap.size u7 (Y5 l (cnt l)):=ownsRow_below HO.out uM;have SA:Ext w W7:=Ext.trans HE.out uM;have Iq:=ah Yb;have du:=ah SA
   cases hok:nC (Y5 l (cnt l)) with
   | false=>
    have hd:aV l=none:=Y6 (RR hok);clear uM Yb SA;go_wp2;go_ret3
    exact⟨0,_,_,rfl,du.out,Or.inl ⟨hd,rfl,rfl,rfl⟩⟩
   | true=>
    have hd:aV l=some (num ((l.drop 4).take 8),Y5 l (cnt l)):=Wm BP HL.out V_.out hok;have c8:=V9 _ ((l.take 12).drop 4) W7 (HS.out _ SA 4 12 (by omega) (by omega) (by omega) (by omega)) (by simp;omega);rw[show num ((l.take 12).drop 4)=num ((l.drop 4).take 8) by rw[fG]] at c8;have HC8:=ah c8;have HD:=ah hd;clear uM Yb SA c8 hd;go_wp2_with fail
    refine HC8.out.mono ?_;rintro e W8 ⟨rfl,hw8⟩;subst hw8;go_wp2;go_ret3
    exact⟨_,_,_,rfl,du.out,Or.inr ⟨_,_,HD.out,rfl,rfl,Iq.out⟩⟩
end
section
open Go.RowKit Go.Lib Go.Maps Dk Pl
def CW(x:Int):List Value:=[.int .i64 x,.slice none 0 0,.int .i64 0]
def sj(w:World)(B b:Nat)(ids:List Int)(v:Value):Prop:=o8 w b 50 #[.int .u64 0,v]/\w.ownsRow B 54 3 v ids.length (ids.flatMap CW)
theorem b9Y(ids:List Int)(i:Nat)(x:Int)(h:ids[i]?=some x)(j:Nat)(hj:j<3):(ids.flatMap CW)[3*i+j]?=(CW x)[j]?:=by
 induction ids generalizing i with
 | nil=>simp at h
 | cons y l ih=>
  rw[iW]
  cases i with
  | zero=>
   simp at h;subst h
   rw[bH (by simp[CW];omega)];simp
  | succ i=>
   simp at h;rw[bF (by simp[CW];omega),show 3*(i+1)+j - (CW y).length=3*i+j by simp[CW];omega];exact ih i h
theorem sj.ids{w:World}{B b:Nat}{ids:List Int}{v:Value}(h:sj w B b ids v)(hl:ids.length<=1000):yk w b ids:=by
 obtain⟨h1,h2⟩:=h;have hm:maxLen<=9223372036854775807:=by unfold maxLen;omega
 rcases h2.2 with⟨rfl,h0⟩|⟨g,cap,cur,rfl,_,hb,h4,h5,h6,h7⟩
 ·refine⟨0,none,0,by rw[h0];exact h1,by omega,by omega,λi x hx=>?_⟩;have:=(aT.1 hx).1;omega
 ·refine⟨0,some ⟨g,0,none⟩,cap,h1,by omega,by omega,λi x hx=>⟨g,rfl,?_⟩⟩;have e:=b9Y ids i x hx 0 (by omega);rw[<-h7,dA] at e;split at e
  ·simp only[World.cell?,hb];rw[show i*3=3*i+0 by omega];simpa [CW] using e
  ·simp[CW] at e
theorem b9Z:(prog.info? 54).map (λi=>(i.zero,i.size,i.bytes))=some (some (.agg #[.int .i64 0,.slice none 0 0,.int .i64 0]),3,40):=by kernel_rfl
end
end Go.Proofs.YtgpbhjjajpbeeaaGreatDoor
