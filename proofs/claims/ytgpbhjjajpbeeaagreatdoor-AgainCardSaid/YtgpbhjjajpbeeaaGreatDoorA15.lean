/- A part of what the last file proves. -/
import Derived.Test.YtgpbhjjajpbeeaaGreatDoorA14
import Derived.StringKeys
set_option linter.all false
set_option maxRecDepth 100000
set_option maxHeartbeats 2000000
open Go.Proofs.Tryz
namespace Go.Proofs.YtgpbhjjajpbeeaaGreatDoor
open Go.RowKit Go.Lib Pl Go.Maps Dk Go.Extern
variable{B g i n r x:Nat}{v:aX}{C l:List Mv}{e k t:bT}{s:List UInt8×Bool}{L:fC}{W f:aB}{P:Program}{G:tyP}{α β γ:Type}{b:dV}
def jd(w:aB)(B:Nat)(v:aX)(l:fC):Prop:=w.ownsRow B 3 1 v l.length (l.map (Value.int .i64))
theorem jd.ints{w:aB}{l:fC}(h:jd w B v l):Ints w v l:=by
 obtain⟨rfl,e⟩|⟨g,a,c,rfl,p,o,d,k,m,n⟩:=h.2
 have:=dL e;subst this;exact⟨none,0,rfl,aZ,⟨aj,λ_=>rfl⟩,aZ⟩
 exact⟨some _,a,rfl,d,⟨qc,λh=>by cases h⟩,λ_=>⟨_,rfl,λi x f=>h.cells rfl i x f⟩⟩
def c8N(r:Option (Nat×List Int))(w:aB)(e:Ending)(w':aB):Prop:=
 ∃g v y,e=.returned (.tuple #[.agg #[.int .u64 g,v],y])/\Ext w w'/\
  ((r=none/\g=0/\v=.slice none 0 0/\y=lK 6)\/(∃b a,r=some (b,a)/\g=(b:Int)/\y=.nilIface/\jd w' w v a))
def CX(w a:aB)(rb b g:Nat)(s:List UInt8×Bool)(L:fC)(v:aX):Prop:=
 J4 a rb w s.1 s.2/\o6 a w 125 #[.int .u64 0,.slice none 0 0]/\o6 a b 125 #[.int .u64 g,v]/\jd a w v L/\Ext w a/\w<rb/\rb<b
theorem CX.off{w k d:aB}{rb l:Nat}{s':List UInt8×Bool}(h:CX w k rb l g s L v)(a:Off rb k d)(y:J4 d rb w s'.1 s'.2):CX w d rb l g s' L v:=by
 let⟨t,u,B,n,o,z,A⟩:=h;let⟨C,i,_,_⟩:=t;refine⟨y,a.box u aj,a.box B<|aj,?_,Below.trans o (a.below<|aj),z,A⟩;let⟨p,f⟩:=n;refine⟨p,?_⟩;obtain f|⟨m,b,j,rfl,x,q,r⟩:=f
 exact Or.inl f
 exact Or.inr ⟨m,b,j,rfl,x,(a.block m<|fU).trans q,r⟩
def CX.ext{w m j:aB}{rb n g:Nat}{s:List UInt8×Bool}{L:fC}{v:aX}(h:CX w m rb n g s L v)(a:Ext m j):CX w j rb n g s L v:=have⟨o,l,k,r,p,u,q⟩:=h;have⟨t,b,e,d⟩:=o;have f:=lt_of_block b;⟨⟨t,(a.block _ f).trans b,e,d.below (a.mono<|aj)⟩,l.below a (lt_of_block l),k.below a (lt_of_block k),ownsRow_below r a,.trans p a,u,q⟩
theorem CX.grow{w D w0 d:aB}{rb c:Nat}{v':aX}(h:CX w D rb c g s L v)(x:Ext D w0)(a:w0.grownBy d v.ownBlock)
 {xs:jl}(b:d.ownsRow w 3 1 v' n xs){L':fC}(H:n=L'.length)(J:xs=L'.map (Value.int .i64)):
 o6 d c 125 #[.int .u64 g,v]/\CX w (d.setCell ⟨c,1,none⟩ v') rb c g s L' v':=by
 subst H;subst J;let⟨M,z,A,o,q,G,I⟩:=h.ext x;let⟨K,f,B,u⟩:=M;have t:=lt_of_block A;have p:o6 d _ 125 _:=(a.block _ (lt_of_block z)<|dI (ownsRow_ne o z dA)).trans z;have i:o6 d c 125 _:=(a.block c t<|dI (ownsRow_ne o A dA)).trans A;have e:=λk N=>(o.lt k N).1;have r:Ext w d:=Below.grown q a aj e;refine⟨i,⟨K,?_,B,?_⟩,?_,i.set 1 v',?_,r.qF<|iw,G,I⟩
 rw[Below.heap_setCell _ _ _ _ iw];exact ((a.block rb (lt_of_block f) (dI (ownsRow_ne o f dA))).trans f)
 exact u.below (((Below.refl _ w0).grown a aj e).setCell iw _)
 apply p.setOther iw
 apply ownsRow_setCell_other (a:=⟨c,1,none⟩) b (ownsRow_ne b i<|dA)
def c4T{w:aB}{d c:aX}(b:o6 w n 125 #[d,c])(h:jd w B v L)(g:Nat)(v':aX):
 jd ((w.setCell n (.int .u64 g)).setCell ⟨n,1,none⟩ v') B v L:=have a:=ownsRow_ne h b dA;ownsRow_setCell_other (ownsRow_setCell_other h a _) a _
theorem b4y(v:aX)(l:dV)(w:aB)(h:Bytes w v l):
 Calls prog 94 #[v] w (c8N (bF l) w):=by
 obtain⟨⟨m1,s1⟩,e1⟩:∃p,p=nT (l,false) 4:=⟨_,rfl⟩;obtain⟨⟨gen,s2⟩,e2⟩:∃p,p=nT s1 8:=⟨_,rfl⟩;obtain⟨⟨n,s3⟩,e3⟩:∃p,p=nT s2 2:=⟨_,rfl⟩;obtain⟨hn,hall⟩:=rd3 e1 e2 e3;have HA:=ah hall;clear hall;have E1:=ah e1;have E2:=ah e2;have E3:=ah e3;clear e1 e2 e3;obtain⟨i0,hi,hz0,hz1,hz2⟩:=info_parts WY;obtain⟨a,cap,rfl,h1,h2,h3⟩:=id h;have HL:=ah (rY.of h);clear h h2 h3;go_enter func94,ntmps94
 go_wp2_with fail
 have x0:o6 (w.alloc (.cells #[.int .u64 0,.slice none 0 0] 125)) w 125 #[.int .u64 0,.slice none 0 0]:=heap_alloc_new w _;have X:=x0.alloc (.cells #[.slice a l.length cap,.bool false] 241);have kR:Ext w ((w.alloc (.cells #[.int .u64 0,.slice none 0 0] 125)).alloc (.cells #[.slice a l.length cap,.bool false] 241)):=((dh w).new _).new _;have hR:J4 ((w.alloc (.cells #[.int .u64 0,.slice none 0 0] 125)).alloc (.cells #[.slice a l.length cap,.bool false] 241)) (w+1) w l false:=by refine⟨.slice a l.length cap,?_,aj,HL.out.below kR⟩;exact jR _ _ aZ
 clear x0;have c1:=cM (w+1) w 4 (l,false) _ hR aj;rw[<-E1.out] at c1;refine c1.mono ?_;clear c1 hR;rintro e w1 ⟨rfl,hR,hb⟩;replace kR:=Below.trans kR (hb.below aj);replace X:=hb.box X aj;clear hb;go_wp2_with fail
 have c2:=cM (w+1) w 8 s1 _ hR aj;rw[<-E2.out] at c2;refine c2.mono ?_;clear c2 hR;rintro e w2 ⟨rfl,hR,hb⟩;replace kR:=Below.trans kR (hb.below aj);replace X:=hb.box X aj;clear hb;obtain⟨mb,hmb⟩:∃mb,mb=w2.heap.size:=⟨_,rfl⟩;have hlt:w.heap.size+1<mb:=by obtain⟨_,hr,_⟩:=hR;rw[hmb];exact lt_of_block hr
 go_wp2_with fail
 have hS0:CX w (w2.alloc (.cells #[.int .u64 gen,.slice none 0 0] 125)) (w+1) mb gen s2 [] (.slice none 0 0):=by have hE2:Ext w2 (w2.alloc (.cells #[.int .u64 gen,.slice none 0 0] 125)):=(dh _).new _;obtain⟨rv,hr1,hr2,hr3⟩:=hR;refine⟨⟨rv,?_,hr2,hr3.below (hE2.mono (by have:=kR.size;omega))⟩,X.alloc _,jR _ _ hmb.symm,⟨rfl,Or.inl ⟨rfl,rfl⟩⟩,Ext.new kR _,aj,hlt⟩;exact(hE2.block _ (lt_of_block hr1)).trans hr1
 rw[<-hmb];have c3:=cM (w+1) w 2 s2 _ hS0.1 aj;rw[<-E3.out] at c3;refine c3.mono ?_;clear c3 hR kR X;rintro e w3 ⟨rfl,hR,hb⟩;have hS:=hS0.off hb hR;clear hS0 hb hR;clear hmb;have hU:Gx l 0 s3 []:=by
  rcases HA.out with⟨h1,_,h3⟩|⟨h1,h2,_⟩
  ·exact Or.inr ⟨h3,Or.inl h1⟩
  ·exact Or.inl ⟨h2,aj,rfl⟩
 have hN:s3.2=false->n=cnt l/\14<=l.length/\m1=num (l.take 4)/\gen=num ((l.drop 4).take 8):=by
  intro hf;rcases HA.out with⟨_,_,h3⟩|⟨h1,_,h3,h4,h5⟩
  ·rw[h3] at hf;cases hf
  ·exact⟨h5,h1,h3,h4⟩
 have hN0:n<=cnt l/\(s3.2=true->n=0):=by
  rcases HA.out with⟨_,h2,_⟩|⟨_,h2,_,_,h5⟩
  ·exact⟨aj,λ_=>h2⟩
  ·exact⟨aj,λh=>by rw[h2] at h;cases h⟩
 have HN:=ah hN;have HN0:=ah hN0;have HS:=ah hS;have HU:=ah hU;clear hN hN0 hS hU HA E1 E2 E3;go_wp2;go_loopw [7] (λc wr=>∃(k:Nat)(s:List UInt8×Bool)(L:fC)(v:aX),k<=n/\c=.int .u64 ((n:Int) - k)/\L.length=k/\(∀x∈L,(Lit.int .i64 x).wf=true)/\Gx l k s L/\(s3.2=true->s.2=true)/\CX w wr (w+1) mb gen s L v) (λc _=>(intOf c).toNat)
 case atStart=>exact⟨0,s3,[],.slice none 0 0,dD _,aZ,rfl,aZ,HU.out,λh=>h,HS.out⟩
 case round=>
  clear HS HU;obtain⟨k,s,L,v,hk,rfl,hLk,hwf,hU,hs3,hSt⟩:=hrel;obtain⟨rv,hr1,hr2,hr3⟩:=id hSt.1;obtain⟨Yy,OU,jz,ju⟩:=Qp hr1;have xc0:=hSt.2.1.cell 0;have ny:=hSt.2.1.cell 1;have xf0:=hSt.2.1.free 0;have xf1:=hSt.2.1.free 1;have TX:=hSt.2.2.1.cell 0;have TO:=hSt.2.2.1.cell 1;have mf1:=hSt.2.2.1.free 1;have AL:=ah hSt;have HU:=ah hU;have HW:=ah hwf;have HR3:=ah hr3;clear hSt hU hwf hr1 hr2 hr3 jz ju;by_cases hbad:s.2=true
  ·have hd:bF l=none:=X8 (HU.out.bad hbad);rw[hbad] at OU;have HX:=ah AL.out.2.2.2.2.1;clear AL HU HN HN0;by_cases hkn:k<n
   ·go_wp2;refine bodyPost_ret (v:=.tuple #[.agg #[.int .u64 0,.slice none 0 0],lK 6]) (by simp[results,results94,go_sem,xc0,ny,lK]) rfl ⟨0,_,_,rfl,?_,Or.inl ⟨hd,rfl,rfl,rfl⟩⟩;repeat' refine jP ?_ aZ
    exact HX.out
   ·go_wp2;refine bodyPost_ret (v:=.tuple #[.agg #[.int .u64 0,.slice none 0 0],lK 6]) (by simp[results,results94,go_sem,xc0,ny,lK]) rfl ⟨0,_,_,rfl,?_,Or.inl ⟨hd,rfl,rfl,rfl⟩⟩;repeat' refine jP ?_ aZ
    exact HX.out
  ·have hbf:s.2=false:=zN.2 hbad;rw[hbf] at OU;have TM:s3.2=false:=by
    cases h:s3.2 with
    | false=>rfl
    | true=>rw[hs3 h] at hbf;cases hbf
   obtain⟨hnc,mL,hm1,hgen⟩:=HN.out TM;have Ic:=ah hm1;have M5:=ah hgen;have HNC:=ah hnc;have uf:=ah hLk;clear hm1 hgen hLk;by_cases hkn:k<n
   ·obtain⟨⟨x,s'⟩,ex⟩:∃p,p=nT s 4:=⟨_,rfl⟩;obtain⟨hx32,Z2⟩:=HU.out.step hbf aj ex;have hwx:IntKind.i64.wrap (x:Int)=(x:Int):=IntWalk.i64_in _ aj;have hLn:L.length<65536:=by have:=uf.out;omega
    clear hnc;have hcall:=cM (w+1) w 4 s wr.drew (by obtain⟨q1,q2,q3,q4⟩:=AL.out.1;exact⟨q1,q2,q3,q4.below ((Below.refl _ _).drew)⟩) aj
    rw[<-ex] at hcall;have HU':=ah Z2;have HC:=ah hcall;have HEX:=ah ex;clear Z2 hcall ex;have hn16:n<65536:=hn;go_wp2_with fail
    go_region_law (first|(go_simp;go_at_call 126;refine HC.out.mono ?_;rintro e w5 ⟨rfl,Gm,hb5⟩;have hS5:=ah ((AL.out.ext (Below.drew (dh wr))).off hb5 Gm);have m5:=hS5.out.2.2.1.cell 1;have mf5:=hS5.out.2.2.1.free 1;have ma5:=(hS5.out.2.2.1.alloc (.cells #[.int .i64 x] 3)).cell 1;clear Gm hb5)|(refine step_append_lies _ rfl _ _ _ rfl w 3 i0 _ 1 8 underlying69 hi hz0 hz1 hz2 rfl aj v L.length (L.map (Value.int .i64)) rfl (hS5.out.2.2.2.1.alloc _) w5 1 1 [_] rfl rfl (World.news_of_block (cs:=#[_]) (t:=3) (fr:=(0,0)) (heap_alloc_new w5 _)) qV aj lJ aj (by have:=hS5.out.2.2.2.2.1.size;simp;omega) (w5+1) aZ ?_;intro gg cap6 w6 hown6 hgrow6 kZ mB;have HST:=ah (hS5.out.grow (L':=L++[(x:Int)]) (Ext.new (dh w5) _) hgrow6 hown6 aZ aZ);have m6:=HST.out.1.cell 1;have mf6:=HST.out.1.free 1))
    all_goals
     go_wp2;go_roundw
     case rel=>
      have hwf':∀y∈L++[(x:Int)],(Lit.int .i64 y).wf=true:=by
       intro y hy;rcases aP.1 hy with h|h
       ·exact HW.out y h
       ·simp only[dB] at h;subst h;exact ZU ⟨aj,aj⟩
      have lR:s3.2=true->s'.2=true:=λh=>absurd (h.symm.trans TM) dA;exact⟨k+1,s',L++[(x:Int)],_,aj,iE,by have:=uf.out;simp;omega,hwf',HU'.out,lR,HST.out.2⟩
     case measure=>simp[intOf];omega
   ·obtain rfl:k=n:=aj
    obtain⟨ra,qa1,rfl,hrc,TP,-⟩:=HR3.out.1.open;rw[hnc] at HU;obtain⟨hrest,hlen,oY⟩:=HU.out.all hbf;have hrl:s.1.length=l.length - (14+4*cnt l):=by rw[hrest];simp
    rw[hrl] at Yy;have HX:=ah AL.out.2.2.2.2.1;by_cases hlong:14+4*cnt l<l.length
    ·have hd:bF l=none:=X8 (Xv aj);clear AL HU HN HN0;go_wp2;refine bodyPost_ret (v:=.tuple #[.agg #[.int .u64 0,.slice none 0 0],lK 6]) (by simp[results,results94,go_sem,xc0,ny,lK]) rfl ⟨0,_,_,rfl,?_,Or.inl ⟨hd,rfl,rfl,rfl⟩⟩;repeat' refine jP ?_ aZ
     exact HX.out
    ·have hl:l.length=14+4*cnt l:=aj
     have hsl:∀W:aB,Below w w W->Bytes W (.slice (a.map (λx=>⟨x.block,x.off+4,none⟩)) (l.length - 4) (cap - 4)) (l.drop 4):=by
      intro W hW;have:=((HL.out.below hW).sliced 4 l.length aj aj).1;rw[if_neg aj,bK] at this;have e:a.map (λx=>x.add 4)=a.map (λx=>⟨x.block,x.off+4,none⟩):=by congr 1
      rw[<-e];exact this
     have HS:=ah hsl;clear hsl;have hs4:(4:Nat)<=l.length:=aj
     have hs5:l.length<=cap:=h1;have hs6:¬cap=4:=aj
     have hm4:m1<4294967296:=by rw[Ic.out];exact O3 l 4
     have hcall:=PM (H:=Unit) v L wr AL.out.2.2.2.1.ints HW.out;have am:Q7 L=Q7 (pz l (cnt l)):=by rw[oY]
     have UJ:jd wr w v L:=AL.out.2.2.2.1;have HO:=ah UJ;have HSS:=ah (HS.out wr HX.out);rw[hl] at HSS;have hw3:∀c:Nat,c<4294967296->IntKind.u64.wrap (c:Int)=(c:Int):=λc h=>yT
     have hwc:=hw3 _ (Ep (l.drop 4));have hne:(¬crc (l.drop 4)=m1->((crc (l.drop 4):Int) != (m1:Int))=true)/\(crc (l.drop 4)=m1->((crc (l.drop 4):Int) != (m1:Int))=false):=
      ⟨λh=>IW,λh=>IV⟩
     have JG:=ah hne;have HC:=ah hcall;have HII:=ah am;have HLL:=ah oY;clear mL hw3 hne hcall am oY UJ HS;go_wp2_with fail
     refine(sum_any _ _ _ HSS.out).mono ?_;rintro e w8 ⟨rfl,hw⟩;subst hw;by_cases hcr:crc (l.drop 4)=m1
     ·have rF:=JG.out.2 hcr;obtain⟨va,vc,rfl⟩:=ownsRow_form HO.out;go_wp2_with fail
      refine HC.out.mono ?_;rintro e w9 ⟨rfl,qh⟩;have X9:=AL.out.2.1.below qh (lt_of_block AL.out.2.1);have M9:=AL.out.2.2.1.below qh (lt_of_block AL.out.2.2.1);have OW:jd w9 w (.slice va L.length vc) L:=ownsRow_below HO.out qh;have hOe:=c4T X9 OW gen (.slice va L.length vc);have hE:Ext w w9:=lI HX.out qh;have HXE:=ah hE;have QN:=ah OW;clear xc0 ny xf0 xf1 TX TO mf1 Yy OU hE OW qh;have xc0:=X9.cell 0;have ny:=X9.cell 1;have xf0:=X9.free 0;have xf1:=X9.free 1;have TX:=M9.cell 0;have TO:=M9.cell 1;clear X9 M9
      cases hok:Q7 L with
      | false=>
       have hd:bF l=none:=X8 (JS (by rw[<-HII.out];exact hok));go_wp2;refine bodyPost_ret (v:=.tuple #[.agg #[.int .u64 0,.slice none 0 0],lK 6]) (by simp[results,results94,go_sem,xc0,ny,lK]) rfl ⟨0,_,_,rfl,?_,Or.inl ⟨hd,rfl,rfl,rfl⟩⟩;repeat' refine jP ?_ aZ
       exact HXE.out
      | true=>
       have hd:bF l=some (num ((l.drop 4).take 8),pz l (cnt l)):=E9 aj hl (by rw[<-Ic.out];exact hcr) (by rw[<-HII.out];exact hok);have HD:=ah hd;clear hd;go_wp2;refine bodyPost_ret (v:=.tuple #[.agg #[.int .u64 gen,.slice va L.length vc],.nilIface]) (by simp[results,results94,go_sem,xc0,ny]) rfl ⟨(gen:Int),_,_,rfl,?_,Or.inr ⟨gen,L,?_,rfl,rfl,?_⟩⟩
       ·repeat' refine jP ?_ aZ
        exact HXE.out
       ·rw[HD.out,M5.out,HLL.out]
       ·exact hOe
     ·have rF:=JG.out.1 hcr;have hd:bF l=none:=X8 (J' (by rw[<-Ic.out];exact hcr));go_wp2;refine bodyPost_ret (v:=.tuple #[.agg #[.int .u64 0,.slice none 0 0],lK 6]) (by simp[results,results94,go_sem,xc0,ny,lK]) rfl ⟨0,_,_,rfl,?_,Or.inl ⟨hd,rfl,rfl,rfl⟩⟩;repeat' refine jP ?_ aZ
      exact HX.out
def yZ(F:Value->Prop)(w:aB)(v:aX):Prop:=∀g c e a,v.ownBlock=some g->w.heap[g]?=some (.cells c e a)->∀x∈c,F x
def isByte(x:aX):Prop:=∃k:Int,x=.int .u8 k
abbrev wS(w:aB)(v:aX):Prop:=yZ isByte w v
theorem wS.nil(w:aB)(n c:Nat):wS w (.slice none n c):=λg c e a h=>by cases h
def yZ.keep{F:Value->Prop}{w w':aB}(h:yZ F w v)(f:∀g,v.ownBlock=some g->w'.heap[g]?=w.heap[g]?):yZ F w' v:=λg c e b a d=>h g c e b a<|f g a▸d
theorem EQ(l:dV):∀x∈l.map eG,isByte x:=by intro x a;obtain⟨b,_,rfl⟩:=aQ.1 a;exact⟨_,rfl⟩
theorem XX{F:Value->Prop}{z:dU}(h:∀x∈z,F x)(n:Nat):∀x∈Builtin.zeroCells z n,F x:=by intro x c;obtain⟨i,b,rfl⟩:=iT.1 c;have a:i%z.size<z.size:=MZ _ fU;grind
theorem a9s{F:Value->Prop}(w:aB)(E:Nat)(t L e:bT)(i:TypeInfo)(z:aX)(k bytes:Nat)(M:P.underlying t=some (.slice e))(R:P.info? e=some i)(hz:i.zero=some z)
 (H:i.size=k)(Y:i.bytes=bytes)(hzs:z.cells.size=k)(hsz:0<k)
 (v:aX)(n:Nat)(xs:jl)(r:w.ownsRow E e k v n xs)(x:aX)(m:Nat)(d:jl)(hx:vF w x m d)(O:d.length=m*k)(h1:∀u∈d,u.oneCell'=true)
 (T:n+m<=maxLen)(s:(n+m)*bytes<=140737488355328)(Fz:∀x∈z.cells,F x)(Fn:∀x∈d,F x)(Fo:yZ F w v){v':aX}{w':aB}(D:(Builtin.append_ #[t,t] L #[v,x]).run P w=.ok v' w'):yZ F w' v':=by
 subst H;subst Y;have U:n+m<=9223372036854775807:=by simp only[maxLen] at T;omega
 obtain⟨a,c,rfl,hc1,⟨hc2,Z⟩,hc⟩:=hx
 cases a with
 | none=>
  obtain rfl:=Z rfl;obtain rfl:m=0:=aj
  rw[run_append_owned_none (P:=P) (w:=w) E t L e i i.size M R v n xs r] at D;injection D with p C;subst p;subst C
  exact Fo
 | some Q=>
  have q:∀j u,d[j]?=some u->w.cell? (Q.add j)=some u:=by intro j u hu;obtain⟨b,N,V⟩:=hc (by intro e;subst e;simp at hu);injection N with N;subst N;exact V j u hu
  obtain⟨rfl,rfl⟩|⟨g,K,l,rfl,hbg,G,hnc,hcm,W,J⟩:=r.2
  ·by_cases hm:m=0
   subst hm;have hn:d=[]:=dL (by simpa using O);subst hn;have I:(Builtin.append_ #[t,t] L #[.slice none 0 0,.slice (some Q) 0 c]).run P w=.ok (.slice none 0 0) w:=by simp[Builtin.append_,run_underlying M,sizeOf,typeInfo,R,Builtin.lenOf,Builtin.firstCells,loadCells,loadCellsFrom]
   rw[I] at D;injection D with p C;subst p;exactλg c e X h=>by cases h
   ·have I:=run_append_nil (P:=P) w t L e i z M R hz Q m c d O q aj aj (by have N:=s;simp only[nS] at N;omega);rw[I] at D;injection D with p C;subst p;subst C;intro g c e' X B f y S;obtain rfl:w.heap.size=g:=by simpa [Value.ownBlock] using B
    rw[show(w.drew.alloc (.cells _ e)).heap[w.heap.size]?=some (.cells _ e) from heap_alloc_new w.drew _] at f;injection f with f;injection f with p C e3;subst p;obtain h|h:=dW.1 S
    exact Fn y (by simpa using h)
    exact XX Fz _ y h
  have Fc:∀x∈l,F x:=Fo g l e (0,0) rfl G;by_cases A:n+m<=K
  rw[(run_append_room (P:=P) w t L e i M R g n K l G Q m c d O q h1 A (by rw[O,W,<-Nat.add_mul];exact fH _ A))] at D;injection D with p C;subst p;subst C;intro g' c e' X B f y S;obtain rfl:g=g':=by simpa [Value.ownBlock] using B
  rw[setRow_heap w g l _ e _ G] at f;injection f with f;injection f with p C e3;subst p;have hy':y∈l.toList.take (n*i.size)++d++l.toList.drop (n*i.size+d.length):=by simpa using S
  obtain h|h:=aP.1 hy'
  ·obtain h|h:=aP.1 h
   exact Fc y (by simpa using List.mem_of_mem_take h)
   exact Fn y h
  exact Fc y (by simpa using List.mem_of_mem_drop h)
  rw[(run_append_grow (P:=P) w t L e i z M R hz g n K xs r.1 (r.cells (g:=g) rfl) Q m c d O q aj aj (growslice_fits aj s))] at D;injection D with p C;subst p;subst C;intro g' c e' X B f y S;obtain rfl:w.heap.size=g':=by simpa [Value.ownBlock] using B
  rw[show ∀o,(w.drew.alloc o).heap[w.heap.size]?=some o from λo=>heap_alloc_new w.drew _] at f;injection f with f;injection f with p C e3;subst p;obtain h|h:=dW.1 S
  obtain h|h:=dW.1 h
  exact Fc y fU
  simp_all
  exact XX Fz _ y h
theorem dz{F:Value->Prop}{w:aB}{ops:Array Oper}{rest:List Oper}{o:Oper}{a:Act}{Q:Exit->Act->World->Prop}(D:o.guard=none)(s x:Operand)(t:bT)
 (W:o.op=.call {callee:=.builtin .append,args:=#[s,x],argTypes:=#[t,t]})
 (g:Nat)(e:bT)(i:TypeInfo)(z:aX)(d bytes:Nat)(J:P.underlying t=some (.slice e))(G:P.info? e=some i)(H:i.zero=some z)
 (k:i.size=d)(C:i.bytes=bytes)(A:z.cells.size=d)(r:0<d)
 (v:aX)(n:Nat)(xs:jl)(O:a.eval s=v)(p:w.ownsRow g e d v n xs)(y:aX)(m:Nat)(f:jl)(V:a.eval x=y)(L:vF w y m f)(I:f.length=m*d)(E:∀u∈f,u.oneCell'=true)
 (B:n+m<=maxLen)(j:(n+m)*bytes<=140737488355328)(q:g<=w)(N:∀x∈z.cells,F x)(Fn:∀x∈f,F x)(S:yZ F w v)
 (h:∀b c w',w'.ownsRow g e d (.slice b (n+m) c) (n+m) (xs++f)->w.grownBy w' v.ownBlock->((Value.slice b (n+m) c).ownBlock=v.ownBlock\/(Value.slice b (n+m) c).ownBlock=some w.heap.size)->yZ F w' (.slice b (n+m) c)->wpList P ops Q rest (a.put o.dst (.slice b (n+m) c)) w'):
 wpList P ops Q (o::rest) a w:=by
 refine wpList_plain D λK T=>?_;let⟨Y,w',l,M,U,R⟩:=WN w g t o.type e i z d bytes J G H k C A r v n xs p y m f L I E B j q;obtain⟨b,c,rfl⟩:=ownsRow_form M;unfold Oper.wp execOp;simp[W,resolve,invoke,builtin,Sem.run_bind,Sem.run_pure,Result.andThen_ok,fM,bD,dS,O,V,l];exact T _ _ (h b c w' M U R (a9s w g t _ e i z d _ J G H k C A r v n xs p y m f L I E B j N Fn S l))
def bJ(l:Nm):Value:=.string ⟨l.toArray⟩
def l9(x:Nat):Value:=.pointer (some x)
theorem U0(x y:Nm)(h:bJ x=bJ y):x=y:=by unfold bJ at h;grind
def X0:Keyed prog 9:=string_keyed underlying9
theorem vI{l:Nm}(h:l.length<=maxLen):keyOf prog 9 (bJ l)=some (.string l):=by
 have a:(⟨l.toArray⟩:ByteArray).size<=maxLen:=by trivial
 simp[keyOf,mapKey,bJ,a]
def rG:Option Nat->Value
 | none=>.pointer none
 | some x=>l9 x
def lU(m:Mv):List Value:=[bJ m.1,rG m.2]
def sU(w:aB)(g:Nat)(l:List Mv):Prop:=o6 w g 251 (l.flatMap lU).toArray
def rU(g:Nat)(l:List Mv):Value:=.slice (some ⟨g,0,none⟩) l.length l.length
def Wx(a:List Nat)(x:aX):Prop:=x=.slice none 0 0\/∃g n,g∈a/\x=.slice (some ⟨g,0,none⟩) n n
abbrev Em(w:aB)(r:Nat)(l:List (Nm×Nat)):Prop:=MapOf prog 9 bJ l9 w r l
structure dM(w:World)(F:Nat->Prop)(a m1 m2:Nat)(mv:Value)(gs:List Nat)(dv:Nat->Value)(d:D):Prop where
 box:o6 w a 174 #[.map (some m1),.map (some m2),mv,.int .i64 d.room,.int .i64 d.wait,.int .i64 d.bad]
 now:Em w m1 d.now
 safe:Em w m2 d.safe
 ne:m1≠m2
 rows:gs.length=d.moves.length/\∀(i:Nat)(g:Nat)(l:List Mv),gs[i]?=some g->d.moves[i]?=some l->sU w g l
 outer:w.ownsRow 0 187 1 mv d.moves.length ((gs.zip d.moves).map λp=>rU p.1 p.2)
 file:∀x∈d.ids,o6 w x 176 #[dv x,.int .i64 (d.node x).safe]/\OwnB w 0 (dv x) (d.node x).data
 apart:∀x∈d.ids,∀y∈d.ids,x≠y->∀b,(dv x).ownBlock=some b->(dv y).ownBlock≠some b
 fa:F a
 fm:F m1/\F m2
 fg:∀g∈gs,F g
 fo:∀b,mv.ownBlock=some b->F b
 fx:∀x∈d.ids,F x/\∀b,(dv x).ownBlock=some b->F b
 nC:yZ (Wx gs) w mv
 flat:∀x∈d.ids,wS w (dv x)
 low:∀b,F b->b<w.heap.size
 wf:d.Wf
 num:d.wait<=9223372036854775807/\d.bad<=9223372036854775807/\-4611686018427387904<=d.room/\d.room<=4611686018427387904
def o7(w:aB)(F:tyP)(a:Nat)(d:D):Prop:=∃e f b g c,dM w F a e f b g c d
section
variable{w w':World}{F:Nat->Prop}{a m1 m2:Nat}{mv:Value}{gs:List Nat}{dv:Nat->Value}{d:D}
def dM.frame(h:dM w F a m1 m2 mv gs dv d)(e:∀b,F b->w'.heap[b]?=w.heap[b]?)(m:w.heap.size<=w'):dM w' F a m1 m2 mv gs dv d where
 box:=(e a h.fa).trans h.box
 now:=h.now.block<|e _ h.fm.1
 safe:=h.safe.block<|e _ h.fm.2
 ne:=h.ne
 rows:=⟨h.rows.1,λi g l j k=>(e g (h.fg g<|aH j)).trans<|h.rows.2 i g l j k⟩
 outer:=jH.row h.outer w' λb c=>e b<|h.fo b c
 file:=λx f=>⟨(e x (h.fx x f).1).trans (h.file x f).1,jH.row (h.file x f).2 w' λb c=>e b<|(h.fx x f).2 b c⟩
 apart:=h.apart
 fa:=h.fa
 fm:=h.fm
 fg:=h.fg
 fo:=h.fo
 fx:=h.fx
 nC:=h.nC.keep λb c=>e b<|h.fo b c
 flat:=λx f=>(h.flat x f).keep λb c=>e b<|(h.fx x f).2 b c
 low:=λb c=>aF (h.low b c) m
 wf:=h.wf
 num:=h.num
def dM.ext(h:dM w F a m1 m2 mv gs dv d)(c:Ext w w'):dM w' F a m1 m2 mv gs dv d:=h.frame (λb e=>c.block b<|h.low b e) c.size
def o7.ext(h:o7 w F a d)(b:Ext w w'):o7 w' F a d:=have⟨m1,m2,mv,gs,dv,h⟩:=h;⟨m1,m2,mv,gs,dv,h.ext b⟩
def o7.frame(h:o7 w F a d)(c:∀b,F b->w'.heap[b]?=w.heap[b]?)(e:w.heap.size<=w'):o7 w' F a d:=have⟨m1,m2,mv,gs,dv,h⟩:=h;⟨m1,m2,mv,gs,dv,h.frame c e⟩
def o7.low(h:o7 w F a d):∀b,F b->b<w.heap.size:=have⟨m1,m2,mv,gs,dv,h⟩:=h;h.low
def o7.wf(h:o7 w F a d):d.Wf:=have⟨m1,m2,mv,gs,dv,h⟩:=h;h.wf
def dM.more(h:dM w F a m1 m2 mv gs dv d)(c:∀b,F b->G b)(j:∀b,G b->b<w.heap.size):dM w G a m1 m2 mv gs dv d:=
 {h with fa:=c _ h.fa,fm:=⟨c _ h.fm.1,c _ h.fm.2⟩,fg:=λg i=>c _<|h.fg g i,fo:=λb e=>c _<|h.fo b e,fx:=λx f=>⟨c _ (h.fx x f).1,λb e=>c _<|(h.fx x f).2 b e⟩,low:=j}
theorem dM.jK(h:dM w F a m1 m2 mv gs dv d){cs:dU}(b:o6 w n t cs):m1≠n/\m2≠n:=by
 constructor
 rintro rfl;let⟨f,c,e,_⟩:=h.now;unfold o6 at b;rw[e] at b;cases b
 let⟨f,c,e,_⟩:=h.safe;unfold o6 at b;grind
theorem U2{size:Nat}{xs:jl}{kf:α->Value}{vf:β->Value}{l:List (α×β)}(h:w.ownsRow B e size v n xs)(d:MapOf P k kf vf w r l):v.ownBlock≠some r:=by
 intro a;let⟨o,c,f,_⟩:=d;obtain⟨rfl,_⟩|⟨g,j,i,rfl,m,b,_⟩:=h.2
 cases a
 simp[Value.ownBlock] at a;grind
theorem LY{d e:Nat}{b c:bT}{g i:dU}(f:o6 w d b g)(a:o6 w e c i)(h:b≠c):d≠e:=by unfold o6 at f a;grind
def I4{size:Nat}{m:Nat}{xs:jl}{cs:dU}(h:w.ownsRow B e size v n xs)(a:o6 w m t cs)(b:t≠e):v.ownBlock≠some m:=ownsRow_ne h a b
theorem dM.VT(h:dM w F a m1 m2 mv gs dv d)(k:Off a w w'){f:D}(o:o6 w' a 174 #[.map (some m1),.map (some m2),mv,.int .i64 f.room,.int .i64 f.wait,.int .i64 f.bad])
 (e1:f.now=d.now)(r:f.safe=d.safe)(n:f.moves=d.moves)(j:f.ids=d.ids)(p:f.node=d.node)(t:f.wait<=9223372036854775807/\f.bad<=9223372036854775807/\-4611686018427387904<=f.room/\f.room<=4611686018427387904):dM w' F a m1 m2 mv gs dv f where
 box:=o
 now:=by rw[e1];exact h.now.off k (h.jK h.box).1
 safe:=by rw[r];exact h.safe.off k (h.jK h.box).2
 ne:=h.ne
 rows:=by rw[n];exact⟨h.rows.1,λi g l q s=>(k.block g (LY (h.rows.2 i g l q s) h.box<|dA)).trans<|h.rows.2 i g l q s⟩
 outer:=by rw[n];exact jH.row h.outer w' λb c=>k.block b (λe=>I4 h.outer h.box dA<|e▸c)
 file:=by rw[j,p];exactλx m=>⟨(k.block x (LY (h.file x m).1 h.box<|dA)).trans (h.file x m).1,jH.row (h.file x m).2 w' λb c=>k.block b (λe=>I4 (h.file x m).2 h.box dA<|e▸c)⟩
 apart:=by rw[j];exact h.apart
 fa:=h.fa
 fm:=h.fm
 fg:=h.fg
 fo:=h.fo
 fx:=by rw[j];exact h.fx
 nC:=h.nC.keep λb c=>k.block b (λe=>I4 h.outer h.box dA<|e▸c)
 flat:=by rw[j];exactλx m=>(h.flat x m).keep λb c=>k.block b (λe=>I4 (h.file x m).2 h.box dA<|e▸c)
 low:=λb o=>by rw[k.size];exact h.low b o
 wf:=have⟨A,z,u,y,v⟩:=h.wf;⟨by rw[e1,j];exact A,by rw[r,j];exact z,by rw[n,j];exact u,fU,fU⟩
 num:=t
end
def sM(a:Int):D:=⟨[],[],[],a,0,0,[],λ_=>⟨[],0⟩⟩
def b90(a:Int):(sM a).Wf:=⟨CJ,CJ,CJ,CJ,CJ⟩
theorem b5d(d:Int)(w:aB)(hr:-4611686018427387904<=d/\d<=4611686018427387904):
 Calls prog 46 #[.int .i64 d] w λe w'=>∃a F,e=.returned (l9 a)/\o7 w' F a (sM d)/\Ext w w'/\(∀b,F b->w.heap.size<=b):=by
 have o:=@run_makeMap prog;go_enter func46,ntmps46
 go_wp2;go_ret;have n:=by have:=MapOf.made (α:=Nm) (β:=Nat) (P:=prog) (k:=9) (kf:=bJ) (vf:=l9) (w.alloc<|.map #[] 0);simpa using this
 refine⟨w+2,λb=>w.heap.size<=b/\b<w.heap.size+3,rfl,⟨w,w.heap.size+1,.slice none 0 0,[],λ_=>.slice none 0 0,?_⟩,((((dh w).new _).new _).new _:Ext w _),λb hb=>hb.1⟩;exact{
  box:=jR _ _<|aZ
  now:=((MapOf.made w).ext<|(dh _).new _).ext<|(dh _).new _
  safe:=n.ext<|(dh _).new _
  ne:=aj
  rows:=⟨rfl,aZ⟩
  outer:=⟨rfl,Or.inl ⟨rfl,rfl⟩⟩
  nC:=λg c e p h=>by cases h
  flat:=CJ
  file:=CJ
  apart:=CJ
  fa:=aj
  fm:=⟨aj,aj⟩
  fg:=aZ
  fo:=by simp[Value.ownBlock]
  fx:=CJ
  low:=λb hb=>iw
  wf:=b90 d
  num:=⟨CJ,CJ,hr.1,hr.2⟩}
def ZM(F:tyP)(a:Nat)(d:D)(w:aB)(e:Ending)(w':aB):Prop:=e=.returned (.bool d.fails.1)/\o7 w' F a d.fails.2/\Off a w w'
theorem AI(F:tyP)(a:Nat)(d:D)(w:aB)(h:o7 w F a d):Calls prog 93 #[l9 a] w (ZM F a d w):=by
 obtain⟨f,m2,m,o,n,h⟩:=h;have c:=h.box;have q:=c.cell 4;have t:=c.cell 5;have r:=c.free 4;have s:=c.free 5;have u:=h.num;have H:=ah h;clear h;have g:=ah c;clear c;unfold l9;by_cases i:0<d.wait
 ·have p:IntKind.i64.wrap ((d.wait:Int) - 1)=((d.wait - 1:Nat):Int):=by rw[IntWalk.i64_in _ aj];omega
  go_enter func93,ntmps93
  go_wp2;go_ret;unfold ZM D.fails;rw[if_pos i];refine⟨rfl,⟨f,m2,m,o,n,?_⟩,(Off.refl a w).setCell 4 _⟩;exact H.out.VT ((Off.refl a w).setCell 4 _) (by first|exact g.out.set 4 _|(have:=g.out.set 4 (.int .i64 ((d.wait - 1:Nat):Int));simpa using j)) rfl rfl rfl rfl rfl (by dsimp only;omega)
 ·by_cases c:0<d.bad
  ·have p:IntKind.i64.wrap ((d.bad:Int) - 1)=((d.bad - 1:Nat):Int):=by rw[IntWalk.i64_in _ aj];omega
   go_enter func93,ntmps93
   go_wp2;go_ret;unfold ZM D.fails;rw[if_neg i,if_pos c];refine⟨rfl,⟨f,m2,m,o,n,?_⟩,(Off.refl a w).setCell 5 _⟩;exact H.out.VT ((Off.refl a w).setCell 5 _) (by first|exact g.out.set 5 _|assumption) rfl rfl rfl rfl rfl (by dsimp only;omega)
  ·go_enter func93,ntmps93
   go_wp2;go_ret;unfold ZM D.fails;rw[if_neg i,if_neg c];exact⟨rfl,⟨f,m2,m,o,n,H.out⟩,Off.refl a w⟩
def ErrAt(w:aB)(v:aX):Er->Prop
 | .ok=>v=.nilIface
 | .num n=>v=lK n
 | .file n a=>∃b,v=.iface 132 (.pointer (some ⟨b,0,none⟩))/\o6 w b 134 #[bJ a,.int .i64 n]
def Jr{w:aB}{F:tyP}{n:Int}{name:Nm}(d:∀b,F b->b<w.heap.size):
 Held (w.alloc (.cells #[bJ name,.int .i64 n] 134)) F (λW=>ErrAt W (.iface 132 (.pointer (some ⟨w.heap.size,0,none⟩))) (.file n name)):=have a:=.new _ _ rfl;(Held.box a fU).mono λW c=>⟨_,rfl,c⟩
def Es(w:aB)(F:tyP):Held w F (λW=>ErrAt W .nilIface .ok):=(Held.true w F).mono λ_ _=>rfl
def sr(w:aB)(F:tyP)(n:Int):Held w F (λW=>ErrAt W (lK n) (.num n)):=(Held.true w F).mono λ_ _=>rfl
def LZ(F:tyP)(a:Nat)(d:D)(name:Nm)(w:aB)(e:Ending)(w':aB):Prop:=
 ∃v,e=.returned (.tuple #[rG (d.find name).1,v])/\Held w' F (λW=>ErrAt W v (d.find name).2.1)/\o7 w' F a (d.find name).2.2/\iq F F w w'
def vm(w:aB):(zeroValue 170).run prog w=.ok (.pointer none) w:=aW
theorem Qj(F:tyP)(a:Nat)(d:D)(name:Nm)(w:aB)(h:o7 w F a d)(y:name.length<=maxLen):Calls prog 124 #[l9 a,bJ name] w (LZ F a d name w):=by
 have u:=AI F a d w h;have s:=h;obtain⟨z,E,A,C,G,h⟩:=h;have B:=h.box.cell 0;have c:=h.now.look X0 U0 underlying171 (vm w) (vI y);have j:=h.fa;have v:=h.low;clear h;have r:=ah u;have H:=ah s;clear u s;have t:=v;unfold bJ l9 at *
 cases hl:A7 d.now name with
 | none=>
  rw[hl] at c;simp only[Hr,DC] at c;go_enter func124,ntmps124
  go_wp2_with fail
  refine r.out.mono ?_;rintro e g ⟨rfl,k,n⟩;have i:∀b,F b->b<g.heap.size:=k.low;have l:=ah k;have m:=ah n;clear k n c
  cases hf:d.fails.1 with
  | true=>
   go_wp2;go_ret2
   unfold LZ D.find;rw[if_pos hf]
   exact⟨_,rfl,Jr i,l.out.ext ((dh g).new _),(iq.off m.out j).trans (iV ((dh g).new _))⟩
  | false=>
   go_wp2;go_ret2
   unfold LZ D.find;rw[if_neg (by rw[hf];decide),hl]
   exact⟨_,rfl,Jr i,l.out.ext ((dh g).new _),(iq.off m.out j).trans (iV ((dh g).new _))⟩
 | some x=>
  rw[hl] at c;simp only[eP,aG] at c;go_enter func124,ntmps124
  go_wp2_with fail
  refine r.out.mono ?_;rintro e g ⟨rfl,k,n⟩;have i:∀b,F b->b<g.heap.size:=k.low;have l:=ah k;have m:=ah n;clear k n c
  cases hf:d.fails.1 with
  | true=>
   go_wp2;go_ret2
   unfold LZ D.find;rw[if_pos hf]
   exact⟨_,rfl,Jr i,l.out.ext ((dh g).new _),(iq.off m.out j).trans (iV ((dh g).new _))⟩
  | false=>
   go_wp2;go_ret2
   unfold LZ D.find;rw[if_neg (by rw[hf];decide),hl];exact⟨_,rfl,Es _ _,l.out,iq.off m.out j⟩
def a3Q(h:aX)(w:aB):(Go.method 495 275 (.agg #[h]) "Comparable").run prog w=.ok (260,.agg #[h]) w:=aW
def methodUnwrap(h:aX)(w:aB):(Go.method 495 132 h "Unwrap").run prog w=.ok (253,h) w:=aW
def ip(w:aB):((ReflectliteType.method λt=>do Rtype.noPackHeld "Comparable" t;Functor.map (λa:TypeInfo=>Value.bool a.comparable) (typeInfo t)) #[.agg #[.pointer (some ⟨7,37,none⟩)]]).run prog w=.ok (.bool true) w:=aW
def q8(v:aX)(w:aB):(binOp .eql 34 .nilIface (.iface 37 v)).run prog w=.ok (.bool false) w:=aW
def io(p:Option Addr)(n:Int)(w:aB):(binOp .eql 34 (.iface 132 (.pointer p)) (.iface 37 (.int .i64 n))).run prog w=.ok (.bool false) w:=aW
def rI(m n:Int)(w:aB):(binOp .eql 34 (.iface 37 (.int .i64 m)) (.iface 37 (.int .i64 n))).run prog w=.ok (.bool (m==n)) w:=aW
theorem is_nil(n:Int)(w:aB):Calls prog 57 #[.nilIface,lK n] w λe w'=>e=.returned (.bool false)/\w'=w:=by
 unfold lK;have q1:=q8;have q2:=rI;go_enter func57,ntmps57
 go_wp2;go_ret;exact⟨rfl,rfl⟩
theorem c8j(m n:Int)(w:aB):Calls prog 57 #[lK m,lK n] w λe w'=>e=.returned (.bool (decide (m=n)))/\w'=w:=by
 unfold lK;have h7:=@run_callFunc_extern prog 97 _ ReflectliteType.typeOf func97 aW aW aW aW;have h8:=@run_callFunc_extern prog 260 _ (ReflectliteType.method λt=>do Rtype.noPackHeld "Comparable" t;pure (.bool (<-typeInfo t).comparable)) func260 aW aW aW aW;have tO:=aD;have mC:=a3Q;have cE:=ip;have mU:=methodUnwrap;have q1:=q8;have q2:=rI;have q3:=io;have RB:=run_typeAssert_lacksB (P:=prog) (z:=.nilIface) (t:=37) (asserted:=277) rfl aW aW;have RA:=run_typeAssert_lacksB (P:=prog) (z:=.nilIface) (t:=37) (asserted:=280) rfl aW aW;have Rr:=run_typeAssert_lacksB (P:=prog) (z:=.nilIface) (t:=37) (asserted:=281) rfl aW aW;have tA4:=run_typeAssert_lacksB (P:=prog) (z:=.nilIface) (t:=132) (asserted:=277) rfl aW aW;have tA5:=run_typeAssert_hasB (P:=prog) (t:=132) (asserted:=280) rfl aW;by_cases hmn:m=n
 ·have hb:(m==n)=true:=fO.2 hmn;have hd:decide (m=n)=true:=aN hmn;have HD:=ah hd;clear hd hmn;go_enter func57,ntmps57
  go_wp2;refine wp_loop_rounds 1 ?_;rw[rounds_succ];go_wp2;go_ret;exact⟨by rw[HD.out];rfl,rfl⟩
 ·have hb:(m==n)=false:=bG.2 hmn;have hd:decide (m=n)=false:=aK hmn;have HD:=ah hd;clear hd hmn;go_enter func57,ntmps57
  go_wp2;refine wp_loop_rounds 1 ?_;rw[rounds_succ];go_wp2;go_ret;exact⟨by rw[HD.out];rfl,rfl⟩
theorem c6t(b:Nat)(name:Nm)(m n:Int)(w:aB)(hb:o6 w b 134 #[bJ name,.int .i64 m]):
 Calls prog 57 #[.iface 132 (.pointer (some b)),lK n] w λe w'=>e=.returned (.bool (decide (m=n)))/\w'=w:=by
 unfold lK;have c1:=(hb.cell 1).trans (show _=some (Value.int .i64 m) from rfl);clear hb;have h7:=@run_callFunc_extern prog 97 _ ReflectliteType.typeOf func97 aW aW aW aW;have h8:=@run_callFunc_extern prog 260 _ (ReflectliteType.method λt=>do Rtype.noPackHeld "Comparable" t;pure (.bool (<-typeInfo t).comparable)) func260 aW aW aW aW;have tO:=aD;have mC:=a3Q;have cE:=ip;have mU:=methodUnwrap;have q1:=q8;have q2:=rI;have q3:=io;have RB:=run_typeAssert_lacksB (P:=prog) (z:=.nilIface) (t:=37) (asserted:=277) rfl aW aW;have RA:=run_typeAssert_lacksB (P:=prog) (z:=.nilIface) (t:=37) (asserted:=280) rfl aW aW;have Rr:=run_typeAssert_lacksB (P:=prog) (z:=.nilIface) (t:=37) (asserted:=281) rfl aW aW;have tA4:=run_typeAssert_lacksB (P:=prog) (z:=.nilIface) (t:=132) (asserted:=277) rfl aW aW;have tA5:=run_typeAssert_hasB (P:=prog) (t:=132) (asserted:=280) rfl aW;by_cases hmn:m=n
 ·have hb:(m==n)=true:=fO.2 hmn;have hd:decide (m=n)=true:=aN hmn;have HD:=ah hd;clear hd hmn;go_enter func57,ntmps57
  go_wp2;refine wp_loop_rounds 2 ?_;rw[rounds_succ];go_wp2;all_goals (try rw[rounds_succ])
  all_goals go_wp2
  go_ret;exact⟨by rw[HD.out];rfl,rfl⟩
 ·have hb:(m==n)=false:=bG.2 hmn;have hd:decide (m=n)=false:=aK hmn;have HD:=ah hd;clear hd hmn;go_enter func57,ntmps57
  go_wp2;refine wp_loop_rounds 2 ?_;rw[rounds_succ];go_wp2;all_goals (try rw[rounds_succ])
  all_goals go_wp2
  go_ret;exact⟨by rw[HD.out];rfl,rfl⟩
theorem j0(er:Er)(v:aX)(n:Int)(w:aB)(h:ErrAt w v er)(hn:n≠0):Calls prog 57 #[v,lK n] w λe w'=>e=.returned (.bool (decide (er.code=n)))/\w'=w:=by
 cases er with
 | ok=>
  obtain rfl:v=.nilIface:=h;have e:decide (Er.code .ok=n)=false:=aK (λh=>hn h.symm)
  rw[e];exact is_nil n w
 | num m=>
  obtain rfl:v=lK m:=h
  exact c8j m n w
 | file m name=>obtain⟨b,rfl,hb⟩:=h;exact c6t b name m n w hb
theorem e_(f:γ->List Value)(a:∀x,(f x).length=2):∀(l:List γ)(i:Nat)(x:γ),l[i]?=some x->∀j,j<2->(l.flatMap f)[2*i+j]?=(f x)[j]?:=by
 intro l
 induction l with
 | nil=>simp
 | cons=>
  intro i x h j c;rw[eY]
  cases i with
  | zero=>
   simp at h;subst h
   rw[bP iL];simp
  | succ=>grind
theorem sU.cells{w:aB}(h:sU w g l){m:Mv}(a:l[i]?=some m):w.cell? ⟨g,i*2,none⟩=some (bJ m.1)/\w.cell? ⟨g,i*2+1,none⟩=some (rG m.2):=by
 refine⟨?_,?_⟩
 rw[h.cell,jh,show i*2=2*i+0 by omega,e_ lU (λ_=>rfl) l i m a 0 aj];rfl
 rw[h.cell,jh,show i*2+1=2*i+1 by omega,e_ lU (λ_=>rfl) l i m a 1 aj];rfl
def c9w(r:Nat)(l:List (Nm×Nat))(a:List Mv)(w:aB)(e:Ending)(w':aB):Prop:=
 e=.returned (.tuple #[])/\Em w' r (H8 l a)/\iq (λb=>b=r) (λb=>b=r) w w'
theorem set_any(r g:Nat)(l:List (Nm×Nat))(d:List Mv)(w:aB)(h:Em w r l)(M:sU w g d)(t:∀m∈d,m.1.length<=maxLen)(hlen:d.length<=1000000):
 Calls prog 80 #[.map (some r),rU g d] w (c9w r l d w):=by
 have H:=ah h;have D:=ah M;have O:=ah t;clear h M t;have E:r≠g:=by rintro rfl;obtain⟨R,c,N,_⟩:=H.out;have:=D.out;unfold sU o6 at this;rw[N] at this;cases this
 unfold rU;go_enter func80,ntmps80
 go_wp2;go_loopw [8] (λi wr=>∃k:Nat,k<=d.length/\i=.int .i64 k/\Em wr r (H8 l (d.take k))/\iq (λb=>b=r) (λb=>b=r) w wr) (λi _=>d.length - (intOf i).toNat)
 case atStart=>exact⟨0,dD _,rfl,H.out,iq.refl _ w⟩
 case round=>
  obtain⟨k,S,rfl,z,y⟩:=hrel;by_cases G:k<d.length
  ·have s:wr.heap[g]?=w.heap[g]?:=y.block g (lt_of_block D.out) (dI E);have L:sU wr g d:=s.trans D.out;obtain⟨m,B⟩:∃m,d[k]?=some m:=⟨_,au G⟩;obtain⟨x0,C⟩:=L.cells B;have x:=O.out m (aH B);have u:d.take (k+1)=d.take k++[m]:=by rw[cO,B];rfl
   have HT:=ah u;have HN:=ah z;have HC:=ah y;clear s L u z y;obtain⟨nm,P⟩:=m
   cases P with
   | none=>
    simp only[rG] at C;obtain⟨Q,n,v,j⟩:=(HN.out.ext ((dh wr).new _):Em (wr.alloc (.cells #[bJ nm,.pointer none] 251)) r (H8 l (d.take k))).drop X0 U0 underlying171 (vI x) 0;have F:=ah v;have q:=ah j;clear v j;unfold bJ at x0 n q;go_wp2;go_roundw
    case rel=>
     refine⟨k+1,aj,iE,?_,?_⟩
     ·rw[HT.out,YY];exact F.out
     ·exact(HC.out.trans (iV ((dh wr).new _))).trans (iq.off q.out rfl)
    case measure=>simp[intOf];omega
   | some f=>
    simp only[rG] at C;obtain⟨Q,n,v,j⟩:=(HN.out.ext ((dh wr).new _):Em (wr.alloc (.cells #[bJ nm,l9 f] 251)) r (H8 l (d.take k))).store X0 U0 underlying171 (vI x) f;have F:=ah v;have q:=ah j;clear v j;unfold l9 at C;unfold bJ at x0;unfold bJ l9 at n q;go_wp2;go_roundw
    case rel=>
     refine⟨k+1,aj,iE,?_,?_⟩
     ·rw[HT.out,YY];exact F.out
     ·exact(HC.out.trans (iV ((dh wr).new _))).trans (iq.off q.out rfl)
    case measure=>simp[intOf];omega
  ·obtain rfl:k=d.length:=aj
   rw[bK] at z;go_wp2;go_end0
   exact⟨rfl,z,y⟩
theorem Di{w:aB}{e1:bT}{m s2 p k l s:Nat}{h i:aX}{r u:jl}(v:w.ownsRow l e1 m h p r)(t:w.ownsRow s e s2 i k u)(q:e1≠e){b:Nat}(d:h.ownBlock=some b):i.ownBlock≠some b:=by
 intro c;obtain⟨rfl,_⟩|⟨g,o,x,rfl,_,n,_⟩:=v.2
 cases d
 simp[Value.ownBlock] at d;obtain⟨rfl,_⟩|⟨y,f,j,rfl,_,a,_⟩:=t.2
 cases c
 simp[Value.ownBlock] at c;grind
section
variable{w w':World}{F:Nat->Prop}{a m1 m2:Nat}{mv:Value}{gs:List Nat}{dv:Nat->Value}{d:D}
def dM.now'(h:dM w F a m1 m2 mv gs dv d)(j:∀b,b<w.heap.size->b≠m1->w'.heap[b]?=w.heap[b]?)(o:w.heap.size<=w'){l:List (Nm×Nat)}(n:Em w' m1 l)(k:∀p∈l,p.2∈d.ids):
 dM w' F a m1 m2 mv gs dv {d with now:=l} where
 box:=(j a (h.low a h.fa)<|dI (h.jK h.box).1).trans h.box
 now:=n
 safe:=h.safe.block (j _ (h.low _ h.fm.2)<|dI h.ne)
 ne:=h.ne
 rows:=⟨h.rows.1,λi g l m k=>(j g (h.low g (h.fg g<|aH m)) (dI (h.jK<|h.rows.2 i g l m k).1)).trans<|h.rows.2 i g l m k⟩
 outer:=jH.row h.outer w' λb c=>j b (h.low b<|h.fo b c) (λe=>U2 h.outer h.now<|e▸c)
 nC:=h.nC.keep λb c=>j b (h.low b<|h.fo b c) (λe=>U2 h.outer h.now<|e▸c)
 flat:=λx f=>(h.flat x f).keep λb c=>j b (h.low b<|(h.fx x f).2 b c) (λe=>U2 (h.file x f).2 h.now<|e▸c)
 file:=λx f=>⟨(j x (h.low x (h.fx x f).1)<|dI (h.jK (h.file x f).1).1).trans (h.file x f).1,jH.row (h.file x f).2 w' λb c=>j b (h.low b<|(h.fx x f).2 b c) (λe=>U2 (h.file x f).2 h.now<|e▸c)⟩
 apart:=h.apart
 fa:=h.fa
 fm:=h.fm
 fg:=h.fg
 fo:=h.fo
 fx:=h.fx
 low:=λb c=>aF (h.low b c) o
 wf:=⟨k,h.wf.safe,h.wf.moves,h.wf.part,h.wf.ids⟩
 num:=h.num
def dM.Rq(h:dM w F a m1 m2 mv gs dv d)(j:∀b,b<w.heap.size->b≠m2->w'.heap[b]?=w.heap[b]?)(o:w.heap.size<=w'){l:List (Nm×Nat)}(n:Em w' m2 l)(k:∀p∈l,p.2∈d.ids):
 dM w' F a m1 m2 mv gs dv {d with safe:=l} where
 box:=(j a (h.low a h.fa)<|dI (h.jK h.box).2).trans h.box
 now:=h.now.block<|j _ (h.low _ h.fm.1) h.ne
 safe:=n
 ne:=h.ne
 rows:=⟨h.rows.1,λi g l m k=>(j g (h.low g (h.fg g<|aH m)) (dI (h.jK<|h.rows.2 i g l m k).2)).trans<|h.rows.2 i g l m k⟩
 outer:=jH.row h.outer w' λb c=>j b (h.low b<|h.fo b c) (λe=>U2 h.outer h.safe<|e▸c)
 nC:=h.nC.keep λb c=>j b (h.low b<|h.fo b c) (λe=>U2 h.outer h.safe<|e▸c)
 flat:=λx f=>(h.flat x f).keep λb c=>j b (h.low b<|(h.fx x f).2 b c) (λe=>U2 (h.file x f).2 h.safe<|e▸c)
 file:=λx f=>⟨(j x (h.low x (h.fx x f).1)<|dI (h.jK (h.file x f).1).2).trans (h.file x f).1,jH.row (h.file x f).2 w' λb c=>j b (h.low b<|(h.fx x f).2 b c) (λe=>U2 (h.file x f).2 h.safe<|e▸c)⟩
 apart:=h.apart
 fa:=h.fa
 fm:=h.fm
 fg:=h.fg
 fo:=h.fo
 fx:=h.fx
 low:=λb c=>aF (h.low b c) o
 wf:=⟨h.wf.now,k,h.wf.moves,h.wf.part,h.wf.ids⟩
 num:=h.num
theorem dM.addNode(h:dM w F a m1 m2 mv gs dv d)(t:o6 w x 176 #[.slice none 0 0,.int .i64 0])(B:F x)(u:x∉d.ids):
 dM w F a m1 m2 mv gs (λi=>if i=x then .slice none 0 0 else dv i) {d with ids:=d.ids++[x],node:=upd d.node x ⟨[],0⟩}:=have g:∀y∈d.ids,y≠x:=λy c e=>u<|e▸c;{
  box:=h.box
  now:=h.now
  safe:=h.safe
  ne:=h.ne
  rows:=h.rows
  outer:=h.outer
  nC:=h.nC
  flat:=by
   intro y c;obtain c|c:=aP.1 c
   simp[if_neg (g y c)];exact h.flat y c
   simp at c;subst c;simp;apply wS.nil
  file:=by
   intro y c;obtain c|c:=aP.1 c
   simp[upd,if_neg (g y c)];exact h.file y c
   simp at c;subst c;simp[upd];exact⟨t,rfl,Or.inl ⟨rfl,rfl⟩⟩
  apart:=by
   intro y c z j o b n;obtain c|c:=aP.1 c
   simp[if_neg (g y c)] at n;obtain j|j:=aP.1 j
   simp[if_neg (g z j)];exact h.apart y c z j o b n
   simp at j;subst j;simp[Value.ownBlock]
   simp at c;subst c;simp[Value.ownBlock] at n
  fa:=h.fa
  fm:=h.fm
  fg:=h.fg
  fo:=h.fo
  fx:=by
   intro y c;obtain c|c:=aP.1 c
   simp[if_neg (g y c)];exact h.fx y c
   simp at c;subst c;exact⟨B,by simp[Value.ownBlock]⟩
  low:=h.low
  wf:=by
   refine⟨λp k=>aP.2 (.inl<|h.wf.now p k),λp k=>aP.2 (.inl<|h.wf.safe p k),λl s m C f v=>aP.2 (.inl<|h.wf.moves l s m C f v),?_,?_⟩
   intro y c;obtain c|c:=aP.1 c
   simp[upd,if_neg (g y c)];exact h.wf.part y c
   simp at c;subst c;simp[upd]
   rw[jB];exact⟨h.wf.ids,aZ,λp k q r=>fU⟩
  num:=h.num}
theorem dM.JW(h:dM w F a m1 m2 mv gs dv d){o:aX}{u:jl}(S:Ext w W)(hg:sU w g C)(y:W.grownBy w' mv.ownBlock)(t:w'.ownsRow 0 187 1 o n u)
 (R:n=d.moves.length+1)(hu:u=((gs.zip d.moves).map λp=>rU p.1 p.2)++[rU g C])(M:F g)(A:∀b,G b<->F b\/(w.heap.size<=b/\b<w'.heap.size))(Y:∀m∈C,∀f,m.2=some f->f∈d.ids)
 (O:∀b,o.ownBlock=some b->mv.ownBlock=some b\/w.heap.size<=b)(N:yZ (Wx (gs++[g])) w' o):
 dM (w'.setCell ⟨a,2,none⟩ o) G a m1 m2 o (gs++[g]) dv {d with moves:=d.moves++[C]}:=have c:=h.low;have K:=λb j H=>(y.block b (aF j S.size) (λe=>H e.symm)).trans (S.block b j);have I:∀b,b<w.heap.size->mv.ownBlock≠some b->b≠a->(w'.setCell _ o).heap[b]?=w.heap[b]?:=λb j H X=>(Below.heap_setCell _ _ _ _ X).trans (K b j H);have P:o6 w' a 174 _:=(K a (c a h.fa) (I4 h.outer h.box dA)).trans h.box;have hsz:=ay S.size y.size;have z:=h.rows.1;{
  box:=P.set 2 o
  now:=h.now.block (I _ (c _ h.fm.1) (U2 h.outer h.now) (h.jK h.box).1)
  safe:=h.safe.block<|I _ (c _ h.fm.2) (U2 h.outer h.safe) (h.jK h.box).2
  ne:=h.ne
  rows:=by
   refine⟨by simp[z],λi Q l r J=>?_⟩;have L:∀q k,F q->sU w q k->sU _ q k:=λq k B E=>(I q (c q B) (I4 h.outer E<|dA) (LY E h.box<|dA)).trans E
   by_cases Z:i<gs.length
   rw[bP Z] at r;rw[bP aj] at J;exact L Q l (h.fg Q<|aH r)<|h.rows.2 i Q l r J
   rw[cZ aj] at r;rw[cZ aj] at J;have V:i - gs.length=0:=by
    obtain e|e:=gK _
    exact e
    rw[ji iw] at r;cases r
   simp_all
  outer:=by
   have U:(d.moves++[C]).length=n:=by simp[R]
   have e2:(((gs++[g]).zip<|d.moves++[C]).map λp=>rU p.1 p.2)=u:=by rw[List.zip_append z];simp[hu]
   rw[U,e2];exact ownsRow_setCell_other t (I4 t P<|dA) _
  nC:=N.keep λb j=>Below.heap_setCell _ _ _ _ (λ(e:b=a)=>I4 t P dA<|e▸j)
  flat:=λx s=>(h.flat x s).keep λb j=>I b (c b<|(h.fx x s).2 b j) (Di (h.file x s).2 h.outer dA j) (λe=>I4 (h.file x s).2 h.box dA<|e▸j)
  file:=λx s=>⟨(I x (c x (h.fx x s).1) (I4 h.outer (h.file x s).1<|dA) (LY (h.file x s).1 h.box<|dA)).trans (h.file x s).1,
   jH.row (h.file x s).2 _ λb j=>I b (c b<|(h.fx x s).2 b j) (Di (h.file x s).2 h.outer dA j) (λe=>I4 (h.file x s).2 h.box dA<|e▸j)⟩
  apart:=h.apart
  fa:=(A a).2<|.inl h.fa
  fm:=⟨(A _).2<|.inl h.fm.1,(A _).2<|.inl h.fm.2⟩
  fg:=by
   intro q B;obtain B|B:=aP.1 B
   exact(A q).2 (.inl<|h.fg q B)
   simp_all
  fo:=by
   intro b j;obtain D|D:=O b j
   exact(A b).2 (.inl<|h.fo b D)
   exact(A b).2 (.inr ⟨D,PZ t j⟩)
  fx:=λx s=>⟨(A x).2<|.inl (h.fx x s).1,λb j=>(A b).2 (.inl<|(h.fx x s).2 b j)⟩
  low:=by
   intro b j;have:(w'.setCell ⟨a,2,none⟩ o).heap.size=w'.heap.size:=aZ
   rw[this];obtain D|D:=(A b).1 j
   have:=c b D;omega
   exact D.2
  wf:=⟨h.wf.now,h.wf.safe,λk v x s f T=>by
   obtain v|v:=aP.1 v
   exact h.wf.moves k v x s f T
   simp at v;subst v;exact Y x s f T,h.wf.part,h.wf.ids⟩
  num:=h.num}
end
def c3t:(prog.info? 187).map (λi=>(i.zero,i.size,i.bytes))=some (some (.slice none 0 0),1,24):=rfl
def ir(F:tyP)(a:Nat)(d:D)(f:List Mv)(w:aB)(e:Ending)(w':aB):Prop:=
 e=.returned (.tuple #[])/\∃c,o7 w' c a (d.mv f)/\iq F c w w'/\∀b,F b->c b
theorem name_any(F:tyP)(a g:Nat)(d:D)(j:List Mv)(w:aB)(h:o7 w F a d)(B:sU w g j)(Q:F g)(N:∀m∈j,m.1.length<=maxLen)(M:j.length<=1000000)(hml:d.moves.length<=1000000)
 (hid:∀m∈j,∀f,m.2=some f->f∈d.ids):Calls prog 148 #[l9 a,rU g j] w (ir F a d j w):=by
 obtain⟨R,T,mv,A,dv,h⟩:=h;obtain⟨P,hi,U,C,k⟩:=info_parts c3t;obtain⟨V,X,rfl⟩:=ownsRow_form h.outer;have c0:=h.box.cell 0;have t:=set_any R g d.now j w h.now B N M;clear N;show Calls prog 148 #[.pointer (some a),.slice (some ⟨g,0,none⟩) j.length j.length] w (ir F a d j w);go_enter func148,ntmps148
 go_wp2_with fail
 refine t.mono ?_;rintro e r ⟨rfl,I,E⟩;have G:∀p∈H8 d.now j,p.2∈d.ids:=by
  intro p S;obtain S|⟨x,v,e⟩:=Xz S
  exact h.wf.now p S
  exact hid x v _ e
 have y:=h.now' (λb l Z=>E.block b l Z) E.size I G;have c2:=y.box.cell 2;have f2:=y.box.free 2;have o:=y.outer;have s:=y.box;have H:=lt_of_block s;have mvn:∀x∈[rU g j],Wx (A++[g]) x:=λx v=>.inr ⟨g,j.length,aZ,by simpa [rU] using v⟩;have mvo:yZ (Wx (A++[g])) r (.slice V d.moves.length X):=λq c e fr B hc x v=>(y.nC q c e fr B hc x v).imp id λ⟨q,n,hq,e⟩=>⟨q,n,tu _ hq,e⟩;have fY:=ah (I4 o s dA);have L:=ah ((E.block g (lt_of_block B) (dI (h.jK B).1)).trans B:sU r g j);clear I G c0;go_wp2_with (at_builtin;go_must (refine dz (F:=Wx (A++[g])) rfl _ _ 172 rfl 0 187 P (.slice none 0 0) 1 24 underlying172 hi U C k rfl aj (.slice V d.moves.length X) d.moves.length _ rfl (o.alloc (.cells #[rU g j] 187)) _ 1 [rU g j] rfl ⟨_,_,rfl,aj,⟨aj,λh=>by cases h⟩,λ_=>⟨_,rfl,World.news_of_block (cs:=#[rU g j]) (t:=187) (fr:=(0,0)) (heap_alloc_new r _)⟩⟩ rfl (by simp[Value.oneCell',rU]) lJ aj aj (λx v=>.inl (by simpa [Value.cells] using v)) mvn (mvo.keep λb l=>heap_alloc_old _ _ (PZ o l)) ?_);intro b6 c6 w6 u i O Y;have K:=ah ((i.block a iw (dI fY.out)).trans (s.alloc (.cells #[rU g j] 187)));have c62:=o6.cell K.out 2;have f62:=o6.free K.out 2)
 go_end0
 have z:Ext r (r.alloc<|.cells #[rU g j] 187):=(dh r).new _;refine⟨rfl,_,⟨R,T,_,_,dv,y.JW z L.out i u rfl rfl Q (λb=>Iff.rfl) hid (by
  intro b l;obtain h|h:=O
  exact .inl<|h▸l
  rw[h] at l;injection l with l;subst l;exact .inr<|aZ) Y⟩,?_,λb l=>.inl l⟩;have hsz:=ay z.size i.size;have J:=y.low;have hsC:=E.size;refine⟨i.os.trans<|z.os.trans E.os,i.tape.trans<|z.tape.trans E.tape,i.output.trans<|z.output.trans E.output,by simp[World.setCell];omega,λb l W=>?_,λb l=>?_⟩
 rw[Below.heap_setCell _ _ _ _ (λe=>W<|e▸y.fa:b≠a)];exact(i.block b iw (λe=>(λe=>W<|y.fo b e) e.symm)).trans ((z.block b<|aj).trans (E.block b l (λe=>W<|e▸(y.fm.1:F R))))
 obtain h|h:=l
 exact .inl h
 exact .inr<|aj
def PK(F:tyP)(a:Nat)(r:Er×D)(w:aB)(e:Ending)(w':aB):Prop:=
 ∃c v,e=.returned v/\Held w' c (λW=>ErrAt W v r.1)/\o7 w' c a r.2/\iq F c w w'/\∀b,F b->c b
def sU.one(w:aB)(nm:Nm)(o:Option Nat):sU (w.alloc (.cells #[bJ nm,rG o] 251)) w [(nm,o)]:=.new _ _ rfl
def o7.wide{w:aB}{F:tyP}{a:Nat}{d:D}(h:o7 w F a d)(i:∀b,F b->G b)(e:∀b,G b->b<w.heap.size):o7 w G a d:=have⟨g,j,c,k,f,h⟩:=h;⟨g,j,c,k,f,h.more i e⟩
def o7.addNode{w:aB}{F:tyP}{a:Nat}{d:D}(h:o7 w F a d)(c:o6 w x 176 #[.slice none 0 0,.int .i64 0])(e:F x)(g:x∉d.ids):
 o7 w F a {d with ids:=d.ids++[x],node:=upd d.node x ⟨[],0⟩}:=have⟨f,i,b,j,k,h⟩:=h;⟨f,i,b,j,_,h.addNode c e g⟩
def o7.Bz{w:aB}{F:tyP}{a:Nat}{d:D}(h:o7 w F a d)(b:x∈d.ids):x<w.heap.size:=have⟨f,g,c,i,e,h⟩:=h;h.low x (h.fx x b).1
def o7.fa{w:aB}{F:tyP}{a:Nat}{d:D}(h:o7 w F a d):F a:=have⟨e,f,b,g,c,h⟩:=h;h.fa
def iq.wide{F:tyP}{w w':aB}(h:Ext w w')(c:∀b,G b->F b\/w.heap.size<=b):iq F G w w':=
 ⟨h.os,h.tape,h.output,h.size,λb a _=>h.block b a,c⟩
theorem Ha(F:tyP)(a:Nat)(d:D)(name:Nm)(w:aB)(h:o7 w F a d)(M:name.length<=maxLen)(C:d.moves.length<=1000000):
 Calls prog 90 #[l9 a,bJ name] w λe w'=>∃x,x∉d.ids/\PK F a (d.create name x) w e w':=by
 have o:w.heap.size∉d.ids:=λhx=>by have:=h.Bz hx;omega
 have U:=ah (AI F a d w h);clear h;unfold l9 bJ;go_enter func90,ntmps90
 go_wp2_with fail
 refine U.out.mono ?_;rintro e c ⟨rfl,z,hO⟩;have HD0:=ah z;have HO:=ah hO;have l:∀b,F b->b<c.heap.size:=z.low;have K:F a:=z.fa;obtain⟨m1,Y,mv,Z,dv,h⟩:=z;have W:=h.box.cell 0;have S:d.fails.2.ids=d.ids:=d.lW.2.2.2.2.1;have V:d.fails.2.moves=d.moves:=d.lW.2.2.1;have f:=h.now.look X0 U0 underlying171 (vm c) (vI M);have B:=ah (iq.off hO K:iq F F w c);clear h hO
 cases hf:d.fails.1 with
 | true=>
  clear f W;go_wp2;go_ret;refine⟨_,o,F,.iface 132 (.pointer (some c)),rfl,?_,?_,B.out.trans (iV ((dh c).new _)),λb g=>g⟩
  ·unfold D.create;rw[if_pos hf];exact Jr l
  ·unfold D.create;rw[if_pos hf];exact HD0.out.ext ((dh c).new _)
 | false=>
  have A:¬d.fails.1=true:=by rw[hf];decide
  cases m:A7 d.fails.2.now name with
  | some y=>
   rw[m] at f;simp only[eP,aG] at f;unfold bJ l9 at f;go_wp2;go_ret;refine⟨_,o,F,.iface 132 (.pointer (some c)),rfl,?_,?_,B.out.trans (iV ((dh c).new _)),λb g=>g⟩
   ·unfold D.create;rw[if_neg A,if_pos (by rw[m];rfl)];exact Jr l
   ·unfold D.create;rw[if_neg A,if_pos (by rw[m];rfl)];exact HD0.out.ext ((dh c).new _)
  | none=>
   rw[m] at f;simp only[Hr,DC] at f;have t:Ext c (c.alloc (.cells #[.slice none 0 0,.int .i64 0] 176)):=(dh c).new _;have k:Ext c ((c.alloc (.cells #[.slice none 0 0,.int .i64 0] 176)).alloc (.cells #[bJ name,rG (some c.heap.size)] 251)):=t.new _;have n:o6 (c.alloc (.cells #[.slice none 0 0,.int .i64 0] 176)) c 176 #[.slice none 0 0,.int .i64 0]:=jR _ _ rfl;have O:o6 ((c.alloc (.cells #[.slice none 0 0,.int .i64 0] 176)).alloc (.cells #[bJ name,rG (some c.heap.size)] 251)) c 176 #[.slice none 0 0,.int .i64 0]:=n.alloc _;have s:=sU.one (c.alloc (.cells #[.slice none 0 0,.int .i64 0] 176)) name (some c.heap.size);have v:((c.alloc (.cells #[.slice none 0 0,.int .i64 0] 176)).alloc (.cells #[bJ name,rG (some c.heap.size)] 251)).heap.size=c+2:=aZ
   have p:c.heap.size∉d.fails.2.ids:=λhx=>by have:=HD0.out.Bz hx;omega
   have q:=((HD0.out.ext k).wide (G:=λb=>F b\/c.heap.size<=b/\b<c.heap.size+2) (λb g=>.inl g) (λb g=>by rw[v];rcases g with g|g;(have:=l b g;omega);omega)).addNode O (.inr aj) p;have N:=ah (name_any _ a (c+1) _ [(name,some c.heap.size)] _ q (by simpa using s) (.inr aj) (by simpa using M) aZ (by rw[V];exact C) aZ);have R:=ah (B.out.trans (iq.wide k λb g=>g.elim .inl λh=>.inr h.1):iq F (λb=>F b\/c.heap.size<=b/\b<c.heap.size+2) w _);clear q s n O t k v;unfold rU l9 rG bJ l9 at N;unfold bJ at f;go_wp2_with fail
   refine N.out.mono ?_;rintro e w3 ⟨rfl,X,L,T,hF3⟩;go_wp2;go_ret;refine⟨c,by rw[<-S];exact p,X,.nilIface,rfl,?_,?_,R.out.trans T,λb g=>hF3 b (.inl g)⟩
   ·unfold D.create;rw[if_neg A,if_neg (by rw[m];decide)];exact Es _ _
   ·unfold D.create;simp_all
theorem b6V(d:D)(name:Nm):(∃a,(d.find name).1=none/\(d.find name).2.1=a/\a≠.ok)\/∃x,(d.find name).1=some x/\(d.find name).2.1=.ok:=by
 unfold D.find;split
 exact .inl ⟨_,rfl,rfl,aZ⟩
 cases A7 d.now _<;>simp
theorem vd(d:D)(name:Nm)(h:(d.find name).1=none):∃k,(d.find name).2.1=.file k name:=by unfold D.find at h⊢;grind
theorem QE(d:D)(name:Nm):(d.find name).2.2.moves=d.moves/\(d.find name).2.2.now=d.now/\(d.find name).2.2.ids=d.ids/\(d.find name).2.2.node=d.node/\(d.find name).2.2.safe=d.safe/\(d.find name).2.2.room=d.room:=by
 have e:=d.lW;have h:(d.find name).2.2=d.fails.2:=by unfold D.find;grind
 grind
theorem G'{d:D}{name:Nm}(h:(d.find name).1=none):d.remove name=(d.find name).2:=by unfold D.remove;grind
theorem zz{d:D}{name:Nm}(h:(d.find name).1=some x):d.remove name=(.ok,(d.find name).2.2.mv [(name,none)]):=by unfold D.remove;grind
theorem GT{d:D}{name a:Nm}(h:(d.find name).1=none):d.rename name a=(d.find name).2:=by unfold D.rename;grind
theorem Xo{d:D}{name a:Nm}(h:(d.find name).1=some x):d.rename name a=(.ok,if name=a then(d.find name).2.2 else(d.find name).2.2.mv [(a,some x),(name,none)]):=by unfold D.rename;grind
theorem so{d:D}{name:Nm}(h:(d.find name).1=none):d.sync name=(d.find name).2:=by unfold D.sync;grind
theorem pg{d:D}{name:Nm}(h:(d.find name).1=some x):d.sync name=(.ok,(d.find name).2.2.setNode x {(d.find name).2.2.node x with safe:=((d.find name).2.2.node x).data.length}):=by unfold D.sync;grind
theorem Z_{d:D}{name:Nm}(h:(d.find name).1=none):d.size name=(0,(d.find name).2):=by unfold D.size;grind
theorem ZL{d:D}{name:Nm}(h:(d.find name).1=some x):d.size name=(((((d.find name).2.2.node x).data.length:Nat):Int),Er.ok,(d.find name).2.2):=by unfold D.size;grind
theorem cA{d:D}{name:Nm}{a n:Int}(h:(d.find name).1=none):d.jF name a n=([],(d.find name).2):=by unfold D.jF;grind
theorem bO{d:D}{name:Nm}{a n:Int}(h:(d.find name).1=some x):d.jF name a n=(Dk.part ((d.find name).2.2.node x).data a n,.ok,(d.find name).2.2):=by unfold D.jF;grind
theorem GM{d:D}{name:Nm}(h:(d.find name).1=none):d.append name b=(d.find name).2:=by unfold D.append;grind
theorem b92{d:D}{name:Nm}(h:(d.find name).1=some x):d.append name b=if (d.find name).2.2.room - (d.find name).2.2.used<b.length then(.file 10 name,(d.find name).2.2) else(.ok,(d.find name).2.2.setNode x {(d.find name).2.2.node x with data:=((d.find name).2.2.node x).data++b}):=by unfold D.append;grind
theorem D.wO(d:D)(name:Nm)(x:Nat)(h:(d.find name).1=some x):(d.find name).2.1=.ok:=by
 obtain⟨c,a,_⟩|⟨y,_,b⟩:=b6V d _
 rw[a] at h;cases h
 exact b
theorem D.lV(d:D)(name:Nm)(x:Nat)(h:(d.find name).1=some x)(c:(d.find name).2.2.Wf):x∈(d.find name).2.2.ids:=c.now (name,x)<|by rw[(QE d _).2.1];exact Y4 (by unfold D.find at h;grind)
theorem LZ.cases{F:tyP}{a:Nat}{d:D}{name:Nm}{w:aB}{e:Ending}(h:LZ F a d name w e f):
 o7 f F a (d.find name).2.2/\iq F F w f/\
 ((∃b k,e=.returned (.tuple #[.pointer none,.iface 132 (.pointer (some b))])/\(d.find name).1=none/\(d.find name).2.1=.file k name/\Held f F (λW=>ErrAt W (.iface 132 (.pointer (some b))) (d.find name).2.1)) ∨
  (∃x,e=.returned (.tuple #[.pointer (some ⟨x,0,none⟩),.nilIface])/\(d.find name).1=some x)):=by
 obtain⟨v,rfl,i,m,n⟩:=h;refine⟨m,n,?_⟩
 cases l:(d.find _).1 with
 | none=>
  let⟨k,j⟩:=vd d _ l;have:=i.get;rw[j] at this;obtain⟨b,rfl,o⟩:=this
  exact .inl ⟨b,k,rfl,rfl,j,i⟩
 | some x=>have:=i.get;rw[D.wO d _ x l] at this;subst this;exact .inr ⟨x,rfl,rfl⟩
theorem GG(F:tyP)(a:Nat)(d:D)(name:Nm)(w:aB)(h:o7 w F a d)(G:name.length<=maxLen)(t:d.moves.length<=1000000):
 Calls prog 134 #[l9 a,bJ name] w λe w'=>PK F a (d.remove name) w e w':=by
 have M:=ah (Qj F a d name w h G);clear h;unfold l9 bJ at *;go_enter func134,ntmps134
 go_wp2_with fail
 refine M.out.mono ?_;intro e c j;obtain⟨s,A,L⟩:=j.cases;clear j;rcases L with⟨b,k,rfl,n,O,B⟩|⟨x,rfl,n⟩
 ·go_wp2;go_ret;refine⟨F,.iface 132 (.pointer (some b)),rfl,?_,?_,A,λb f=>f⟩
  ·rw[G' n];exact B
  ·rw[G' n];exact s
 ·have u:Ext c (c.alloc (.cells #[bJ name,rG none] 251)):=(dh c).new _;have p:(c.alloc (.cells #[bJ name,rG none] 251)).heap.size=c+1:=aZ
  have y:=ah (name_any _ a c _ [(name,none)] _ ((s.ext u).wide (G:=λb=>F b\/c.heap.size<=b/\b<c.heap.size+1) (λb f=>.inl f) (λb f=>by rw[p];rcases f with f|f;(have:=s.low b f;omega);omega)) (sU.one c name none) (.inr aj) (by simpa using G) aZ (by rw[((QE d name).1)];exact t) aZ);have K:=ah (A.trans (iq.wide u λb f=>f.elim .inl λh=>.inr h.1):iq F (λb=>F b\/c.heap.size<=b/\b<c.heap.size+1) w (c.alloc _));clear u p;unfold rU l9 rG bJ at y;go_wp2_with fail
  refine y.out.mono ?_;rintro e P ⟨rfl,N,v,I,q⟩;go_wp2;go_ret;refine⟨N,.nilIface,rfl,?_,?_,K.out.trans I,λb f=>q b (.inl f)⟩
  ·rw[zz n];exact Es _ _
  ·rw[zz n];exact v
def sU.two(w:aB)(b d:Nm)(c a:Option Nat):sU (w.alloc (.cells #[bJ b,rG c,bJ d,rG a] 251)) w [(b,c),(d,a)]:=.new _ _ rfl
theorem b6W(F:tyP)(a:Nat)(d:D)(c f:Nm)(w:aB)(h:o7 w F a d)(L:c.length<=maxLen)(B:f.length<=maxLen)(C:d.moves.length<=1000000):
 Calls prog 144 #[l9 a,bJ c,bJ f] w λe w'=>PK F a (d.rename c f) w e w':=by
 have HF:=ah (Qj F a d c w h L);clear h;unfold l9 bJ at *;go_enter func144,ntmps144
 go_wp2_with fail
 refine HF.out.mono ?_;intro e i n;obtain⟨t,M,hc⟩:=n.cases;have E:∀b,F b->b<i.heap.size:=t.low;have G:∀x,(d.find c).1=some x->x∈(d.find c).2.2.ids:=λx m=>D.lV d c x m t.wf;clear n;rcases hc with⟨b,k,rfl,m,hk,J⟩|⟨x,rfl,m⟩
 ·go_wp2;go_ret;refine⟨F,.iface 132 (.pointer (some b)),rfl,?_,?_,M,λb g=>g⟩
  ·rw[GT m];exact J
  ·rw[GT m];exact t
 ·by_cases u:c=f
  ·have y:(c==f)=true:=by simpa using u
   go_wp2;go_ret;refine⟨F,.nilIface,rfl,?_,?_,M,λb g=>g⟩
   ·rw[Xo m];exact Es _ _
   ·rw[Xo m,if_pos u];exact t
  ·have y:(c==f)=false:=by simpa using u
   have H:Ext i (i.alloc (.cells #[bJ f,rG (some x),bJ c,rG none] 251)):=(dh i).new _;have s:(i.alloc (.cells #[bJ f,rG (some x),bJ c,rG none] 251)).heap.size=i.heap.size+1:=aZ
   have K:=ah (name_any _ a i.heap.size _ [(f,some x),(c,none)] _ ((t.ext H).wide (G:=λb=>F b\/i.heap.size<=b/\b<i.heap.size+1) (λb g=>.inl g) (λb g=>by rw[s];rcases g with g|g;(have:=E b g;omega);omega)) (sU.two i f c (some x) none) (.inr aj) (by simpa using⟨B,L⟩) aZ (by rw[((QE d c).1)];exact C) (by simpa using G x m));have HCH:=ah (M.trans (iq.wide H λb g=>g.elim .inl λh=>.inr h.1):iq F (λb=>F b\/i.heap.size<=b/\b<i.heap.size+1) w _);clear H s;unfold rU l9 rG bJ l9 at K;go_wp2_with fail
   refine K.out.mono ?_;rintro e w3 ⟨rfl,F',I,nD,v⟩;go_wp2;go_ret;refine⟨F',.nilIface,rfl,?_,?_,HCH.out.trans nD,λb g=>v b (.inl g)⟩
   ·rw[Xo m];exact Es _ _
   ·rw[Xo m,if_neg u];exact I
end Go.Proofs.YtgpbhjjajpbeeaaGreatDoor
