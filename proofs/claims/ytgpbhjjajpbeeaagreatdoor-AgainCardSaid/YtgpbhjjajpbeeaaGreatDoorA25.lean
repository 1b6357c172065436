/- A part of what the last file proves. -/
import Derived.Test.YtgpbhjjajpbeeaaGreatDoorA24
import Derived.DeepKeys4
set_option linter.all false
set_option maxRecDepth 100000
set_option maxHeartbeats 6400000
open Go.Proofs.Tryz
namespace Go.Proofs.YtgpbhjjajpbeeaaGreatDoor
open Go.RowKit Go.Lib Go.Maps Dk Pl
variable{B b c g j k n r:Nat}{v y:aX}{i s:fC}{f m:List Nat}
def zB{w w':aB}{e:bT}{xs:jl}(h:w.ownsRow B e k v n xs)(hE:Ext w w'):w'.ownsRow B e k v n xs:=jH.row h w' λb hb=>hE.block b (World.ownsRow.lt h b hb).2
theorem c8I(p:Nm×Nm)(w:aB):(binOp .neq 246 (.agg #[.string ⟨p.1.toArray⟩,.string ⟨p.2.toArray⟩]) (.agg #[.string ⟨p.1.toArray⟩,.string ⟨p.2.toArray⟩])).run prog w=.ok (.bool false) w:=by
 have key:(Op.equalIn 10000 246 (.agg #[.string ⟨p.1.toArray⟩,.string ⟨p.2.toArray⟩]) (.agg #[.string ⟨p.1.toArray⟩,.string ⟨p.2.toArray⟩])).run prog w=.ok true w:=by rw[show(10000:Nat)=9999+1 from rfl,run_equalIn_struct w 9999 246 _ _ aW aW];simp only[Program.fieldsOf,underlying246];go_simp
 simp[binOp,Op.equal,Op.maxDepth,key]
def c4I{w:aB}{F:tyP}{e:bT}{xs:jl}(h:w.ownsRow B e k v n xs)(hF:∀b,v.ownBlock=some b->¬F b):Held w F (λW=>W.ownsRow B e k v n xs):=.of (jH.row h) λb hb=>⟨(World.ownsRow.lt h b hb).2,hF b hb⟩
theorem c1r{K:tyP}{wc wr wb:aB}{gk ck base:Nat}{xs:jl}{M:List (Nm×Nm)}(hC:iq K K wc wr)(hE:Ext wr wb)(nq:Nat)(hrow:wr.ownsRow base 9 1 (.slice (some ⟨gk,0,none⟩) n ck) n xs)(hK:K gk)(hxs:∀j,k<=j->xs[j]?=(M[j]?).map λp=>bJ p.1)(u:aX):
 iq K K wc ((wb.drewN nq).setCell ⟨gk,k,none⟩ u)/\∃ys,((wb.drewN nq).setCell ⟨gk,k,none⟩ u).ownsRow base 9 1 (.slice (some ⟨gk,0,none⟩) n ck) n ys/\∀j,k+1<=j->ys[j]?=(M[j]?).map λp=>bJ p.1:=by
 have hE2:Ext wr (wb.drewN nq):=hE.trans (gZ wb nq);obtain⟨h1,h2⟩:=(zB hrow hE2).stored k u;refine⟨hC.trans ((iV hE2).trans ⟨h2.os,h2.tape,h2.output,h2.size,λb hb hn=>h2.block b hb λe=>hn ?_,λ_ h=>.inl h⟩),_,h1,λj hj=>?_⟩
 ·injection e with e;exact e▸hK
 ·rw[mZ aj];exact hxs j aj
theorem c1s{F:tyP}{a sb rb gen:Nat}{D:D}{ids:fC}{bss:fJ}{w:aB}(h:Ez w F a sb gen D ids bss)(hr:P5 w rb gen ids bss)(hL:(O9 bss ids.length).length*16<=140737488355328)(OX:(mQ (F6 bss)).length*32<=140737488355328)(hkl:∀p∈O9 bss ids.length,p.1.length<=maxLen)(hn:ids.length<=60):
 Calls prog 74 #[l9 sb,l9 rb] w λe w'=>e=.returned (.bool true)/\Ext w w':=by
 have hall:∀P∈mQ (F6 bss),P.1.length<=maxLen:=λP hP=>by obtain⟨f,hf1,hf2,hf3⟩:=Xa (Z8 h.op).1 P hP;obtain⟨hfn,hfm,hfk⟩:=ZK hf1;have:=tQ (Y3 hfm);rw[hfk] at this;unfold maxLen;omega
 have hnd:((mQ (F6 bss)).map (·.1)).Nodup:=(eu.2 (MP _)).imp (R:=λa b:Nm=>a<b) λh e=>by rw[e] at h;exact absurd h pV
 have hmap:=C6 rb gen ids bss w hr hn h.small;obtain⟨hn0,-⟩:=Z8 h.op;have hks:=QR hn0;obtain⟨M,hM⟩:∃M,mQ (F6 bss)=M:=⟨_,rfl⟩;have KA:=λ(w1:aB)(hE:Ext w w1)(N:Int)(hN:-9223372036854775808<=N/\N<=9223372036854775807)(h0:N≠0)=>callsIn_wide.1 (collect_in 9 (ak _) (h.ext hE) hL OX hkl hN h0);have hkeys:∀w1:aB,Ext w w1->Calls prog 131 #[l9 sb] w1 λe w'=>∃v,e=.returned v/\w'.ownsRow w1 9 1 v (M.map (·.1)).length ((M.map (·.1)).map bJ)/\Ext w1 w':=λw1 hE=>by obtain⟨ia,ic,Cb,r,vv,hbx,-,-,hLa,-⟩:=(h.ext hE).st.get;have d4:=(hbx.cell 4).trans (show _=some (Value.map (some r)) from rfl);have:=callsIn_wide.1 (keys_in 3 (ak _) d4 hLa hL hkl);rwa [hks,hM] at this
 rw[hM] at hmap KA OX hall hnd;have rO:=ah hall;have XW:=ah hnd;clear hall hnd;have X_:=ah hmap;have NM:=ah KA;have JI:=ah hkeys;have H:=ah h;have HR0:=ah hr;have HM:=ah hM;clear hmap KA hkeys h hr hM hks hL hkl;unfold l9 at *;go_enter func74,ntmps74
 go_wp2_with fail
 refine X_.out.mono ?_;rintro e w1 ⟨m,rfl,hm1,hE1⟩;have hc:=NM.out w1 hE1 (-1) aj dA;have HC:=ah hc;have Ic:=ah hm1;have lQ:=ah hE1;clear hc hm1 hE1;go_wp2_with fail
 refine HC.out.mono ?_;rintro e w2 ⟨l,rfl,hl2,hE2⟩;have Ub:w2.ownsRow w1 246 2 l M.length (M.flatMap F9):=hl2;have HE2:=ah (lQ.out.trans hE2);have hm2:=zB Ic.out hE2;have hc:=NM.out w2 HE2.out 2 aj dA;have HC2:=ah hc;have JH:=ah hm2;have HL2:=ah Ub;clear hc hl2 Ub hm2 hE2 HC Ic lQ;go_wp2_with fail
 refine HC2.out.mono ?_;rintro e w3 ⟨few,rfl,hf3,jM⟩;have Ur:w3.ownsRow w2 246 2 few (M.take 2).length ((M.take 2).flatMap F9):=hf3;have qO:=ah (HE2.out.trans jM);have hs3:w.heap.size<=w3.heap.size:=qO.out.size;have hk:=JI.out w3 qO.out;have HK:=ah hk;have QO:=ah (zB JH.out jM);have HL3:=ah (zB HL2.out jM);have HF3:=ah Ur;clear hk hf3 Ur jM HC2 JH HL2 HE2;go_wp2_with fail
 refine HK.out.mono ?_;rintro e w4 ⟨kv,rfl,hk4,lH⟩;have rZ:=ah (qO.out.trans lH);have hm4:=zB QO.out lH;have hl4:=zB HL3.out lH;have hf4:=zB HF3.out lH;obtain⟨ma,mc,rfl⟩:=ownsRow_form hm4;obtain⟨la,lc,rfl⟩:=ownsRow_form hl4;obtain⟨fa,fc,rfl⟩:=ownsRow_form hf4;obtain⟨ka,kc,rfl⟩:=ownsRow_form hk4;have hsp:=b1W hl4 hm4;have HSP:=ah hsp;have HM4:=ah hm4;have fj:=ah hl4;have HF4:=ah hf4;have Yd:=ah hk4;clear hsp hm4 hl4 hf4 hk4 lH HK QO HL3 HF3 qO;go_wp2_with fail
 refine HSP.out.mono ?_;rintro e w5 ⟨rfl,kE⟩;have rM:=ah (rZ.out.trans kE);have L2:=ah (zB HM4.out kE);have HL5:=ah (zB fj.out kE);have Yk:=ah (zB HF4.out kE);have ft:=ah (zB Yd.out kE);clear kE HM4 fj HF4 Yd HSP rZ;obtain⟨n,hnn⟩:∃n,M.length=n:=⟨_,rfl⟩;obtain⟨q,hq⟩:∃q,(M.take 2).length=q:=⟨_,rfl⟩;have YD:q=2/\2<=n\/q=n/\n<2:=by rw[dH,hnn] at hq;omega
 have hq2:min 2 n=q:=by rw[<-hq,dH,hnn]
 have hn2:(n:Int)<=4398046511104:=aj
 have hkm:(M.map (·.1)).length=n:=by rw[bV];exact hnn
 have HN:=ah hnn;have HQ:=ah hq;have fq:=ah hkm;simp only[hnn,hq2];clear hnn hq hkm OX hq2;go_upto_region 6 with fail
 go_cut [58] (λv wx=>v=.bool false/\wx=w5)
 case first=>
  rcases YD with⟨rfl,h2⟩|⟨rfl,h2⟩;all_goals
   go_wp2_with fail
   go_meet
   exact⟨by first|rfl|(congr 1;simp;omega),rfl⟩
 case rest=>
  obtain⟨rfl,rfl⟩:=hcut;have hk5:=ft.out;rw[fq.out] at hk5;obtain⟨K,YL⟩:∃K:tyP,K=λb=>(Value.slice ka n kc).ownBlock=some b:=⟨_,rfl⟩;have ag:∀b,K b->w.heap.size<=b:=λb hb=>ay hs3 (World.ownsRow.lt hk5 b (by rw[YL] at hb;exact hb)).1;have nk:∀{B1 s1 n1:Nat}{e1:bT}{v1:aX}{x1:jl},wc.ownsRow B1 e1 s1 v1 n1 x1->e1≠9->Held wc K (λW=>W.ownsRow B1 e1 s1 v1 n1 x1):=λh ne=>c4I h (by rw[YL];exactλb hb=>Di h hk5 ne hb);have KM:=ah (nk L2.out dA);have KL:=ah (nk HL5.out dA);have KF:=ah (nk Yk.out dA);have KW:=ah ag;have KE:=ah YL;have KK:=ah hk5;clear hk5 ag YL nk ft;go_wp2_with fail
  go_loopw [10] (λi wr=>∃k:Nat,i=.int .i64 k/\k<=n/\iq K K wc wr/\∃xs,wr.ownsRow w3 9 1 (.slice ka n kc) n xs/\∀j,k<=j->xs[j]?=(M[j]?).map (λp=>bJ p.1)) (λi _=>n - (intOf i).toNat)
  case atStart=>exact⟨0,rfl,aj,iq.refl K wc,_,KK.out,λj _=>by rw[g_,dF];rfl⟩
  case round=>
   obtain⟨k,rfl,hk,hC,xs,hrow,hxs⟩:=hrel;by_cases hlt:k<n
   ·obtain⟨P,hp⟩:∃P,M[k]?=some P:=⟨_,au (by rw[HN.out];exact hlt)⟩;have hO:=H.out.ext (((iV rM.out).trans hC).toExt KW.out);have hget:=zd hO (rO.out P (aH hp));unfold LK at hget;rw[HM.out,show valOf M P.1=(P.2,true) by unfold valOf;rw[Dy XW.out hp]] at hget;obtain⟨gm,cm,e1,-,-,-,qm⟩:=Dh U4 (KM.out.step hC).get hp;obtain⟨gl,cl,e2,-,-,-,ql⟩:=Dh U4 (KL.out.step hC).get hp;rw[HN.out] at e1 e2;injection e1 with e1 _ e3;subst e1;subst e3;injection e2 with e2 _ e3;subst e2;subst e3;obtain⟨gk,ck,e3,-⟩:=hrow.form aj;injection e3 with e3 _ e4;subst e3;subst e4;have y:=hrow.cellAt k aj;rw[hxs k (ak k),hp] at y;replace y:wr.cell? ⟨gk,k,none⟩=some (.string ⟨P.1.toArray⟩):=y;have m0:=qm 0 _ rfl;have m1:=qm 1 _ rfl;have l0:=ql 0 _ rfl;have l1:=ql 1 _ rfl;rw[iP] at m0 l0;have hf:k<q->∃gf cf,fa=some ⟨gf,0,none⟩/\fc=cf/\wr.cell? ⟨gf,k*2,none⟩=some (.string ⟨P.1.toArray⟩)/\wr.cell? ⟨gf,k*2+1,none⟩=some (.string ⟨P.2.toArray⟩):=λhq=>by obtain⟨gf,cf,e4,-,-,-,qf⟩:=Dh U4 (KF.out.step hC).get (k:=k) (t:=P) (by rw[pW aj];exact hp);injection e4 with e4 _ e5;exact⟨gf,cf,e4,e5,qf 0 _ rfl,qf 1 _ rfl⟩
    have hki:(k:Int)<(n:Int):=aj
    have HG:=ah hget;have HR:=ah hrow;have HX:=ah hxs;have HC:=ah hC;have HO:=ah hO;have HF:=ah hf;clear hget hrow hxs hC hO hp qm ql hf;unfold l9 bJ at HG;go_wp2_with fail
    refine HG.out.mono ?_;rintro e wa ⟨rfl,hEa⟩;have htl:=WZ .ok .nilIface wa rfl (HO.out.ext hEa).La.get;rw[show Er.ok.code=0 from rfl,show Er.ok.name=[] from rfl] at htl;have Hz:=ah htl;have uh:=ah hEa;clear htl hEa HG;unfold bJ at Hz;go_wp2_with fail
    refine Hz.out.mono ?_;rintro e wb ⟨rfl,aw⟩;have hE:=uh.out.trans aw;have m0:=hE.cell m0;have m1:=hE.cell m1;have l0:=hE.cell l0;have l1:=hE.cell l1;have y:=hE.cell y;have hne:=λwx=>c8I P wx;have hfr:=(zB HR.out hE).frozenAt k;have HE:=ah hE;have HS:=ah (c1r (M:=M) HC.out hE · HR.out (by rw[KE.out];rfl) HX.out);clear hE aw Hz uh;by_cases hq:k<q
    ·have hqi:(k:Int)<(q:Int):=aj
     obtain⟨gf,cf,rfl,rfl,f0,f1⟩:=HF.out hq;have f0:=HE.out.cell f0;have f1:=HE.out.cell f1;go_wp2_with fail
     go_quiet (fail)
     go_wp2_with fail
     go_roundw
     case rel=>exact⟨k+1,iE,aj,HS.out _ _⟩
     case measure=>simp[intOf];omega
    ·have hqi:¬(k:Int)<(q:Int):=aj
     go_wp2_with fail
     go_quiet (fail)
     go_wp2_with fail
     go_roundw
     case rel=>exact⟨k+1,iE,aj,HS.out _ _⟩
     case measure=>simp[intOf];omega
   ·obtain rfl:k=n:=aj
    have hE:=((iV rM.out).trans hC).toExt KW.out;have HE:=ah hE;have HMr:=ah (KM.out.step hC).get;have HRr:=ah (HR0.out.ext hE);have HOr:=ah (H.out.ext hE);have hgt:∀(wx:aB),Ext wr wx->∀key:Nm,key.length<=maxLen->Calls prog 30 #[l9 sb,.slice ma k mc,bJ key] wx λe w'=>e=.returned (.bool true)/\Ext wx w':=λwx hx key hk=>by have:=c4F (HOr.out.ext hx) HM.out (zB HMr.out hx) hk;rwa [HN.out] at this
    obtain⟨sa,sc,hb,-,-,-,jo⟩:=HRr.out;obtain⟨N,hNN⟩:∃N,ids.length=N:=⟨_,rfl⟩;rw[hNN] at hb jo;have b1:=(hb.cell 1).trans (show _=some (Value.slice sa N sc) from rfl);have qA:=ah jo;have fy:=ah hgt;rw[hNN] at hn;clear hE hC hxs hrow KL KF KK rO KM hb jo hgt HMr HRr HOr X_ NM JI H HR0 HM XW hNN HQ fq KW KE hn0 YD hs3;unfold l9 bJ at fy;go_wp2_with fail
    go_loopw [16] (λi wx=>∃j:Nat,i=.int .i64 j/\j<=N/\Ext wr wx) (λi _=>N - (intOf i).toNat)
    case atStart=>exact⟨0,rfl,aj,dh wr⟩
    case round=>
     rename World=>wx
     obtain⟨j,rfl,hj,kR⟩:=hrel;have b1x:=kR.cell b1;by_cases hjl:j<N
     ·obtain⟨g,rfl,s0,-,u,s1,hrow⟩:=qA.out j hjl;obtain⟨ua,uc,rfl⟩:=hrow.slice;have hcp:=hrow.cap;have RL:=kR.cell s1;have hji:(j:Int)<(N:Int):=aj
      have hdk:∀P∈D7 (bss.getD j []),P.2.key.length<=maxLen:=λP hP=>by have:=tQ (Y3 hP);unfold maxLen;omega
      generalize D7 (bss.getD j [])=L at hrow RL hcp hdk;unfold maxLen at hcp;have lQ:=ah kR;have HRW:=ah hrow;have HDK:=ah hdk;clear kR hrow hdk s0 s1;go_wp2_with fail
      go_loopw [17] (λi wy=>∃m:Nat,i=.int .i64 m/\m<=L.length/\Ext wx wy) (λi _=>L.length - (intOf i).toNat)
      case atStart=>exact⟨0,rfl,aj,dh wx⟩
      case round=>
       rename World=>wy
       obtain⟨m,rfl,hm,xO⟩:=hrel;have b1y:=xO.cell b1x;have s1y:=xO.cell RL;by_cases hml:m<L.length
       ·obtain⟨P,hp⟩:∃P,L[m]?=some P:=⟨_,au hml⟩;obtain⟨gr,cap,hu,hcap,hcap2,hgl,hcells⟩:=ZG DG (HRW.out.keep λb hb=>(lQ.out.trans xO).block b (HRW.out.lt hb)) hp;injection hu with h1 h2 h3;subst h1;subst h3;have mw:(m:Int)<(L.length:Int):=aj
        have q1:=hcells 1 _ rfl;have hg:=fy.out wy (lQ.out.trans xO) P.2.key (HDK.out P (aH hp));have HG:=ah hg;have Yl:=ah xO;clear hg xO hcells hp;go_wp2_with fail
        refine HG.out.mono ?_;rintro e w2 ⟨rfl,hE2⟩;have HE2:=ah hE2;clear hE2 HG;go_wp2_with fail
        go_roundw
        case rel=>exact⟨m+1,iE,aj,Yl.out.trans HE2.out⟩
        case measure=>simp[intOf];omega
       ·obtain rfl:m=L.length:=aj
        have Yl:=ah xO;clear xO;go_wp2_with fail
        go_roundw
        case rel=>exact⟨j+1,iE,aj,lQ.out.trans Yl.out⟩
        case measure=>simp[intOf];omega
     ·obtain rfl:j=N:=aj
      have h1:=fy.out wx kR [] (by unfold maxLen;decide);have HEX:=ah kR;have HG:=ah h1;clear kR h1;go_wp2_with fail
      refine HG.out.mono ?_;rintro e w2 ⟨rfl,hE2⟩;have h2:=fy.out w2 (HEX.out.trans hE2) [110,111,32,115,117,99,104,32,107,101,121,44,32,102,111,114,32,105,116,32,105,115,32,116,111,111,32,108,111,110,103] (by unfold maxLen;decide);have HE2:=ah (HEX.out.trans hE2);have HG2:=ah h2;clear hE2 h2 HG HEX;go_wp2_with fail
      refine HG2.out.mono ?_;rintro e w4' ⟨rfl,lH⟩;have rZ:=ah (HE.out.trans (HE2.out.trans lH));clear lH HG2;go_wp2_with fail
      go_ret;exact⟨rfl,rZ.out⟩
noncomputable def zS(n:Nat):Code:=Code.behind n (f28.body.getD .skip)
theorem c6W{bss:fJ}(e:bss.length=n)(g:n<=60)(c:∀i,(bss.getD i []).length<=1099511627776):17*(F6 bss).flatten.length<=67070209294336:=by
 have d:(F6 bss).length=n:=by unfold F6;simp_all
 have:=xo (by
  intro i;obtain f|f:=bH i _
  rw[MS _ i f];exact xn<|c i
  grind) _ 0 (ak _)<|dD _;rw[xp] at this;omega
theorem b4u:∀(l:List Fd)(m:List (Nm×Fd)),(l.foldl (λm f=>X4 m f.2.2.key f) m).length<=m.length+l.length:=by
 intro l
 induction l with
 | nil=>simp
 | cons q l a=>
  intro m;have b:=a<|X4 m q.2.2.key q;have c:(X4 m q.2.2.key q).length<=m.length+1:=by unfold X4;split<;>simp
  simp[kW,dK];omega
theorem c4J{bss:fJ}(a:bss.length=n)(d:n<=60)(b:∀i,(bss.getD i []).length<=1099511627776):(O9 bss n).length*16<=140737488355328/\(mQ (F6 bss)).length*32<=140737488355328:=by
 have g:=c6W a d b;have c:=b4u (pq bss n) [];rw[<-Jy] at c;have f:(pq bss n).length=(F6 bss).flatten.length:=by rw[vn a,bV]
 have e:=K' (F6 bss).flatten;unfold mQ;simp at c;omega
theorem c4K{bss:fJ}{p:Nm×Fd}(h:p∈O9 bss n):p.1.length<=16:=by obtain⟨-,a,b⟩:=ZK<|FA (Da _ n) h;rw[<-b];exact tQ<|Y3 a
def TQ(F:tyP)(a:Nat)(D:Dk.D)(w:aB):Exit->Act->World->Prop
 | .ret,b,c=>b.defers=[]/\b.tmps[2]?=some (.bool true)/\iq F F w c/\o7 c F a D
 | _,_,_=>False
section
variable{F:Nat->Prop}{a:Nat}{D:Dk.D}{w:World}{T:Array Value}
theorem c8J{g:Er}(hT:T.size=54)(B:T[0]?=some (l9 a))(K:T[3]?=some (.pointer none))(Z:T[4]?=some y)(N:o7 w F a D)(M:D.Calm)(h:D.Fit)(Q:Laid w)(J:ErrAt w y g)(d:g.code=(G9 D.files).2.1)(q:g.code≠0)(c:g.code=7->g.name=(G9 D.files).2.2):
 (zS 2).wp prog (TQ F a D w) ⟨T,[]⟩ w:=by
 obtain⟨x,e,i⟩:=IZ 54 T hT;refine(congrArg (λT'=>Code.wp _ _ _ ⟨T',[]⟩ _) (O8 (k:=4) (O8 (k:=3) (O8 (k:=0) e (i 0 _ B)) (i 3 _ K)) (i 4 _ Z))).mpr ?_;have l:=WZ g y w J Q;obtain⟨o,j⟩:∃o,g.code=o:=⟨_,rfl⟩;obtain⟨u,k⟩:∃u,g.name=u:=⟨_,rfl⟩;rw[j,k] at l;rw[j] at d q c;rw[k] at c;have E:=ah l;have W:=ah N;have b:=ah M;have C:=ah h;have O:=ah c;have U:=ah d;clear e i hT B K Z l N M h Q J c j k d;unfold bJ at E;unfold zS l9;simp only[Code.behind,f28,aG,AN,List.range,List.range.loop,bD,dS,up,reduceIte,Nat.reduceEqDiff];go_wp2_with fail
 refine E.out.mono ?_;rintro e w1 ⟨rfl,n⟩;have I:=ah (Xn F a D w1 (W.out.ext n) b.out (by have:=C.out.len;omega) (λx i=>by have:=C.out.data x i;omega) (λp hp=>by have:=C.out.names p hp;unfold maxLen;omega));have X:=ah (iV (F:=F) n);clear n E;unfold l9 at I;go_wp2_with fail
 refine I.out.mono ?_;rintro e w2 ⟨fv,rows,rfl,R,m,A⟩;have L:=ah (cI fv D.files w2 R.files (ao m.wf λx i=>C.out.data x i));have z:=ah (X.out.trans A);have r:=ah m;clear R m A I X;go_wp2_with fail
 refine L.out.mono ?_;rintro e w3 ⟨v,rfl,G,-⟩;have P:=ah (z.out.trans (iV G));have s:=ah (r.out.ext G);have V:=U.out;have Y:=O.out;obtain⟨f,hf⟩:∃f,(G9 D.files).2.1=f:=⟨_,rfl⟩;obtain⟨S,t⟩:∃S,(G9 D.files).2.2=S:=⟨_,rfl⟩;rw[hf] at V⊢;rw[t] at Y⊢;subst V;clear G L z r hf t O U b C W;unfold bJ;go_wp2_with fail
 refine(p_ o w3).mono ?_;rintro e w4 ⟨rfl,rfl⟩;by_cases H:o=7
 ·obtain rfl:=Y H;subst H;go_wp2_with fail
  trivial
 have h7':=by simpa using H
 have hne':(o != 0)=true:=by simpa using q
 go_wp2_with fail
 trivial
theorem c9S{sb d:Nat}{c:fC}{bss:fJ}(Z:T.size=54)(E:T[0]?=some (l9 a))(h3:T[3]?=some (l9 sb))(B:T[4]?=some .nilIface)(b:o7 w F a D)(Y:D.Calm)(g:D.Fit)(O:Held w F Laid)(hP:Held w F S9)(o:Held w F (λW=>Df W sb a d c bss))(C:zk c)(u:G9 D.files=(some (d,c,bss),0,[])):
 (zS 2).wp prog (TQ F a D w) ⟨T,[]⟩ w:=by
 obtain⟨x,e,i⟩:=IZ 54 T Z;refine(congrArg (λT'=>Code.wp _ _ _ ⟨T',[]⟩ _) (O8 (k:=4) (O8 (k:=3) (O8 (k:=0) e (i 0 _ E)) (i 3 _ h3)) (i 4 _ B))).mpr ?_;have j:=WZ .ok .nilIface w rfl O.get;rw[show Er.ok.code=0 from rfl,show Er.ok.name=[] from rfl] at j;have H:=ah j;have HD:=ah b;have HL:=ah O;have HP:=ah hP;have J:=ah o;clear e i Z E h3 B j b O hP o;unfold bJ at H;unfold zS l9;simp only[Code.behind,f28,aG,AN,List.range,List.range.loop,bD,dS,up,reduceIte,Nat.reduceEqDiff];go_wp2_with fail
 refine H.out.mono ?_;rintro e w1 ⟨rfl,l⟩;have I:=ah (Xn F a D w1 (HD.out.ext l) Y (by have:=g.len;omega) (λx i=>by have:=g.data x i;omega) (λp M=>by have:=g.names p M;unfold maxLen;omega));have V:=ah (iV (F:=F) l);clear l H;unfold l9 at I;go_wp2_with fail
 refine I.out.mono ?_;rintro e w2 ⟨fv,rows,rfl,X,k,A⟩;have G:=cI fv D.files w2 X.files (ao k.wf λx i=>g.data x i);unfold Qc at G;rw[u] at G;have R:=ah G;have z:=ah (V.out.trans A);have r:=ah k;clear G X k A I V;unfold bJ at R;go_wp2_with fail
 refine R.out.mono ?_;rintro e P ⟨v,rfl,N,⟨h,-⟩|⟨g',BA,rL,rb,h,-,n,rfl,-,q⟩⟩
 ·cases h
 injection h with h;injection h with q1 h;injection h with q2 q3;subst q1;subst q2;subst q3;have y:=z.out.trans (iV N);have f:Ez P F a sb d D c bss:=⟨r.out.ext N,Y,g,J.out.step y,C,HP.out.step y,HL.out.step y,by rw[u],n⟩;have Q:=C.1;obtain⟨s,-⟩:=Z8 f.op;have m:=c4J s Q n;have t:=c1s f q.get m.1 m.2 (λp M=>by have:=c4K M;unfold maxLen;omega) Q
 have L:=ah t;have tH:=ah y;have U:=ah f.disk;clear N q n y f t s m Q R z r;unfold l9 at L;unfold l9;go_wp2_with fail
 refine(p_ 0 P).mono ?_;rintro e w4 ⟨rfl,rfl⟩;go_wp2_with fail
 refine L.out.mono ?_;rintro e w5 ⟨rfl,K⟩;have JK:=ah (tH.out.trans (iV K));have S:=ah (U.out.ext K);clear K L;go_wp2_with fail
 trivial
end
def encR(r:Rec):List UInt8:=summed (body r.seq r.key r.val r.del)
theorem c7Q:∀(x:dV),be (num x) x.length=x:=by
 intro x
 induction x with
 | nil=>rfl
 | cons b x d=>
  have a:(b.toNat*256^x.length+num x)/256^x.length=b.toNat:=by rw[Nat.add_comm,Nat.add_mul_div_right _ _ fU,Nat.div_eq_of_lt<|PX x,nS]
  have c:be (b.toNat*256^x.length+num x) x.length=x:=by rw[sC _ _ _ (ak _),Nat.add_comm,Nat.add_mul_mod_self_right,Nat.mod_eq_of_lt<|PX x];exact d
  rw[vR];show .ofNat _::be _ _=b::x;simp_all
theorem VQ(l:dV)(a b c:Nat):(l.drop a).take b++(l.drop (a+b)).take c=(l.drop a).take (b+c):=by rw[List.take_add,oK]
theorem WV{x:dV}(a:n=num x)(b:k=x.length):be n k=x:=by rw[a,b];exact c7Q x
theorem c2B{l:dV}{r:Rec}(h:dec l=some r):encR r=l.take r.size/\ik r.key r.val r.del=0/\r.seq<18446744073709551616:=by
 unfold dec at h;split at h
 rename_i c;injection h with h;subst h;unfold good at c;simp only[aI,bZ,j_,Bool.and_eq_false_iff,YS] at c;obtain⟨p,s,t,q,u,a,i⟩:=c;have n:((l.drop 4).take 8).length=8:=Pn
 have k:((l.drop 12).take 1).length=1:=Pn
 have j:((l.drop 13).take 1).length=1:=Pn
 have m:((l.drop 14).take 2).length=2:=Pn
 have d:((l.drop 16).take<|F5 l).length=F5 l:=Pn
 have b:((l.drop<|16+F5 l).take<|H9 l).length=H9 l:=Pn
 have o:body (num<|(l.drop 4).take 8) ((l.drop 16).take<|F5 l) ((l.drop<|16+F5 l).take<|H9 l) (decide<|L6 l=1)=(l.take<|16+F5 l+H9 l).drop 4:=by
  unfold body;rw[d,b,WV rfl n.symm,WV (n:=F5 l) rfl j.symm,WV (n:=H9 l) rfl m.symm,WV (k:=1) ?_ k.symm]
  rw[VQ l 4 8 1,VQ l 4 9 1,VQ l 4 10 2,VQ l 4 12<|F5 l,show 16+F5 l=4+(12+F5 l) by omega,VQ,fZ];congr 1
  omega
  show _=L6 l;by_cases e:L6 l=1
  rw[e];rfl
  rw[aK e];show 0=_;omega
 refine⟨?_,?_,?_⟩
 unfold encR summed;dsimp;rw[o,i,WV rfl<|Ea];conv=>rhs;rw[<-iy 4 (l.take<|16+F5 l+H9 l)]
 rw[kG,jS<|aj]
 unfold ik;dsimp;rw[d,b,if_neg<|aj,if_neg];rintro(h|⟨h,g⟩)
 omega
 simp_all
 have:=O3 (l.drop 4) 8;assumption
 cases h
theorem c52{x y:dV}{r:Rec}(h:dec x=some r)(j:x.length=r.size):dec (x++y)=some r:=by
 have e:(x++y).take r.size=x:=iL
 have f:r.size<=(x++y).length:=iL
 have i:=(Ak h).1;rw[<-e] at h;generalize x++y=l at h f;clear e j;let⟨n,k⟩:∃n,r.size=n:=⟨_,rfl⟩;rw[k] at h f i;have c:F5 (l.take n)=F5 l:=by unfold F5;rw[Ap l aj]
 have d:H9 (l.take n)=H9 l:=by unfold H9;rw[Ap l aj]
 have m:L6 (l.take n)=L6 l:=by unfold L6;rw[Ap l aj]
 unfold dec at h⊢;split at h
 rename_i b;injection h with h;have a:16+F5 l+H9 l=n:=by rw[<-k,<-h,<-c,<-d]
 have o:((l.take n).take n).drop 4=(l.take n).drop 4:=by rw[kG,Nat.min_self]
 have p:(l.take n).take 4=l.take 4:=by rw[kG,jS<|aj]
 rw[if_pos (by unfold good at b⊢;simp_all),<-h,c,d,m,Ap l<|aj,Ap l<|aj,Ap l<|aj]
 cases h
def c54:dec []=none:=rfl
def QI(r:Rec):Prop:=dec (encR r)=some r/\(encR r).length=r.size
theorem ZA{l:dV}{r:Rec}(h:dec l=some r):QI r:=by have e:=(c2B h).1;refine⟨by rw[e];exact tt h,?_⟩;rw[e,dH,jS (Ak h).2]
theorem b3H:∀(rs:List Rec)(n b:Nat)(a:dV),(∀r∈rs,QI r)->a.length=b->rs.length<n->(L9 n b (a++rs.flatMap encR)).map (·.2)=rs:=by
 intro rs
 induction rs with
 | nil=>
  intro n b a _ d g
  cases n with
  | zero=>rfl
  | succ=>
   have:(a++[].flatMap encR).drop b=[]:=iL
   rw[Hi (by rw[this];exact c54)]
   rfl
 | cons r rs l=>
  intro n b a c d g
  cases n with
  | zero=>cases g
  | succ n=>
   have f:=c r<|gQ ..;have e:(a++(r::rs).flatMap encR).drop b=encR r++rs.flatMap encR:=fU
   have j:dec ((a++(r::rs).flatMap encR).drop b)=some r:=by rw[e];exact c52 f.1 f.2
   simp only[L9,j,bD];congr 1
   have k:a++(r::rs).flatMap encR=a++encR r++rs.flatMap encR:=aZ
   rw[k];exact l n _ _ fU (by rw[aC,d,f.2])<|fU
theorem c55:∀(rs:List Rec),(∀r∈rs,QI r)->rs.length<=(rs.flatMap encR).length:=by
 intro rs
 induction rs with
 | nil=>simp
 | cons r rs c=>intro h;have d:=c λq b=>h q<|eX _ b;have a:=h r<|gQ ..;have:=(Ak a.1).1;rw[eY,aC,a.2,dK];omega
def yb{rs:List Rec}(h:∀r∈rs,QI r):(D7 (rs.flatMap encR)).map (·.2)=rs:=
 b3H _ _ 0 [] h rfl (Nat.lt_succ_of_le<|c55 _ h)
def Ah(bss:fJ)(n i:Nat)(p:Nat×Rec):Bool:=match A7 (O9 bss n) p.2.key with
 | none=>false
 | some g=>!p.2.del&&Af g (i,p)
def CZ(bss:fJ)(n i:Nat):List Rec:=((D7 (bss.getD i [])).filter (Ah bss n i)).map (·.2)
def wV(bss:fJ)(n i:Nat):List UInt8:=(CZ bss n i).flatMap encR
def lX(bss:fJ)(n:Nat):List (List UInt8):=((List.range n).map (wV bss n)).filter λb=>!b.isEmpty
theorem uB{bss:fJ}{i:Nat}:∀r∈CZ bss n i,QI r:=by intro r b;obtain⟨p,a,rfl⟩:=aQ.1 b;exact ZA<|Y3 (dQ.1 a).1
def Ag(key:Nm):List Rec->Option Rec
 | []=>none
 | r::l=>(Ag key l).or (if r.key=key then some r else none)
theorem b6u(key:Nm):∀l:List Fd,(lastOf key l).map (·.2.2)=Ag key (l.map (·.2.2)):=by
 intro l
 induction l with
 | nil=>rfl
 | cons f l a=>
  simp[lastOf,bD,Ag,<-a]
  cases lastOf _ l with
  | some=>rfl
  | none=>simp
def V7(bss:fJ):List Rec:=bss.flatMap λb=>(D7 b).map (·.2)
theorem B7{bss:fJ}(b:bss.length=n):V7 bss=(pq bss n).map (·.2.2):=by have a:=congrArg (List.map Prod.snd) (vn b);rw[g_] at a;show _=(pq _ n).map (Prod.snd∘.snd);rw[<-a];unfold F6;rw[List.map_flatten,g_];rfl
theorem c56{bss:fJ}(key:Nm):A7 (mQ (F6 bss)) key=(Ag key (V7 bss)).bind λr=>if r.del=true then none else some r.val:=by rw[vo rfl _,B7 rfl,<-b6u,Jy,Qu];cases lastOf _ _<;>rfl
theorem GB{bss:fJ}:V7 (lX bss n)=(List.range n).flatMap (CZ bss n):=by
 unfold lX V7;generalize List.range n=l
 induction l with
 | nil=>rfl
 | cons i l c=>
  rw[bD,eY,<-c,kL];have a:(D7<|wV bss n i).map _=CZ _ n i:=yb uB;split
  rw[eY,a]
  rename_i d;have:=by simpa using d
  rw[this] at a;rw[<-a];rfl
theorem wj(bss:fJ)(n:Nat):(List.range n).flatMap (CZ bss n)=((pq bss n).filter λf=>Ah bss n f.1 f.2).map (·.2.2):=by
 unfold pq;generalize List.range n=l
 induction l with
 | nil=>rfl
 | cons i l a=>rw[eY,eY,xg,aY,a];rw[Hw,g_];rfl
theorem c2C{bss:fJ}{f g:Fd}(h:f∈pq bss n)(e:g∈pq bss n)(d:g.1=f.1)(c:g.2.1=f.2.1):g=f:=by have b:=Y3 (Xb.1 e).2;rw[d,c,Y3 (Xb.1 h).2] at b;grind
def look_in{bss:fJ}{key:Nm}{f:Fd}(h:A7 (O9 bss n) key=some f):f∈pq bss n/\f.2.2.key=key:=have⟨a,c,b⟩:=ZK h;⟨Xb.2 ⟨a,c⟩,b⟩
theorem Ql{bss:fJ}{f:Fd}(d:f∈pq bss n):Ah bss n f.1 f.2=true<->A7 (O9 bss n) f.2.2.key=some f/\f.2.2.del=false:=by
 unfold Ah Af
 cases h:A7 (O9 _ n) _ with
 | none=>simp
 | some=>
  simp[aI,j_,bZ,dO];constructor
  rintro⟨a,b,c⟩;exact⟨c2C d (look_in h).1 b c,a⟩
  grind
theorem b9E{key:Nm}:∀{l:List Rec}{r:Rec},Ag key l=some r->r∈l/\r.key=key:=by
 intro l
 induction l with
 | nil=>intro r h;cases h
 | cons q l=>
  intro r h;unfold Ag at h
  cases e:Ag key l with
  | some=>grind
  | none=>
   rw[e] at h;split at h
   injection h with h;subst h;exact⟨gQ ..,kT⟩
   cases h
theorem b6v{key:Nm}:∀{l:List Rec},Ag key l=none->∀r∈l,r.key≠key:=by
 intro l
 induction l with
 | nil=>simp
 | cons q l=>
  intro h r a;unfold Ag at h
  cases e:Ag _ l with
  | some=>grind
  | none=>
   rw[e] at h;split at h
   cases h
   obtain rfl|a:=bI.1 a
   assumption
   grind
theorem c2E{bss:fJ}(key:Nm):Ag key ((List.range n).flatMap (CZ bss n))=(A7 (O9 bss n) key).bind λf=>if f.2.2.del=true then none else some f.2.2:=by
 rw[wj];have h:∀r∈((pq bss n).filter λf=>Ah bss n f.1 f.2).map (·.2.2),r.key=key->∃f,A7 (O9 bss n) key=some f/\f.2.2.del=false/\f.2.2=r:=by intro r k c;obtain⟨f,l,rfl⟩:=aQ.1 k;let⟨d,e⟩:=dQ.1 l;let⟨a,b⟩:=(Ql d).1 e;grind
 cases g:Ag _ _ with
 | some=>let⟨a,b⟩:=b9E g;grind
 | none=>
  cases c:A7 (O9 _ n) _ with
  | none=>rfl
  | some f=>
   rw[fK];split
   rfl
   let⟨a,b⟩:=look_in c;refine absurd b (b6v g _<|aQ.2 ⟨f,dQ.2 ⟨a,(Ql a).2 ⟨fU,fU⟩⟩,rfl⟩)
theorem c2F{A B:List (Nm×Nm)}(c:A.Pairwise λa b=>a.1<b.1)(g:B.Pairwise λa b=>a.1<b.1)(h:∀k,A7 A k=A7 B k):A=B:=by
 have l:∀{A:List (Nm×Nm)},A.Pairwise (λa b=>a.1<b.1)->(A.map _).Nodup:=λc=>(eu.2 c).imp λh e=>fU
 have sb:∀{A B:List _},A.Pairwise _->B.Pairwise (λa b=>a.1<b.1)->(∀k,A7 A k=A7 B k)->∀p∈A,p∈B:=λ{A B}c g h p j=>by have:=FA (l c) j;rw[h] at this;exact Y4 this
 have d:∀{A:List _},A.Pairwise _->A.Nodup:=λc=>(eu.1<|l c).imp λh e=>h<|congrArg _ e;exact ((jf (d c)<|d g).2 λp=>⟨sb c g h p,sb g c (λk=>(h k).symm) p⟩).eq_of_pairwise (λa b _ _ n m=>absurd (Std.lt_trans n m) pV) c g
theorem c2G{bss:fJ}(a:bss.length=n):mQ (F6 (lX bss n))=mQ (F6 bss):=by
 refine c2F (MP _) (MP _) λk=>?_;rw[c56,GB,c2E,vo a]
 grind
def FT(p:Nat×Nat):Value:=.agg #[.int .i64 p.1,.int .i64 p.2]
theorem pu(a b:Nat×Nat)(h:FT a=FT b):a=b:=by obtain⟨a,b'⟩:=a;unfold FT at h;simp at h;ext<;>simp<;>omega
def c9e:laidOutB prog=true:=aW
def pt:Keyed prog 158:=Keyed.of_law (deep_law_laid (m:=2) c9e aj (dJ aW) aW aW)
theorem dE{a:Nat}(ha:a<=1099511627776)(hb:b<=1099511627776):∃t,keyOf prog 158 (FT (a,b))=some t:=by
 have wf:∀c:Nat,c<=1099511627776->(Lit.int .i64 c).wf=true:=λc hc=>by unfold Lit.wf;rw[aI,bZ,bZ];exact⟨by show(-9223372036854775808:Int)<=_;omega,by show _<=(9223372036854775807:Int);omega⟩
 have hk:prog.keyType 158=true:=aW
 have hf:(FT (a,b)).formed prog 158=true:=aW
 have hc:prog.cellsOf 158=2:=aW
 have hc3:prog.cellsOf 3=1:=aW
 have hcl:(FT (a,b)).cells.toList=[.int .i64 a,.int .i64 b]:=rfl;obtain⟨m,hm⟩:=Nat.exists_eq_succ_of_ne_zero (show prog.types.size≠0 from dJ aW);unfold keyOf;rw[underlying158];dsimp only;rw[hk,hf,hcl,hm];simp[Program.keyLits,underlying158,hc,hc3,wf _ ha,wf _ hb]
def sV(w:aB)(r:Nat):Prop:=∃l:List ((Nat×Nat)×Int),MapOf prog 158 FT (Value.int .i64) w r l/\∀p∈l,p.2=0
theorem sV.ext{w w':aB}{r:Nat}(h:sV w r)(hE:Ext w w'):sV w' r:=by obtain⟨l,h1,h2⟩:=h;exact⟨l,h1.ext hE,h2⟩
theorem sV.look{w:aB}(h:sV w r){a:Nat}(ha:a<=1099511627776)(hb:b<=1099511627776):(Instr.lookup 253 (.map (some r)) (.agg #[.int .i64 a,.int .i64 b]) false).run prog w=.ok (.int .i64 0) w:=by
 obtain⟨l,h1,h2⟩:=h;obtain⟨t,ht⟩:=dE ha hb;have:=h1.look pt pu underlying253 (VU w) ht;rw[show FT (a,b)=.agg #[.int .i64 a,.int .i64 b] from rfl] at this;rw[this]
 cases e:A7 l (a,b) with
 | none=>rfl
 | some y=>obtain rfl:y=0:=h2 _ (Y4 e);rfl
theorem sV.put{w:aB}(h:sV w r){a:Nat}(ha:a<=1099511627776)(hb:b<=1099511627776):∃w',(Instr.mapUpdate 253 (.map (some r)) (.agg #[.int .i64 a,.int .i64 b]) (.int .i64 0)).run prog w=.ok () w'/\sV w' r/\Off r w w':=by
 obtain⟨l,h1,h2⟩:=h;obtain⟨t,ht⟩:=dE ha hb;obtain⟨w',e1,e2,e3⟩:=h1.store pt pu underlying253 ht 0;refine⟨w',e1,⟨_,e2,λp hp=>?_⟩,e3⟩;rcases Jq hp with h|h
 ·rw[h]
 ·exact h2 p h
theorem b1X(l:fC)(x y:Int):(l++[x]).contains y=(l.contains y||x==y):=by rw[rE,rD,mg,mg,aP,dB,fO];exact⟨Or.imp id Eq.symm,Or.imp id Eq.symm⟩
theorem b77{l:fC}(hk:k<l.length):l.take (k+1)=l.take k++[l.getD k 0]:=by rw[cO,au hk,aT,au hk];rfl
def idx(l:fC)(x:Int):Int:=if l.contains x=true then(l.idxOf x:Nat) else -1
theorem c6F{l:fC}{x:Int}(hk:k<l.length)(h:(l.take k).contains x=false)(hx:l.getD k 0=x):idx l x=k:=by
 have hkx:l[k]=x:=by rw[aT,au hk] at hx;exact hx
 have hm:l.contains x=true:=by rw[mg,<-hkx];exact bQ hk
 unfold idx;rw[if_pos hm];have e:l=l.take k++(l[k]::l.drop (k+1)):=by rw[<-gy hk,iy]
 have hn:x∉l.take k:=λhmm=>by rw[<-mg,h] at hmm;cases hmm
 rw[e,List.idxOf_append,if_neg hn,hkx,List.idxOf_cons_self,dH];simp;omega
theorem c0N(v:aX)(l:fC)(x:Int)(w:aB)(h:Ints w v l)(hl:l.length<=60):Calls prog 136 #[v,.int .i64 x] w λe w'=>e=.returned (.int .i64 (idx l x))/\w'=w:=by
 obtain⟨va,vc,rfl,DZ,qa8,-⟩:=h.open;obtain⟨n,hn⟩:∃n,l.length=n:=⟨_,rfl⟩;obtain⟨r,hr⟩:∃r,idx l x=r:=⟨_,rfl⟩;have H:=ah h;have HN:=ah hn;have HR:=ah hr;rw[hn] at hl DZ⊢;rw[hr];clear h hn hr;go_enter func136,ntmps136
 go_wp2_with fail
 go_loopw [8] (λi wr=>∃k:Nat,i=.int .i64 k/\k<=n/\(l.take k).contains x=false/\wr=w) (λi _=>n - (intOf i).toNat)
 case atStart=>exact⟨0,rfl,aj,aZ,rfl⟩
 case round=>
  obtain⟨k,rfl,hk,hno,rfl⟩:=hrel;by_cases hlt:k<n
  ·obtain⟨vb,rfl,Ri⟩:=H.out.at (dh _) (k:=k) (by rw[HN.out];exact hlt);obtain⟨y,hy⟩:∃y,l[k]'(by rw[HN.out];exact hlt)=y:=⟨_,rfl⟩;have YC:l.getD k 0=y:=by rw[aT,au (by rw[HN.out];exact hlt)];exact hy
   rw[hy] at Ri;have hki:(k:Int)<(n:Int):=aj
   by_cases hxy:x=y
   ·have hfin:r=(k:Int):=by rw[<-HR.out];exact c6F (by rw[HN.out];exact hlt) hno (YC.trans hxy.symm)
    subst hxy;have HF:=ah hfin;clear hno hy YC hfin;go_wp2_with fail
    exact bodyPost_ret (v:=.int .i64 k) (by simp[results,results136]) rfl ⟨by rw[HF.out],rfl⟩
   ·have TT:(l.take (k+1)).contains x=false:=by rw[b77 (by rw[HN.out];exact hlt),b1X,hno,YC,mW];exact bG.2 (dI hxy)
    have LA:=ah TT;clear hno TT hy YC;go_wp2_with fail
    go_roundw
    case rel=>exact⟨k+1,iE,aj,LA.out,qc⟩
    case measure=>simp[intOf];omega
  ·obtain rfl:k=n:=aj
   have hfin:r = -1:=by rw[<-HR.out];unfold idx;rw[bU (by rw[HN.out];exact ak _)] at hno;rw[if_neg (by rw[hno];decide)]
   subst hfin;clear hno;go_wp2_with fail
   exact bodyPost_ret (v:=.int .i64 (-1)) (by simp[results,results136]) rfl ⟨rfl,rfl⟩
def Eo(n k:Nat):List Value:=(List.range n).map λi=>.int .i64 (if i<k then 1 else 0)
theorem bS(n k i:Nat):(Eo n k)[i]?=if i<n then some (.int .i64 (if i<k then 1 else 0)) else none:=by unfold Eo;grind
theorem wm{i:Nat}(a:i<n):(Eo n k).toArray[i]?=some (.int .i64 (if i<k then 1 else 0)):=by rw[jh,bS,if_pos a]
theorem b9D(a:k<n):(Eo n k).toArray.setIfInBounds k (.int .i64 1)=(Eo n (k+1)).toArray:=by
 rw[M_];congr 1
 refine jC λi=>?_;rw[List.getElem?_set,bS,bS,show(Eo n k).length=n by simp[Eo]];by_cases c:k=i
 subst c;rw[if_pos rfl,if_pos a,if_pos a,if_pos<|aj]
 grind
theorem b4S(n:Nat):List.replicate n (Value.int .i64 0)=Eo n 0:=by refine jC λi=>?_;rw[bS,List.getElem?_replicate,if_neg (by omega:¬i<0)]
theorem c7O{l:fC}(h:l.Nodup)(a:k<l.length):idx l l[k]=k:=by unfold idx;grind
structure Mr(w:World)(sb mb fb old tr n k:Nat)(L:List Nm):Prop where
 box:o6 w mb 255 #[l9 sb,.slice (some ⟨fb,0,none⟩) n n,.map (some old),.slice none 0 0,.map (some tr)]
 row:o6 w fb 257 (Eo n k).toArray
 old:sV w old
 tk:vG w tr (wZ L)
def Mr.ext{w w':aB}{sb b fb old c n k:Nat}{L:List Nm}(h:Mr w sb b fb old c n k L)(a:Ext w w'):Mr w' sb b fb old c n k L:=
 ⟨(a.block b h.box.lt).trans h.box,(a.block _ h.row.lt).trans h.row,h.old.ext a,h.tk.ext a⟩
def sV.block{w w':aB}(h:sV w r)(a:w'.heap[r]?=w.heap[r]?):sV w' r:=have⟨l,c,b⟩:=h;⟨l,c.block a,b⟩
def sV.lt{w:aB}(h:sV w r):r<w.heap.size:=h.choose_spec.1.lt
def Mr.mark{w:aB}{sb fb old a:Nat}{L:List Nm}(h:Mr w sb b fb old a n k L)(c:k<n)(f:b≠fb)(d:old≠fb)(e:a≠fb):Mr (w.setCell ⟨fb,k,none⟩ (.int .i64 1)) sb b fb old a n (k+1) L:=
 ⟨(Below.heap_setCell _ _ _ _ f).trans h.box,b9D c▸h.row.set k _,h.old.block<|Below.heap_setCell _ _ _ _ d,h.tk.block<|Below.heap_setCell _ _ _ _ e⟩
def Mr.kt{w w':aB}{sb fb old a:Nat}{L:List Nm}(h:Mr w sb b fb old a n k L)(f:sV w' old)(c:Off old w w')(g:b≠old)(e:fb≠old)(d:a≠old):Mr w' sb b fb old a n k L:=
 ⟨(c.block b g).trans h.box,(c.block _ e).trans h.row,f,h.tk.block<|c.block a d⟩
def Mr.kr{w w':aB}{sb fb old a:Nat}{L L':List Nm}(h:Mr w sb b fb old a n k L)(f:vG w' a (wZ L'))(c:Off a w w')(d:b≠a)(e:fb≠a)(g:old≠a):Mr w' sb b fb old a n k L':=
 ⟨(c.block b d).trans h.box,(c.block _ e).trans h.row,h.old.block<|c.block _ g,f⟩
theorem b6p{L:List Nm}{x:Nm}(b:L[k]?=some x)(f:L.Nodup):X4 (wZ (L.take k)) x 1=wZ (L.take (k+1)):=by
 unfold X4;have e:(wZ<|L.take k).map (·.1)=L.take k:=by unfold wZ;rw[g_];exact List.map_id _
 rw[e,if_neg (λh=>by
  let⟨j,d,e⟩:=List.getElem_of_mem h;have g:j<k:=by rw[dH] at d;omega
  let⟨i,c⟩:=aJ.1 b;rw[List.getElem_take] at e;have:=(List.getElem_inj f).1<|e.trans c.symm;omega),cO,b];simp[wZ]
def c7P(sb n:Nat)(L:List Nm)(w:aB)(e:Ending)(w':aB):Prop:=
 ∃b d a c,e=.returned (.tuple #[l9 b,.nilIface])/\Mr w' sb b d a c n n L/\w.heap.size<=b/\w.heap.size<=d/\w.heap.size<=a/\w.heap.size<=c/\Ext w w'
theorem c2u(sb a gen:Nat)(F:tyP)(dd:D)(v:aX)(ids:fC)(bss:fJ)(w:aB)(hst:Df w sb a gen ids bss)(hD:o7 w F a dd)(hv:Ints w v ids)(hnd:ids.Nodup)(h0:ids≠[])(pO:ids.length<=60)
 (hl:∀i,(bss.getD i []).length<=1099511627776)(hdn:(dd.now.map (·.1)).Nodup)(hnl:dd.now.length<=32768)(hnm:∀p∈dd.now,p.1.length<=1000000):
 Calls prog 81 #[l9 sb,v] w (c7P sb ids.length dd.list w):=by
 obtain⟨ia,ic,Cb,r,vv,hb,hii,hsg,hla,hbl⟩:=hst;obtain⟨va,vc,rfl,DZ,sN,-⟩:=id hv.open;have b0:=(hb.cell 0).trans (show _=some (l9 a) from rfl);have b2:=(hb.cell 2).trans (show _=some (Value.slice ia ids.length ic) from rfl);have b3:=(hb.cell 3).trans (show _=some (Value.slice (some ⟨Cb,0,none⟩) ids.length ids.length) from rfl);have hix:=λ(W:aB)(hE:Ext w W)(x:Int)=>c0N _ ids x W (hii.ext hE) pO;have hmk:=run_make_row' (P:=prog) 252 257 (.int .i64 0) 8 underlying252 aW rfl .i64 .i64 ids.length aj aj w;have hmm:=@run_makeMap prog;have hpos:0<ids.length:=uN.2 h0;have hne:((ids.length:Int)==0)=false:=bG.2 aj;have hat:∀k,k<ids.length->idx ids (ids.getD k 0)=k:=λk hk=>by rw[aT,au hk];exact c7O hnd hk
 obtain⟨n,hn⟩:∃n,ids.length=n:=⟨_,rfl⟩;obtain⟨w1,hw1⟩:∃w1,(((w.alloc (.cells (madeCells #[.int .i64 0] n) 257)).alloc (.map #[] 0)).alloc (.map #[] 0)).alloc (.cells #[.pointer (some sb),.slice (some ⟨w,0,none⟩) n n,.map (some (w+1)),.slice none 0 0,.map (some (w+1+1))] 255)=w1:=⟨_,rfl⟩;have hE1:Ext w w1:=hw1▸((((dh w).new _).new _).new _).new _;have hmr:Mr w1 sb (w+1+1+1) w (w+1) (w+1+1) n 0 []:=by
  refine⟨hw1▸jR _ _ aZ,?_,⟨[],?_,λ_ h=>by cases h⟩,?_⟩
  ·rw[<-b4S,<-hw1];show(World.heap _)[_]?=_;refine(heap_alloc_old _ _ (by simp<;>omega)).trans ((heap_alloc_old _ _ (by simp<;>omega)).trans ((heap_alloc_old _ _ aZ).trans ((heap_alloc_new w _).trans ?_)));rw[sf]
  ·rw[<-hw1];have:=MapOf.made (P:=prog) (k:=158) (kf:=FT) (vf:=Value.int .i64) (w.alloc (.cells (madeCells #[.int .i64 0] n) 257));rw[show(w.alloc (.cells (madeCells #[.int .i64 0] n) 257)).heap.size=w+1 by simp] at this;exact(this.block (heap_alloc_old _ _ aZ)).block (heap_alloc_old _ _ (by simp<;>omega))
  ·rw[<-hw1];have:=MapOf.made (P:=prog) (k:=9) (kf:=bJ) (vf:=Value.int .i64) ((w.alloc (.cells (madeCells #[.int .i64 0] n) 257)).alloc (.map #[] 0));rw[show((w.alloc (.cells (madeCells #[.int .i64 0] n) 257)).alloc (.map #[] 0)).heap.size=w+1+1 by simp] at this;exact this.block (heap_alloc_old _ _ aZ)
 obtain⟨fb,hfb⟩:∃fb,w.heap.size=fb:=⟨_,rfl⟩;obtain⟨old,hold⟩:∃old,w.heap.size+1=old:=⟨_,rfl⟩;obtain⟨tr,htr⟩:∃tr,w.heap.size+1+1=tr:=⟨_,rfl⟩;obtain⟨mb,hmb⟩:∃mb,w.heap.size+1+1+1=mb:=⟨_,rfl⟩;have hbs:fb<old/\old<tr/\tr<mb/\w.heap.size<=fb:=aj
 rw[hmb] at hmr;rw[htr,hold,hfb] at hw1 hmr;rw[hn] at hix;have HD:=ah hD;have HV:=ah hv;have qA:=ah hsg;have HIX:=ah hix;have XW:=ah hnd;have HN:=ah hn;have HL:=ah hl;have nR:=ah hnm;have HAT:=ah hat;have HW1:=ah hw1;have HMR:=ah hmr;have lQ:=ah hE1;have zL:=ah hbs;have M7:=ah hfb;have HOLD:=ah hold;have HTR:=ah htr;have HMB:=ah hmb;clear hD hv hsg hix hnd hl hnm hla hb hii hat hw1 hmr hE1 hbs;rw[hn] at hpos hne hmk b2 b3 pO⊢;clear hn;rw[hfb] at hmk;clear hfb hold htr hmb;unfold l9 at *;go_enter func81,ntmps81
 go_wp2_with fail
 rw[HMB.out,HTR.out,HOLD.out,HW1.out];go_loopw [30] (λi wr=>∃k:Nat,i=.int .i64 k/\k<=n/\Mr wr sb mb fb old tr n k []/\Ext w wr) (λi _=>n - (intOf i).toNat)
 case atStart=>exact⟨0,rfl,aj,HMR.out,lQ.out⟩
 case round=>
  obtain⟨k,rfl,hk,hM,hE⟩:=hrel;by_cases hlt:k<n
  ·have hki:(k:Int)<(n:Int):=aj
   have hkn:k<ids.length:=by have:=HN.out;omega
   obtain⟨xb,rfl,oQ⟩:=Ints.at HV.out hE hkn;have hidx:=HAT.out k hkn;rw[aT,au hkn,aG] at hidx;obtain⟨x,hxe⟩:∃x,ids[k]=x:=⟨_,rfl⟩;rw[hxe] at hidx oQ;have hx:=HIX.out wr hE x;rw[hidx] at hx;have m1:=(hM.box.cell 1).trans (show _=some (Value.slice (some ⟨fb,0,none⟩) n n) from rfl);have fk:=(hM.row.cell k).trans (wm hlt);rw[if_neg (Nat.lt_irrefl k)] at fk;have ff:=hM.row.free k;have b2r:=hE.cell b2;have hM2:∀wz,wz=wr.setCell ⟨fb,k,none⟩ (.int .i64 1)->Mr wz sb mb fb old tr n (k+1) []/\Ext w wz:=by rintro wz rfl;have hbs:=zL.out;exact⟨hM.mark hlt aj aj aj,hE.qF (a:=⟨fb,k,none⟩) hbs.2.2.2⟩
   have HX:=ah hx;have JH:=ah hM2;clear hx hM2 hidx hxe;go_wp2_with fail
   refine HX.out.mono ?_;rintro e w2 ⟨rfl,rfl⟩;have hi0:¬((k:Int)<0):=aj
   go_wp2_with fail
   go_roundw
   case rel=>exact⟨k+1,iE,aj,JH.out _ rfl⟩
   case measure=>simp[intOf];omega
  ·obtain rfl:k=n:=aj
   have b0r:=hE.cell b0;have hlist:=vh F a dd wr (HD.out.ext hE) hnl;have hsl:∀x∈dd.list,x.length<=1000000:=λx hx=>by rw[zu] at hx;obtain⟨p,hp,rfl⟩:=aQ.1 hx;exact nR.out p hp
   have htl:=hM.tk.lt;have QT:=ah hlist;have HM:=ah hM;have HE:=ah hE;have HSL:=ah hsl;clear hlist hM hE hsl;unfold l9 at QT;go_wp2_with fail
   refine QT.out.mono ?_;rintro e w2 ⟨nv,rfl,hN,hE2⟩;have hll:dd.list.length<=32768:=by unfold D.list;simpa using hnl
   obtain⟨na,nc,rfl⟩:=ownsRow_form hN;have hM2:=HM.out.ext hE2;have U_:=HE.out.trans hE2;have XY:=ah hN;have JH:=ah hM2;have HE2:=ah U_;clear hN hM2 hE2 U_ HM QT;go_wp2;go_loopw [71] (λi wr=>∃j:Nat,i=.int .i64 j/\j<=dd.list.length/\Mr wr sb mb fb old tr k k (dd.list.take j)/\Ext w wr/\Off tr w2 wr) (λi _=>dd.list.length - (intOf i).toNat)
   case atStart=>exact⟨0,rfl,aj,JH.out,HE2.out,Off.refl _ _⟩
   case round=>
    obtain⟨j,rfl,hj,hM,hE,hC⟩:=hrel;have hbs:=zL.out;by_cases hjl:j<dd.list.length
    ·obtain⟨nm,hnm⟩:∃nm,dd.list[j]?=some nm:=⟨_,au hjl⟩;have IK:uH wr _ (.slice na dd.list.length nc) dd.list:=jH.row XY.out wr λb hb=>hC.block b (by have:=(World.ownsRow.lt XY.out b hb).1;omega);obtain⟨nb,S4,BI,hcell⟩:=IK.cell hnm;injection BI with e1 e2 e3;subst e1;subst e3;have hkl:=HSL.out nm (aH hnm);have t4:=(hM.box.cell 4).trans (show _=some (Value.map (some tr)) from rfl);obtain⟨w3,hrun,hK,hO⟩:=hM.tk.store X0 U0 underlying247 (vI (l:=nm) lJ) 1;rw[b6p hnm (BW hdn)] at hK;have af:=hM.kr hK hO aj aj aj;have jM:Ext w w3:=Ext.off hE hO aj;have QO:=ah af;have qO:=ah jM;have tH:=ah (hC.trans hO);clear af jM hK hO hM hE hC IK e2 hnm;unfold bJ at hcell hrun;go_wp2;go_roundw
     case rel=>exact⟨j+1,iE,aj,QO.out,qO.out,tH.out⟩
     case measure=>simp[intOf];omega
    ·obtain rfl:j=dd.list.length:=aj
     rw[bK] at hM;have b3r:=((dh wr).new (.map #[] 0)).cell (hE.cell b3);obtain⟨w3,hw3⟩:∃w3,wr.alloc (.map #[] 0)=w3:=⟨_,rfl⟩;obtain⟨st,hst⟩:∃st,wr.heap.size=st:=⟨_,rfl⟩;have jM:Ext wr w3:=hw3▸(dh wr).new _;have hK3:vG w3 st []:=hst▸hw3▸MapOf.made wr;have hso:old<st/\w.heap.size<=st:=by have h1:=hM.old.lt;have h2:=hE.size;omega
     have HK3:=ah hK3;have QO:=ah (hM.ext jM);have qO:=ah (hE.trans jM);have HW3:=ah hw3;have HST:=ah hst;clear hM hE hC jM hK3 hw3 hst hbs;go_wp2_with fail
     rw[HST.out,HW3.out];go_loopw [87] (λi wr=>∃j:Nat,i=.int .i64 j/\j<=k/\Mr wr sb mb fb old tr k k dd.list/\vG wr st []/\Ext w wr) (λi _=>k - (intOf i).toNat)
     case atStart=>exact⟨0,rfl,aj,QO.out,HK3.out,qO.out⟩
     case round=>
      rename World=>wq
      obtain⟨j,rfl,hj,hM,hK,hE⟩:=hrel;by_cases hjk:j<k
      ·have hji:(j:Int)<(k:Int):=aj
       obtain⟨s1,u,s2,hrow⟩:=qA.out j (by rw[HN.out];exact hjk);obtain⟨ua,uc,rfl⟩:=hrow.slice;have s1':wq.cell? ⟨Cb,j*2,none⟩=some (.int .i64 (ids.getD j 0)):=by rw[jy];exact hE.cell s1
       have s2':wq.cell? ⟨Cb,j*2+1,none⟩=some (.slice ua (D7 (bss.getD j [])).length uc):=by rw[jy];exact hE.cell s2
       have hlen:=Xp (bss.getD j []);have hlj:=HL.out j;have hkey:∀p∈D7 (bss.getD j []),p.2.key.length<=16:=λp hp=>AE _ p hp;have hoff:∀p∈D7 (bss.getD j []),p.1<=1099511627776:=λp hp=>by have h2:=Ak (Y3 hp);rw[fG] at h2;omega
       obtain⟨L,hL⟩:∃L,D7 (bss.getD j [])=L:=⟨_,rfl⟩;rw[hL] at hrow s2' hlen hkey hoff;have oS:L.length<=1099511627776:=aj
       have HR:=ah hrow;have HKEY:=ah hkey;have Nr:=ah hoff;obtain⟨lx,Uh⟩:∃lx,ids.getD j 0=lx:=⟨_,rfl⟩;rw[Uh] at s1';obtain⟨w5,hw5⟩:∃w5,wq.alloc (.cells #[.int .i64 lx,.slice ua L.length uc] 154)=w5:=⟨_,rfl⟩;have kE:Ext wq w5:=hw5▸(dh wq).new _;have L2:=ah (hM.ext kE);have ft:=ah (hK.ext kE);have rM:=ah (hE.trans kE);have eW:=ah hw5;clear hrow hkey hoff hM hK hE kE hw5 hL hlen hlj Uh s1 s2;go_wp2_with fail
       rw[eW.out];go_loopw [95] (λi wr=>∃m:Nat,i=.int .i64 m/\m<=L.length/\Mr wr sb mb fb old tr k k dd.list/\vG wr st []/\Ext w wr) (λi _=>L.length - (intOf i).toNat)
       case atStart=>exact⟨0,rfl,aj,L2.out,ft.out,rM.out⟩
       case round=>
        rename World=>wi
        obtain⟨m,rfl,hm,hM,hK,hE⟩:=hrel;have hbs:=zL.out;by_cases hml:m<L.length
        ·have mw:(m:Int)<(L.length:Int):=aj
         obtain⟨g,cap,hu,hcap,hgl,hcells⟩:=oP.rec (HR.out.keep λg hg=>hE.block g (HR.out.lt hg)) hml;injection hu with h1 h2 h3;subst h1;subst h3;obtain⟨P,hP⟩:∃P,L[m]=P:=⟨_,rfl⟩;have hpm:P∈L:=hP▸bQ hml;rw[hP] at hcells;have hkl:=HKEY.out P hpm;have hof:=Nr.out P hpm;have f0:=hcells 0 _ rfl;have f1:=hcells 1 _ rfl;have f2:=hcells 2 _ rfl;have f3:=hcells 3 _ rfl;have f4:=hcells 4 _ rfl;have f5:=hcells 5 _ rfl;have f6:=hcells 6 _ rfl;rw[iP] at f0;obtain⟨wA,hwA⟩:∃wA,wi.alloc (.cells #[.int .i64 j,.int .i64 P.1,.int .i64 P.2.size,.int .u64 P.2.seq,.string ⟨P.2.key.toArray⟩,.string ⟨P.2.val.toArray⟩,.bool P.2.del] 160)=wA:=⟨_,rfl⟩;have hx:o6 wA wi 160 #[.int .i64 j,.int .i64 P.1,.int .i64 P.2.size,.int .u64 P.2.seq,.string ⟨P.2.key.toArray⟩,.string ⟨P.2.val.toArray⟩,.bool P.2.del]:=hwA▸jR _ _ rfl;have hEa:Ext wi wA:=hwA▸(dh wi).new _;have UQ:=hM.ext hEa;have YK:=UQ.ext (Below.drew (dh wA):Ext wA wA.drew);have m1:=(UQ.box.cell 1).trans (show _=some (Value.slice (some ⟨fb,0,none⟩) k k) from rfl);have fk:=(UQ.row.cell j).trans (wm hjk);rw[if_pos hjk] at fk;have x0:=(hx.cell 0).trans (show _=some (Value.int .i64 j) from rfl);have x1:=(hx.cell 1).trans (show _=some (Value.int .i64 P.1) from rfl);have x4:=(hx.cell 4).trans (show _=some (Value.string ⟨P.2.key.toArray⟩) from rfl);have x6:=(hx.cell 6).trans (show _=some (Value.bool P.2.del) from rfl);have y0:wA.drew.cell? wi=_:=x0;have y1:wA.drew.cell? ⟨wi,1,none⟩=_:=x1;have y4:wA.drew.cell? ⟨wi,4,none⟩=_:=x4;have d2:=(YK.box.cell 2).trans (show _=some (Value.map (some old)) from rfl);have hlk:(Instr.lookup 247 (.map (some st)) (.string ⟨P.2.key.toArray⟩) false).run prog wA.drew=.ok (.int .i64 0) wA.drew:=
          ((hK.ext hEa).ext (Below.drew (dh wA))).look X0 U0 underlying247 (VU wA.drew) (vI (l:=P.2.key) lJ)
         obtain⟨w6,hput,yN,YP⟩:=YK.old.put (a:=j) (b:=P.1) aj hof;have UR:=YK.kt yN YP aj aj aj;have hK6:vG w6 st []:=((hK.ext hEa).ext (Below.drew (dh wA))).block (YP.block st aj);have mY:Ext w w6:=Ext.off (hE.trans (hEa.trans (Below.drew (dh wA)))) YP aj;have J1:=ah hwA;have HM6:=ah UR;have HK6:=ah hK6;have xq:=ah mY;have HMA:=ah UQ;have HKA:=ah (hK.ext hEa);have uh:=ah (hE.trans hEa);clear hwA UR hK6 mY UQ YK hx hEa hM hK hE yN YP hcells hP hpm x0 x1 x4;go_upto_region 24 with fail
         rw[J1.out];obtain⟨dl,hdl⟩:∃dl,P.2.del=dl:=⟨_,rfl⟩;rw[hdl] at x6;clear hdl;cases dl
         ·go_wp2_with fail
          go_roundw
          case rel=>exact⟨m+1,iE,aj,HMA.out,HKA.out,uh.out⟩
          case measure=>simp[intOf];omega
         ·go_upto_region 27 with fail
          go_region
          all_goals
           go_wp2_with fail
           go_roundw
           case rel=>exact⟨m+1,iE,aj,HM6.out,HK6.out,xq.out⟩
           case measure=>simp[intOf];omega
        ·obtain rfl:m=L.length:=aj
         have HF:=ah hM;have HK:=ah hK;have HE:=ah hE;clear hM hE hK;go_wp2;go_roundw
         case rel=>exact⟨j+1,iE,aj,HF.out,HK.out,HE.out⟩
         case measure=>simp[intOf];omega
      ·obtain rfl:j=k:=aj
       have hbs:=zL.out;have HF:=ah hM;have HE:=ah hE;clear hM hE hK;go_wp2;go_ret2
       exact⟨mb,fb,old,tr,rfl,HF.out,aj,aj,aj,aj,HE.out⟩
theorem b9F{α β:Type}(k:α->β):∀{l:List α},(l.map k).Nodup->∀f∈l,∀g∈l,k f=k g->f=g:=by
 intro l
 induction l with
 | nil=>simp
 | cons a l d=>
  intro h f b g c e;rw[bD,qZ] at h;obtain b|b:=bI.1 b<;>obtain c|c:=bI.1 c
  rw[b,c]
  exact absurd (aQ.2 ⟨g,c,fU⟩) h.1
  exact absurd fU h.1
  exact d h.2 f b g c e
theorem b6w(bss:fJ):∀n,(pq bss n).Pairwise λf g=>f≠g:=by
 intro n
 induction n with
 | zero=>exact .nil
 | succ n d=>
  rw[bR];refine List.pairwise_append.2 ⟨d,eu.2<|(a4J _ _ _).imp λh e=>?_,λf b g c e=>?_⟩
  injection e with _ e;rw[e] at h;exact Nat.lt_irrefl _ h
  have a:=(Xb.1 b).1;grind
structure Je(bss:List (List UInt8)):Prop where
 canon:∀b∈bss,((D7 b).map (·.2)).flatMap encR=b
 full:∀b∈bss,b≠[]
 keys:((V7 bss).map (·.key)).Nodup
 live:∀r∈V7 bss,r.del=false
theorem x_(bss:fJ)(n:Nat):Je (lX bss n):=by
 refine⟨λb h=>?_,λb h=>?_,?_,λr o=>?_⟩
 obtain⟨i,-,rfl⟩:=aQ.1 (dQ.1 h).1;show _=(CZ _ n i).flatMap _;have:(D7<|wV bss n i).map _=CZ _ n i:=yb uB;rw[this]
 have:=(dQ.1 h).2;rintro rfl;cases this
 rw[GB,wj,g_];have s:((pq bss n).filter λf=>Ah bss n f.1 f.2).Pairwise λf g=>f.2.2.key≠g.2.2.key:=by refine((b6w _ n).filter _).imp_of_mem λ{f g}l p k q=>k ?_;let⟨d,c⟩:=dQ.1 l;let⟨m,j⟩:=dQ.1 p;have a:=((Ql d).1 c).1;rw[q,((Ql m).1 j).1] at a;grind
 exact eu.2 s
 rw[GB,wj] at o;obtain⟨f,l,rfl⟩:=aQ.1 o;let⟨d,c⟩:=dQ.1 l;exact((Ql d).1 c).2
theorem b9G{bss:fJ}(h:Je bss)(c:bss.length=n){f:Fd}(a:f∈pq bss n):Ah bss n f.1 f.2=true:=by
 refine(Ql a).2 ⟨?_,h.live _<|by rw[B7 c];exact aQ.2 ⟨f,a,rfl⟩⟩;rw[Jy,Qu];have b:=h.keys;rw[B7 c,g_] at b;have i:lastOf f.2.2.key (pq bss n)=some f:=by
  cases e:lastOf _ _ with
  | none=>exact absurd rfl<|PT e f a
  | some g=>let⟨d,j⟩:=BS e;rw[b9F _ b g d f a j]
 grind
theorem b6x{bss:fJ}(h:Je bss)(e:bss.length=n):lX bss n=bss:=by
 have k:(List.range n).map (wV bss n)=bss:=by
  refine List.ext_getElem (by simp[e]) λi g c=>?_;rw[List.getElem_map,List.getElem_range];have a:bss.getD i []=bss[i]:=iL
  unfold wV CZ;rw[nP.2 λp f=>b9G h e (f:=(i,p))<|Xb.2 ⟨aj,f⟩,a];exact h.canon _<|bQ c
 unfold lX;rw[k];exact nP.2 λb a=>by
  have:=h.full b a
  grind
theorem Be:∀(l:List (Nat×Rec)),(∀p∈l,QI p.2)->((l.map (·.2)).flatMap encR).length=sizes l:=by
 intro l
 induction l with
 | nil=>intro _;rfl
 | cons p l d=>intro h;rw[bD,eY,aC,d λq b=>h q<|eX _ b,(h p<|gQ ..).2];rfl
theorem b3I(P:Nat×Rec->Bool):∀(l:List (Nat×Rec)),sizes (l.filter P)<=sizes l:=by
 intro l
 induction l with
 | nil=>simp
 | cons=>unfold sizes at *;rw[kL];split<;>simp<;>omega
theorem A6(bss:fJ)(n i:Nat):(wV bss n i).length<=(bss.getD i []).length:=by unfold wV CZ;rw[Be _ λp a=>ZA<|Y3 (dQ.1 a).1];exact ay (b3I _ _)<|Xx _
def total(bss:fJ):Nat:=(bss.map List.length).sum
theorem b6y{bss:fJ}(i:bss.length=n):total (lX bss n)<=total bss:=by
 have d:∀l,total (l.filter λb=>!b.isEmpty)<=total l:=by
  intro l
  induction l with
  | nil=>trivial
  | cons=>unfold total at *;rw[kL];split<;>simp<;>omega
 have e:∀k,k<=n->total ((List.range k).map<|wV bss n)<=total (bss.take k):=by
  intro k
  induction k with
  | zero=>simp
  | succ k=>
   intro j;have f:=A6 bss n k;have g:bss.getD k []=bss[k]'(by omega):=by rw[aT,au<|aj];rfl
   rw[g] at f;unfold total at *;rw[nM,aY,aY,qY,take_snoc bss k<|aj,aY,qY];simp only[bD,dS,mV];omega
 have c:=e n<|ak _;rw[bU aj] at c;exact ay (d _) c
def wW(l:fC):Int:=l.foldl max 0
theorem b6q(l:fC)(x:Int):wW (l++[x])=max (wW l) x:=by unfold wW;rw[lN];rfl
theorem b3D(rb gen:Nat)(ids:fC)(bss:fJ)(w:aB)(h:P5 w rb gen ids bss)(hn:ids.length<=60):
 Calls prog 87 #[l9 rb] w λe w'=>e=.returned (.int .i64 (wW ids))/\w'=w:=by
 obtain⟨n,hnn⟩:∃n,ids.length=n:=⟨_,rfl⟩;obtain⟨sa,sc,hb,hsc,hsc2,hbl,jo⟩:=id h;rw[hnn] at hb hsc hbl jo hn;have b1:=(hb.cell 1).trans (show _=some (Value.slice sa n sc) from rfl);have qA:=ah jo;have HN:=ah hnn;clear h jo hb hnn;unfold l9;go_enter func87,ntmps87
 go_wp2;go_loop [3,4] (λm i=>∃k:Nat,i=.int .i64 k/\k<=n/\m=.int .i64 (wW (ids.take k))) (λ_ i=>n - (intOf i).toNat)
 case atStart=>exact⟨0,rfl,aj,rfl⟩
 case round=>
  obtain⟨k,rfl,hk,rfl⟩:=hrel;by_cases hlt:k<n
  ·obtain⟨g,rfl,s0,-⟩:=qA.out k hlt;have hki:(k:Int)<(n:Int):=aj
   have hkn:k<ids.length:=by have:=HN.out;omega
   have hs:ids.take (k+1)=ids.take k++[ids.getD k 0]:=by rw[cO,au hkn,aT,au hkn];rfl
   have ht:wW (ids.take (k+1))=max (wW (ids.take k)) (ids.getD k 0):=by rw[hs,b6q]
   obtain⟨x,hx⟩:∃x,ids.getD k 0=x:=⟨_,rfl⟩;obtain⟨m,hm⟩:∃m,wW (ids.take k)=m:=⟨_,rfl⟩;rw[hx] at s0 ht;rw[hm] at ht⊢;have HT:=ah ht;clear ht hs hx hm;by_cases hgt:x>m
   ·have hd:decide (x>m)=true:=aN hgt;go_wp2_with fail
    exact⟨⟨k+1,iE,aj,by rw[HT.out,Int.max_eq_right aj]⟩,by simp[intOf];omega⟩
   ·have hd:decide (x>m)=false:=aK hgt;go_wp2_with fail
    exact⟨⟨k+1,iE,aj,by rw[HT.out,Int.max_eq_left aj]⟩,by simp[intOf];omega⟩
  ·obtain rfl:k=n:=aj
   have ht:ids.take k=ids:=by rw[<-HN.out,bK]
   rw[ht];go_wp2_with fail
   go_ret;exact⟨rfl,rfl⟩
namespace Dk
abbrev W9(l:List Nat):List Int:=l.map λ(n:Nat)=>(n:Int)
inductive D.Wr(d:D):List (Nat×List UInt8)->D->Prop
 | nil:D.Wr d [] d
 | snoc {l:List (Nat×List UInt8)} {e:D} (h:D.Wr d l e) (k:Nat) (b:List UInt8) {x:Nat} (hx:x∉e.ids):D.Wr d (l++[(k,b)]) (e.wrote (y7 D6 k) b x)
section
variable{d e:D}{l:List (Nat×List UInt8)}
theorem D.Wr.syn(h:d.Wr l e)(a:d.Syn):e.Syn:=by
 induction h with
 | nil=>exact a
 | snoc h k b c f=>exact f.wrote c
theorem D.Wr.room(h:d.Wr l e):e.room=d.room:=by
 induction h with
 | nil=>rfl
 | snoc h k b c a=>exact a
theorem D.Wr.len(h:d.Wr l e):e.now.length<=d.now.length+l.length/\e.moves.length=d.moves.length+l.length:=by
 induction h with
 | nil=>simp
 | @snoc l e h k b x=>have c:(e.wrote (y7 D6 k) b x).moves.length=e.moves.length+1:=aC ..;rw[c,aC,jZ];exact⟨ay (av _ _ x)<|aj,aj⟩
theorem D.Wr.bound(h:d.Wr l e)(g:∀x∈d.ids,(d.node x).data.length<=c)(a:∀p∈l,p.2.length<=c):∀x∈e.ids,(e.node x).data.length<=c:=by
 induction h with
 | nil=>exact g
 | @snoc l e h k b=>exact D.Syn.oD iL (a (k,b)<|aZ)
theorem D.Wr.off(h:d.Wr l e)(f:d.Syn){n:Nm}(a:∀p∈l,y7 D6 p.1≠n):e.file n=d.file n:=by
 induction h with
 | nil=>rfl
 | @snoc l e h k b x g i=>rw[(h.syn f).kX g,if_neg (dI (a (k,b)<|aZ)),i λp c=>a p<|tu _ c]
theorem D.Wr.on(h:d.Wr l e)(f:d.Syn)(c:(l.map λp=>y7 D6 p.1).Nodup):∀p∈l,e.file (y7 D6 p.1)=some p.2:=by
 induction h with
 | nil=>exactλp a=>by cases a
 | @snoc l e h k b x g i=>
  rw[aY,jB] at c;intro p a;rw[(h.syn f).kX g];obtain a|a:=aP.1 a
  rw[if_neg (c.2.2 _ (aQ.2 ⟨p,a,rfl⟩) _<|aZ)];exact i c.1 p a
  grind
theorem D.Wr.names(h:d.Wr l e)(c:∀p∈d.now,p.1.length<=1000000):∀p∈e.now,p.1.length<=1000000:=by
 induction h with
 | nil=>exact c
 | @snoc l e h k b x g f=>
  intro p a;obtain rfl|a:=Jq kT
  simp[y7,D6]
  exact f p a
theorem D.Wr.og(h:d.Wr l e)(f:d.moves=[]):∀l∈e.moves,l.length<=1000000/\∀m∈l,m.1.length<=1000000:=by
 induction h with
 | nil=>simp_all
 | @snoc l e h k b x i g=>
  intro q a;obtain a|a:=aP.1 kT
  exact g q a
  rw[dB.1 a];exact⟨aZ,λm c=>by rw[dB.1 c];simp[y7,D6]⟩
theorem a7F(k:Nat):y7 D6 k≠H5:=λh=>by have:=congrArg List.length h;simp[y7,D6,H5,y8] at this
theorem a90(k:Nat):y7 D6 k≠y8:=λh=>by have:=congrArg List.length h;simp[y7,D6,y8] at this
variable{mb:List UInt8}{ids:List Int}
theorem D.Com.names(h:d.Com mb ids e):∀n∈e.now.map (·.1),n=y8\/n∈d.now.map (·.1):=λn i=>by
 have b:e.file n≠none:=λc=>(G8.1<|gq.1 c) i;rw[h.file] at b;by_cases g:Z7 ids n=true
 rw[if_pos g] at b;by_cases f:n=y8
 exact .inl f
 rw[if_neg f] at b;exact .inr (bW λc=>b (gq.2<|G8.2 c))
 grind
theorem D.Com.len(h:d.Com mb ids e):e.now.length<=d.now.length+1:=by have:=h.safe.nodup.length_le_of_subset (l₂:=y8::d.now.map _) λn b=>(h.names n b).elim fU<|eX _;grind
theorem D.Com.tidy(h:d.Com mb ids e):PW e.files ids=true:=by
 unfold PW;rw[aU];intro p f;have c:p.1∈e.list:=by rw[<-Gk];exact ig f
 rw[zu] at c;have a:e.file _≠none:=λg=>(G8.1<|gq.1 g) c;rw[h.file] at a;by_cases b:Z7 ids p.1=true
 rw[Bool.or_comm (qW _ _)];exact b
 grind
end
theorem b4V{d:D}:∀(e:List Nat)(c a:fJ),e.length=c.length->(∀p∈e.zip c,d.file (y7 D6 p.1)=some p.2)->N8 d.files (W9 e) a=(some (a++c),[]):=by
 intro e
 induction e with
 | nil=>
  intro c a f _;obtain rfl:c=[]:=by cases c<;>simp_all
  rw[dX];rfl
 | cons k e g=>
  intro c a f h
  cases c with
  | nil=>cases f
  | cons b c=>show N8 _ (k::W9 e) a=_;rw[cL (b:=b) (by rw[Hl];simp_all),g c _ fU λp i=>h p<|iL];simp
structure Ready(d:D)(c:Nat)(gen:Nat)(ids:List Int)(bss:List (List UInt8)):Prop where
 safe:d.Safe
 synced:∀x∈d.ids,(d.node x).safe=(d.node x).data.length
 bound:∀x∈d.ids,(d.node x).data.length<=1048576
 room:d.room=1099511627776
 len:d.now.length<=c
 names:∀p∈d.now,p.1.length<=1000000
 op:G9 d.files=(some (gen,ids,bss),0,[])
 top:∀x∈ids,x<=c
theorem b1z{l:Fl}{c:fC}{bss:fJ}(h:(G9 l).1=some (g,c,bss)):Q7 c=true:=by
 cases d:A7 l y8 with
 | none=>rw[XB d] at h;cases h
 | some m=>
  cases a:bF m with
  | none=>rw[Qx d a] at h;cases h
  | some r=>
   let⟨j,i⟩:=r
   cases f:N8 l i [] with
   | mk o=>
    cases o with
    | none=>rw[QF d a f] at h;cases h
    | some=>
     rw[MH d a f] at h;injection h with h;injection h with _ h;injection h with h _;unfold bF Am at a;split at a
     rename_i e;injection a with a;injection a with _ a;simp at e;rw[<-h,<-a];exact e.2.2.2
     cases a
theorem Ready.small{d:D}{f:Nat}{a:fC}{bss:fJ}(h:Ready d c f a bss)(j:d.Wf):bss.length=a.length/\a.Nodup/\zk a/\∀i,(bss.getD i []).length<=1048576:=by
 have l:(G9 d.files).1=some (f,a,bss):=by rw[h.op]
 let⟨n,m⟩:=Z8 l;have b:=b1z l;unfold Q7 inRange at b;simp[aI,bZ,aU] at b;refine⟨n,b.2.2,⟨b.1,b.2.1⟩,λi=>?_⟩;obtain k|k:=bH i _
 have e:=m i k;unfold D.file at e
 cases g:A7 d.now (y7 D6 (a.getD i 0).toNat) with
 | none=>grind
 | some x=>rw[g] at e;injection e with e;rw[<-e];exact h.bound x (j.now _<|Y4 g)
 grind
structure Qa(d:D)(ids:List Int)(bss:List (List UInt8))(gU:List Nat):Prop where
 len:gU.length=(lX bss ids.length).length
 gv:∃(m:Nat)(g:Nat),(∀x∈ids,x<=m)/\(m:Int)∈ids/\Gv d.list (m+1) gU g
theorem ZR(bss:fJ)(n:Nat):(lX bss n).length<=n:=by unfold lX;grind
theorem Qa.ok{d:D}{c:fC}{bss:fJ}(h:Qa d c bss f)(p:c.length<=60):Q7 (W9 f)=true:=by
 let⟨m,g,o,l,k⟩:=h.gv;obtain⟨-,a,b,-,-⟩:=k.le;have n:=h.len;have:=ZR bss c.length;unfold Q7 inRange;simp only[aI,bZ,aU,bV];refine⟨aj,λx j=>?_,?_⟩
 obtain⟨r,i,rfl⟩:=aQ.1 j;have:=a r i;omega
 grind
theorem B6{bss:fJ}(h:∀i,(bss.getD i []).length<=c):∀b∈lX bss n,b.length<=c:=λb a=>by obtain⟨i,-,rfl⟩:=aQ.1 (dQ.1 a).1;exact ay (A6 _ n i)<|h i
end Dk
theorem Gv.names{L:List Nm}{f:Nat}{c:List Nat}(h:Gv L f c g)(i:fJ)(l:c.length<=i.length):((c.zip i).map λp=>y7 D6 p.1).Nodup:=by
 obtain⟨-,j,k,-,-⟩:=h.le;have r:(c.zip i).map (λp=>y7 D6 p.1)=c.map (y7 D6):=by
  have n:((c.zip i).map Prod.fst).map (y7 D6)=c.map (y7 D6):=by rw[List.map_fst_zip l]
  rw[<-n,g_];rfl
 rw[r];refine eu.2<|k.imp_of_mem λ{a b} q m o e=>?_;have:=cK (j a q).2.2.1 (j b m).2.2.1 e;omega
namespace Dk
theorem Ready.wr{d e:D}{bss:fJ}{l:List (Nat×List UInt8)}(h:Ready d c k i bss)(j:d.Wf)(A:c<=1000)(g:d.Wr l e)(q:∀p∈l,p.2.length<=1048576)(v:l.length<=60):
 e.Syn/\(∀b:dV,b.length<=1048576->(b.length:Int)<=e.room - e.used)/\e.moves.length<=60/\(∀x∈e.ids,(e.node x).data.length<=1048576)/\e.now.length<=1060/\(H5∈d.list<->A7 e.now H5≠none):=by
 have m:=h.safe.syn j h.synced;have o:=g.syn m;let⟨y,u⟩:=g.len;have f:=g.bound h.bound q;have s:=h.len;refine⟨o,λb q=>?_,by rw[u,h.safe.moves];simp_all,f,aj,?_⟩
 have z:=o.xB f;rw[g.room,h.room];omega
 rw[zu];have n:∀d:D,A7 _ H5=none<->d.file H5=none:=λd=>gq.symm;rw[ne_eq,n,g.off m λp _=>a7F _,<-n,G8,Classical.not_not]
theorem Ready.write{d e:D}{q f:Nat}{bss u:fJ}(h:Ready d c q s bss)(l:d.Wf)(A:c<=1000)(v:d.Wr ((m.zip u).take j) e)(z:∀b∈u,b.length<=1048576)(F:Gv d.list f m g)(L:m.length=u.length)(J:m.length<=60)(C:m[j]?=some k):
 e.Syn/\A7 e.now (y7 D6 k)=none/\(∀b:dV,b.length<=1048576->(b.length:Int)<=e.room - e.used)/\e.moves.length<=60/\(∀x∈e.ids,(e.node x).data.length<=1048576)/\e.now.length<=1060:=by
 obtain⟨M,r,w,-,-⟩:=F.le;let⟨a,n⟩:=aJ.1 C;obtain⟨B,y,G,E,I,-⟩:=h.wr l A v (λp o=>z _ (nN<|List.mem_of_mem_take o).2) fU;refine⟨B,?_,y,G,E,I⟩;refine gq.1 ((v.off (h.safe.syn l h.synced) λp o e=>?_).trans (gq.2<|G8.2 ?_))
 obtain⟨i,H,rfl⟩:=List.getElem_of_mem o;rw[List.getElem_take,List.getElem_zip] at e;have t:i<j:=by rw[dH] at H;omega
 have K:=QK.1 w i j aj a t;have N:=cK (r _<|bQ _).2.2.1 (r k<|n▸bQ a).2.2.1 e;omega
 rw[<-zu];exact(r k<|n▸bQ a).2.2.2
theorem Ready.merged{d d1 e:D}{b:fC}{bss:fJ}(h:Ready d c j b bss)(w:d.Wf)(N:b.length<=60)(U:∀i,(bss.getD i []).length<=1048576)(C:Qa d b bss f)
 (u:d.Wr (f.zip (lX bss b.length)) d1)(n:d1.Com (summed (U8 ((j+1)%18446744073709551616) (W9 f))) (W9 f) e):
 Ready e (2*c+121) ((j+1)%18446744073709551616) (W9 f) (lX bss b.length)/\(∀x∈f,wW b<(x:Int)):=by
 obtain⟨m,g,S,T,E⟩:=id C.gv;obtain⟨Y,H,X,-,-⟩:=E.le;have R:=E.bound;have V:d.list.length=d.now.length:=by unfold D.list;simp
 have O:=ZR bss b.length;have s:=C.len;have L:=h.top _ T;have I:=h.len;let⟨M,v⟩:=u.len;have z:(f.zip (lX bss b.length)).length=f.length:=iL
 rw[z] at M;refine⟨⟨n.safe,n.synced,n.bound _ (by unfold summed U8;simp[aC,H7,U6,bV];omega)<|u.bound h.bound λp o=>B6 U _ (nN o).2,n.room.trans<|u.room.trans h.room,?_,λp o=>?_,?_,λx t=>?_⟩,λx t=>?_⟩
 have:=n.len;omega
 obtain e|e:=n.names p.1 (aQ.2 ⟨p,o,rfl⟩)
 rw[e];decide
 let⟨q,J,e⟩:=aQ.1 e;exact e▸u.names h.names q J
 refine MH (m:=summed (U8 ((j+1)%18446744073709551616)<|W9 f)) ?_ ?_<|b4V f _ [] s λp o=>?_
 rw[Hl,n.file,if_pos<|by rfl,if_pos rfl]
 rw[U' (C.ok N),Nat.mod_mod]
 rw[n.file,if_pos,if_neg<|a90 _,u.on (h.safe.syn w h.synced) (E.names _ aj) p o];unfold Z7 X6;have:(W9 f).any (λk=>decide (y7 D6 k.toNat=y7 D6 p.1))=true:=by rw[List.any_eq_true];exact⟨p.1,aQ.2 ⟨_,(nN o).1,rfl⟩,aZ⟩
 simp_all
 obtain⟨r,P,rfl⟩:=aQ.1 t;have:=H r P;omega
 have W:=(H x t).1;have A:wW b<=m:=by
  unfold wW;have:∀(l:fC)(a:Int),a<=m->(∀x∈l,x<=m)->l.foldl max a<=m:=by
   intro l
   induction l with
   | nil=>simp
   | cons y l Q=>exactλa Z G=>Q _ (by have:=G y aZ;omega) λx t=>G x iL
  simp_all
 omega
end Dk
end Go.Proofs.YtgpbhjjajpbeeaaGreatDoor
