/- A part of what the last file proves. -/
import Derived.Test.YtgpbhjjajpbeeaaGreatDoorA26
set_option linter.all false
set_option maxRecDepth 100000
set_option maxHeartbeats 6400000
open Go.Proofs.Tryz
namespace Go.Proofs.YtgpbhjjajpbeeaaGreatDoor
open Go.RowKit Go.Lib Go.Maps Dk Pl Go.Conc Go.Mw To
variable{B H k:Nat}{b f l n:fC}{T:dU}
def En(a:fC)(bss:fJ)(b:Nat->Value)(k:Nat):List Value:=(List.range k).flatMap λi=>[.int .i64 (a.getD i 0),b i,.int .i64 (bss.getD i []).length]
theorem b6B(a:fC)(bss:fJ)(b:Nat->Value)(k:Nat):En a bss b (k+1)=En a bss b k++[.int .i64 (a.getD k 0),b k,.int .i64 (bss.getD k []).length]:=by unfold En;rw[nM];simp
def dC(a:fC)(bss:fJ)(w:aB)(e:Ending)(w':aB):Prop:=
 ∃u b,e=.returned (.tuple #[u,.bool true])/\w'.ownsRow w 54 3 u a.length (En a bss b a.length)/\(∀i,i<a.length->oP w' 116 5 (b i) (D7 (bss.getD i [])).length ((D7 (bss.getD i [])).flatMap zy))/\Ext w w'
theorem b1A(v0 v2 v4:aX)(rb gen SZ Ce:Nat)(old ids:fC)(nH bss:fJ)(w:aB)(h:P5 w rb gen old nH)(h':P5 w SZ Ce ids bss)(hv:Ints w v4 old)(hn0:old.length<=60)(hn:ids.length<=60)(htop:∀x∈ids,wW old<x):
 Calls prog 85 #[v0,l9 rb,v2,l9 SZ,v4] w (dC ids bss w):=by
 obtain⟨i0,hi,hz0,hz1,hz2⟩:=info_parts tf;have hgr:=b3D rb gen old nH w h hn0;obtain⟨n,hnn⟩:∃n,ids.length=n:=⟨_,rfl⟩;obtain⟨m,hmm⟩:∃m,old.length=m:=⟨_,rfl⟩;obtain⟨oa,oc,hob,hoc,qb4,qb5,hos⟩:=id h;obtain⟨sa,sc,hb,hsc,hsc2,hbl,jo⟩:=id h';rw[hmm] at hob hoc hos hn0;rw[hnn] at hb hsc jo hn;have o1:=(hob.cell 1).trans (show _=some (Value.slice oa m oc) from rfl);have b1:=(hb.cell 1).trans (show _=some (Value.slice sa n sc) from rfl);have hall:∀i,∃u,i<n->∃g,sa=some ⟨g,0,none⟩/\w.cell? ⟨g,i*3,none⟩=some (.int .i64 (ids.getD i 0))/\w.cell? ⟨g,i*3+2,none⟩=some (.int .i64 ((bss.getD i []).length:Nat))/\w.cell? ⟨g,i*3+1,none⟩=some (u)/\oP w 116 5 (u) (D7 (bss.getD i [])).length ((D7 (bss.getD i [])).flatMap zy):=λi=>by
  by_cases hi:i<n
  ·obtain⟨g,e,h1,h2,u,h3,h4⟩:=jo i hi;exact⟨u,λ_=>⟨g,e,h1,h2,h3,h4⟩⟩
  ·exact⟨undef,λh=>absurd h hi⟩
 obtain⟨us,hus⟩:=gb hall;clear hall;obtain⟨t,ht⟩:∃t,wW old=t:=⟨_,rfl⟩;rw[ht] at hgr htop;have hat:∀k,k<n->t<ids.getD k 0:=λk hk=>by rw[aT,au aj];exact htop _ (bQ _)
 have hin:∀(W:aB),Ext w W->∀x,Calls prog 51 #[v4,.int .i64 x] W λe w'=>e=.returned (.bool (decide (x∈old)))/\w'=W:=λW hE x=>sL v4 old x W (hv.ext hE);have HGR:=ah hgr;have AB:=ah hus;have HOS:=ah hos;have HAT:=ah hat;have DL:=ah hin;have HN:=ah hnn;have HM:=ah hmm;clear hgr hus hos hat hin h h' hv htop ht hob hb jo;unfold dC;rw[hnn];clear hnn hmm;unfold l9 at *;go_enter func85,ntmps85
 go_wp2_with fail
 refine HGR.out.mono ?_;rintro e w1 ⟨rfl,rfl⟩;clear HGR;go_wp2_with fail
 go_loopw [12,13,15] (λu v i wr=>v=.slice none 0 0/\∃k:Nat,i=.int .i64 k/\k<=n/\wr.ownsRow w1 54 3 u k (En ids bss us k)/\Ext w1 wr) (λ_ _ i _=>n - (intOf i).toNat)
 case atStart=>exact⟨rfl,0,rfl,aj,⟨rfl,Or.inl ⟨rfl,rfl⟩⟩,dh w1⟩
 case round=>
  obtain⟨rfl,k,rfl,hk,hown,hE⟩:=hrel;obtain⟨ua,uc,rfl⟩:=ownsRow_form hown;have Wu:=hE.cell b1;by_cases hlt:k<n
  ·obtain⟨g,rfl,s0,s2,s1,hrow⟩:=AB.out k hlt;obtain⟨ya,yc,hye⟩:=hrow.slice;have hki:(k:Int)<(n:Int):=aj
   have hx:=HAT.out k hlt;have BH:=b6B ids bss us k;obtain⟨x,hxe⟩:∃x,ids.getD k 0=x:=⟨_,rfl⟩;obtain⟨z,hze⟩:∃z,(bss.getD k []).length=z:=⟨_,rfl⟩;obtain⟨yl,hyl⟩:∃yl,(D7 (bss.getD k [])).length=yl:=⟨_,rfl⟩;rw[hyl] at hye;clear hrow hyl;rw[hxe] at hx s0 BH;rw[hze] at s2 BH;rw[hye] at s1 BH;have s0':=hE.cell s0;have s1':=hE.cell s1;have s2':=hE.cell s2;have hd:decide (x>t)=true:=aN hx;have hw1:w1.heap.size<=wr.heap.size:=hE.size;have HS:=ah BH;have HOW:=ah hown;have HE:=ah hE;clear BH hown hE hxe hze hye s0 s1 s2;go_wp2_with (at_builtin;go_must (refine A8 rfl _ _ 48 rfl w1 54 i0 (.agg #[.int .i64 0,.slice none 0 0,.int .i64 0]) 3 40 underlying48 hi hz0 hz1 hz2 rfl aj (.slice ua k uc) k _ rfl (World.ownsRow.alloc HOW.out (.cells #[.int .i64 x,.slice ya yl yc,.int .i64 z] 54)) (.slice (some ⟨wr,0,none⟩) 1 1) 1 [.int .i64 x,.slice ya yl yc,.int .i64 z] rfl ⟨_,_,rfl,aj,⟨aj,λh=>by cases h⟩,λ_=>⟨_,rfl,World.news_of_block (cs:=#[.int .i64 x,.slice ya yl yc,.int .i64 z]) (t:=54) (fr:=(0,0)) (heap_alloc_new wr _)⟩⟩ rfl qV lJ aj iw ?_);intro b6 c6 w6 hown6 hgrow6 kZ;have pX:=ah hown6;have yA:=ah hgrow6;clear hown6 hgrow6 kZ)
   go_roundw
   case rel=>
    refine⟨rfl,k+1,iE,aj,?_,?_⟩
    ·have:=pX.out;rw[HS.out];simpa using this
    ·exact Below.grown (HE.out.new _) yA.out iw (λj hj=>(World.ownsRow.lt HOW.out j hj).1)
   case measure=>simp[intOf];omega
  ·obtain rfl:k=n:=aj
   have o1r:=hE.cell o1;have HOW:=ah hown;have HE:=ah hE;clear hown hE;go_wp2_with fail
   go_loop [17,18] (λv i=>v=.slice none 0 0/\∃j:Nat,i=.int .i64 j/\j<=m) (λ_ i=>m - (intOf i).toNat)
   case atStart=>exact⟨rfl,0,rfl,aj⟩
   case round=>
    obtain⟨rfl,j,rfl,hj⟩:=hrel;by_cases hjm:j<m
    ·obtain⟨g,rfl,s0,-⟩:=HOS.out j hjm;have hji:(j:Int)<(m:Int):=aj
     have s0':=HE.out.cell s0;have hx:old.getD j 0∈old:=by
      have hjo:j<old.length:=by rw[HM.out];exact hjm
      rw[aT,au hjo];exact bQ hjo
     obtain⟨x,hxe⟩:∃x,old.getD j 0=x:=⟨_,rfl⟩;rw[hxe] at hx s0';have hc:=DL.out wr HE.out x;rw[aN hx] at hc;have HC:=ah hc;clear hc hxe hx s0;go_wp2_with fail
     refine HC.out.mono ?_;rintro e w3 ⟨rfl,rfl⟩;go_wp2_with fail
     exact⟨⟨rfl,j+1,iE,aj⟩,by simp[intOf];omega⟩
    ·obtain rfl:j=m:=aj
     have hnil:Ints wr (.slice none 0 0) []:=(show jd wr 0 (.slice none 0 0) [] from⟨rfl,.inl ⟨rfl,rfl⟩⟩).ints;have hsn:=a9u _ _ [] [] wr hnil hnil;have DJ:=ah hsn;clear hsn hnil;go_wp2_with fail
     refine DJ.out.mono ?_;rintro e w3 ⟨rfl,q,rfl⟩;have jM:Ext wr (wr.drewN q):=gZ _ _;have qO:=ah jM;clear jM DJ;go_wp2_with fail
     go_ret2
     refine⟨_,us,rfl,ownsRow_below HOW.out qO.out,λi hi=>?_,HE.out.trans qO.out⟩;obtain⟨g,-,-,-,-,hrow⟩:=AB.out i hi;exact hrow.keep λb hb=>(HE.out.trans qO.out).block b (hrow.lt hb)
def sE(l:dV):Bool:=decide (sizes (D7 l)=l.length)
theorem b3E(v:aX)(l:dV)(w:aB)(h:Bytes w v l)(O:l.length<=1099511627776):
 Calls prog 146 #[v] w λe w'=>e=.returned (.bool (sE l))/\Ext w w':=by
 obtain⟨W,K,rfl,Z,sN,-⟩:=h.open;have t:=JP _ l w h O;have s:=Xx l;have o:=Xp l;have d:∀(k:Nat)p,(D7 l)[k]?=some p->sizes ((D7 l).take (k+1))=sizes ((D7 l).take k)+p.2.size:=λk p T=>b6T T;have f:∀k,sizes ((D7 l).take k)<=sizes (D7 l):=λk=>b1F _ k;have x:sE l=decide (sizes (D7 l)=l.length):=rfl;obtain⟨L,hL⟩:∃L,D7 l=L:=⟨_,rfl⟩;rw[hL] at t s o d f x;have y:=ah t;have X:=ah x;clear h t hL x;go_enter func146,ntmps146
 go_wp2_with fail
 refine y.out.mono ?_;rintro e w1 ⟨u,rfl,c,F⟩;obtain⟨H,J,rfl⟩:=ownsRow_form c;clear y;go_wp2;go_loop [4,5] (λn i=>∃k:Nat,i=.int .i64 k/\k<=L.length/\n=.int .i64 (sizes (L.take k):Nat)) (λ_ i=>L.length - (intOf i).toNat)
 case atStart=>exact⟨0,rfl,aj,by simp[sizes]⟩
 case round=>
  obtain⟨k,rfl,hk,rfl⟩:=hrel;by_cases q:k<L.length
  obtain⟨P,r⟩:∃P,L[k]?=some P:=⟨_,au q⟩;obtain⟨g,S,U,D,G,Y,a⟩:=Dh (f:=zy) (λ_=>rfl) c r;injection U with M E Q;subst M;subst Q;have V:=aj
  have N:=a 4 _ rfl;have I:=d k P r;have R:=f (k+1);have z:(sizes (L.take k):Int)+(P.2.size:Int)=(sizes (L.take (k+1)):Nat):=aj
  obtain⟨m,j⟩:∃m,sizes (L.take k)=m:=⟨_,rfl⟩;rw[j] at I⊢;clear a r;go_wp2_with fail
  exact⟨⟨k+1,iE,aj,by rw[<-z,j]⟩,by simp[intOf];omega⟩
  obtain rfl:k=L.length:=aj
  rw[bK];go_wp2_with fail
  go_ret;refine⟨?_,F⟩;rw[X.out];by_cases h:sizes L=l.length
  simp[h]
  have E:¬((sizes L:Nat):Int)=(l.length:Int):=aj
  simp[h,E]
theorem c2y(rb gen:Nat)(old ids:fC)(nH bss:fJ)(v fv u:aX)(us:Nat->Value)(l:Fl)(w:aB)(h:P5 w rb gen old nH)(hv:Ints w v old)(hf:P6 w fv l)(hu:w.ownsRow B 54 3 u ids.length (En ids bss us ids.length))
 (hus:∀i,i<ids.length->oP w 116 5 (us i) (D7 (bss.getD i [])).length ((D7 (bss.getD i [])).flatMap zy))(hn0:old.length<=60)(hn:ids.length<=60)(hbl:bss.length=ids.length)(hir:∀x∈ids,1<=x/\x<=999999)
 (hlk:∀i,i<ids.length->A7 l (y7 D6 (ids.getD i 0).toNat)=some (bss.getD i []))(hle:Je bss)(htot:total bss<=total nH)(hs0:∀i,(nH.getD i []).length<=1048576)(hs:∀i,(bss.getD i []).length<=1048576):
 Calls prog 86 #[l9 rb,v,fv,u] w λe w'=>e=.returned (.bool true)/\Ext w w':=by
 obtain⟨i0,hi,hz0,hz1,hz2⟩:=info_parts vj;obtain⟨sa,sc,hb,hsc,hsc2,UE,jo⟩:=id h;have b1:=(hb.cell 1).trans (show _=some (Value.slice sa old.length sc) from rfl);have hin:∀(W:aB),Ext w W->∀x,Calls prog 51 #[v,.int .i64 x] W λe w'=>e=.returned (.bool (decide (x∈old)))/\w'=W:=λW hE x=>sL v old x W (hv.ext hE);have Tz:=c2z hs0;have Tv:∀k,k<old.length->total (nH.take (k+1))=total (nH.take k)+(nH.getD k []).length:=λk hk=>B8 aj;have hall0:total (nH.take old.length)=total nH:=by rw[bU aj]
 have hmem:∀k,k<old.length->old.getD k 0∈old:=λk hk=>by rw[aT,au hk];exact bQ _
 have hvf:∃va vc,v=.slice va old.length vc:=by obtain⟨va,vc,e,-⟩:=hv.open;exact⟨va,vc,e⟩
 obtain⟨va,vc,rfl⟩:=hvf;obtain⟨fa,fc,rfl,hfc,Un⟩:=hf.form;obtain⟨ua,uc,rfl⟩:=ownsRow_form hu;obtain⟨m,hm⟩:∃m,old.length=m:=⟨_,rfl⟩;have qA:=ah jo;have DL:=ah hin;have HT0:=ah Tv;have Hz:=ah Tz;have HA0:=ah hall0;have HME:=ah hmem;have HF:=ah hf;have HU:=ah hu;have AB:=ah hus;have MY:=ah hir;have uf:=ah hlk;have HLE:=ah hle;have KV:=ah htot;have HS:=ah hs;have HM:=ah hm;have HB0:=ah UE;have HS0:=ah hs0;clear h hv hf hu hus hir hlk hle htot hs jo hin Tv Tz hall0 hmem hb UE hs0;rw[hm] at b1 hsc hn0⊢;clear hm;obtain⟨n,hnn⟩:∃n,ids.length=n:=⟨_,rfl⟩;have HN:=ah hnn;rw[hnn] at hn hbl⊢;clear hnn;unfold l9;go_enter func86,ntmps86
 go_wp2_with fail
 go_loopw [9,10] (λr i wr=>∃k:Nat,i=.int .i64 k/\k<=m/\r=.int .i64 (total (nH.take k):Nat)/\Ext w wr) (λ_ i _=>m - (intOf i).toNat)
 case atStart=>exact⟨0,rfl,aj,by simp[total],dh w⟩
 case round=>
  obtain⟨k,rfl,hk,rfl,hE⟩:=hrel;have Wu:=hE.cell b1;by_cases hlt:k<m
  ·have hki:(k:Int)<(m:Int):=aj
   have hkm:k<old.length:=by rw[HM.out];exact hlt
   obtain⟨g,rfl,s0,s2,-⟩:=qA.out k hkm;have s0':=hE.cell s0;have s2':=hE.cell s2;have hx:=HME.out k hkm;have ht:=HT0.out k hkm;have htl:=Hz.out k (by have:=HB0.out;omega);have hs0:=HS0.out k;have JY:=fH 1048576 (show k<=60 by omega);obtain⟨x,hxe⟩:∃x,old.getD k 0=x:=⟨_,rfl⟩;obtain⟨z,hze⟩:∃z,(nH.getD k []).length=z:=⟨_,rfl⟩;obtain⟨t,hte⟩:∃t,total (nH.take k)=t:=⟨_,rfl⟩;rw[hxe] at hx s0';rw[hze] at s2' ht hs0;rw[hte] at ht htl⊢;have hc:=DL.out wr hE x;rw[aN hx,HM.out] at hc;have HC:=ah hc;have HE:=ah hE;have HT:=ah ht;clear hc hE hxe hze hte s0 s2 hx ht;go_wp2_with fail
   refine HC.out.mono ?_;rintro e w2 ⟨rfl,rfl⟩;go_wp2_with fail
   go_roundw
   case rel=>exact⟨k+1,iE,aj,by rw[HT.out];go_num,HE.out⟩
   case measure=>simp[intOf];omega
  ·obtain rfl:k=m:=aj
   have ht0:total (nH.take k)=total nH:=by rw[<-HM.out];exact HA0.out
   have htl:=Hz.out k (by have:=HB0.out;have:=HM.out;omega);have JY:=fH 1048576 hn0;have htot:=KV.out;rw[ht0] at htl⊢;obtain⟨t0,ht0e⟩:∃t0,total nH=t0:=⟨_,rfl⟩;rw[ht0e] at htl htot⊢;have htb:t0<=62914560:=ay htl JY;clear htl JY;have hrow:w.ownsRow B 54 3 (.slice ua n uc) (List.range n).length ((List.range n).flatMap λi=>[.int .i64 (ids.getD i 0),us i,.int .i64 (bss.getD i []).length]):=by have:=HU.out;unfold En at this;rw[HN.out] at this;rwa [List.length_range]
   have K3:=ah htb;have uP:=ah hrow;have HE:=ah hE;have HTT:=ah htot;clear htb hrow hE ht0 ht0e htot HU qA DL HT0 Hz HA0 HME HB0 HS0;go_wp2_with fail
   go_loopw [9,12,13] (λr ks i wx=>∃j:Nat,i=.int .i64 j/\j<=n/\r=.int .i64 ((t0:Int) - (total (bss.take j):Nat))/\uH wx wr ks (((V7 bss).take (CV bss j)).map (·.key))/\Ext wr wx) (λ_ _ i _=>n - (intOf i).toNat)
   case atStart=>exact⟨0,rfl,aj,by simp[total],⟨rfl,.inl ⟨rfl,rfl⟩⟩,dh wr⟩
   case round=>
    rename World=>wx
    obtain⟨j,rfl,hj,rfl,hks,kR⟩:=hrel;have Wc:=b6t (bss:=bss) (k:=j);by_cases hjn:j<n
    ·have hji:(j:Int)<(n:Int):=aj
     have hjb:j<bss.length:=aj
     have ou:=HE.out.trans kR;obtain⟨g,cap,e1,-,-,-,hcells⟩:=Dh (f:=λi=>[Value.int .i64 (ids.getD i 0),us i,.int .i64 (bss.getD i []).length]) (λ_=>rfl) uP.out (show(List.range n)[j]?=some j by rw[uO hjn]);injection e1 with e1 e2 e3;subst e1;subst e3;clear e2;have u0:=ou.cell (hcells 0 _ rfl);have u1:=hcells 1 _ rfl;rw[iP] at u0;have hrr:=AB.out j (by rw[HN.out];exact hjn);obtain⟨ya,yc,hye⟩:=hrr.slice;rw[hye] at u1 hrr;have hx:=MY.out (ids.getD j 0) (by rw[aT,au (by rw[HN.out];exact hjn)];exact bQ _)
     have hlk:=uf.out j (by rw[HN.out];exact hjn);have hsz:=HS.out j;have hbm:bss.getD j []∈bss:=by rw[aT,au hjb];exact bQ _
     have hwh:=HLE.out.whole hbm;have hts:=B8 hjb;have hps:=A9 hjb;have hpl:=c50 HS.out j aj;have hpl2:=fH 1048576 (show j<=60 by omega);have hll:=Xp (bss.getD j []);have hra:∀q p,(D7 (bss.getD j []))[q]?=some p->(V7 bss)[CV bss j+q]?=some p.2:=λq p hp=>c5Z hjb hp;have hkl:∀p∈D7 (bss.getD j []),p.2.key.length<=16:=λp hp=>AE _ p hp;obtain⟨y,hy⟩:∃y:Nat,ids.getD j 0=(y:Int):=⟨(ids.getD j 0).toNat,aj⟩;obtain⟨b,hbe⟩:∃b,bss.getD j []=b:=⟨_,rfl⟩;obtain⟨pj,W1⟩:∃pj,CV bss j=pj:=⟨_,rfl⟩;obtain⟨tj,htj⟩:∃tj,total (bss.take j)=tj:=⟨_,rfl⟩;rw[hy] at u0 hx hlk;rw[hbe] at hll hlk hsz hwh hts hps hra hkl hrr u1;rw[W1] at hpl hps hra hks;have hpb:pj<=62914560:=ay hpl hpl2;clear hpl hpl2;rw[htj] at hts Wc⊢;obtain⟨dv,hdv⟩:∃dv:Int,(t0:Int) - (tj:Nat)=dv:=⟨_,rfl⟩;rw[hdv];have qd1:0<=dv/\dv<=62914560:=by have:=HTT.out;have:=K3.out;omega
     have Yo:=ah hdv;rw[fQ] at hlk;obtain⟨L,hL⟩:∃L,D7 b=L:=⟨_,rfl⟩;rw[hL] at hll hps hra hkl hrr u1;have hnm:=Qy D6 y wx IQ aj;have hfi:∀wq,Ext wx wq->Calls prog 31 #[.slice fa l.length fc,bJ (y7 D6 y)] wq (VY l (y7 D6 y) wq):=λwq h=>bE _ l _ wq (HF.out.ext (ou.trans h));have nR:=ah hnm;have uQ:=ah hfi;have Ig:=ah hlk;have XM:=ah hwh;have KB:=ah hts;have HPS:=ah hps;have JE:=ah hra;have Yc:=ah hkl;have HRR:=ah hrr;have MU:=ah hks;have HEX:=ah kR;have U1:=ah u1;clear hnm hfi hlk hwh hts hps hra hkl hrr hks kR u1 hcells hye hy hbe W1 htj hL hbm ou;unfold bJ D6 at nR uQ;clear hjb Wc hdv;go_wp2_with fail
     refine nR.out.mono ?_;rintro e w4 ⟨rfl,lH⟩;have hfd:=uQ.out w4 lH;have u0q:=lH.cell u0;have DN:=ah hfd;have rZ:=ah (HEX.out.trans lH);have Ii:=ah lH;clear hfd lH nR uQ u0 HEX;go_wp2_with fail
     refine DN.out.mono ?_;rintro e w5 ⟨rfl,z,rfl,hby⟩;rw[show([100,97,116,97,45]:dV)=D6 from rfl,Ig.out] at hby⊢;rw[aG] at hby;obtain⟨za,zc,rfl,hzc,qa4,-⟩:=hby.open;have hwc:=b3E _ b w5 hby aj;rw[show sE b=true from aN XM.out] at hwc;have HWC:=ah hwc;clear hby hwc DN;go_wp2_with fail
     refine HWC.out.mono ?_;rintro e w6 ⟨rfl,mY⟩;have xq:=ah (rZ.out.trans mY);have u1q:=(HE.out.trans (rZ.out.trans mY)).cell U1.out;have Ud:=uH.keep MU.out (w':=w6) λb _ hb=>(Ii.out.trans mY).block b hb;have ME:=ah Ud;clear mY HWC Ud;go_wp2_with fail
     go_loopw [12,18] (λks x wy=>∃q:Nat,x=.int .i64 q/\q<=L.length/\uH wy wr ks (((V7 bss).take (pj+q)).map (·.key))/\Ext wr wy) (λ_ x _=>L.length - (intOf x).toNat)
     case atStart=>exact⟨0,rfl,aj,ME.out,xq.out⟩
     case round=>
      rename World=>wy
      obtain⟨q,rfl,hq,hkq,xO⟩:=hrel;obtain⟨ka,kc,rfl⟩:=ownsRow_form hkq;have Gp:=HE.out.trans xO;have u1y:=Gp.cell U1.out;by_cases hql:q<L.length
      ·have hqi:(q:Int)<(L.length:Int):=aj
       obtain⟨P,hP⟩:∃P,L[q]?=some P:=⟨_,au hql⟩;obtain⟨gr,rc,hu,-,-,-,hcells⟩:=ZG DG (HRR.out.keep λb hb=>Gp.block b (HRR.out.lt hb)) hP;injection hu with h1 h2 h3;subst h1;subst h3;clear h2;have r0:=hcells 0 _ rfl;have r1:=hcells 1 _ rfl;have r2:=hcells 2 _ rfl;have r3:=hcells 3 _ rfl;have r4:=hcells 4 _ rfl;rw[iP] at r0;obtain⟨hdl,htk,hne⟩:=HLE.out.fresh (JE.out q P hP);have hkl:=Yc.out P (aH hP);rw[hdl] at r3;obtain⟨K,hK⟩:∃K,((V7 bss).take (pj+q)).map (·.key)=K:=⟨_,rfl⟩;have hKm:K.length<=100000000:=by rw[<-hK,bV,dH];omega
       rw[hK] at hkq htk hne⊢;obtain⟨wz,hwz⟩:∃wz,wy.alloc (.cells #[.int .u64 P.2.seq,.string ⟨P.2.key.toArray⟩,.string ⟨P.2.val.toArray⟩,.bool false,.int .i64 P.2.size] 116)=wz:=⟨_,rfl⟩;have hbz:o6 wz wy 116 #[.int .u64 P.2.seq,.string ⟨P.2.key.toArray⟩,.string ⟨P.2.val.toArray⟩,.bool false,.int .i64 P.2.size]:=hwz▸jR _ _ rfl;have KY:Ext wy wz:=hwz▸(dh wy).new _;have x1:=(hbz.cell 1).trans (show _=some (Value.string ⟨P.2.key.toArray⟩) from rfl);have x3:=(hbz.cell 3).trans (show _=some (Value.bool false) from rfl);have hkz:=uH.keep hkq (w':=wz) λb _ hb=>KY.block b hb;have Nc:=ah htk;have JG:=ah hne;have HWZ:=ah hwz;have HKZ:=ah hkz;have HEZ:=ah (xO.trans KY);have HBZ:=ah hbz;have X1:=ah x1;have X3:=ah x3;clear hcells htk hne hwz hkz KY hbz hK hP hkq xO Gp hdl x1 x3;go_upto_region 22 with fail
       rw[HWZ.out];go_wp2_with fail
       go_loopw [20] (λx wv=>∃z:Nat,x=.int .i64 z/\z<=K.length/\Ext wz wv) (λx _=>K.length - (intOf x).toNat)
       case atStart=>exact⟨0,rfl,aj,dh wz⟩
       case round=>
        rename World=>wv
        obtain⟨z,rfl,hz,D_⟩:=hrel;by_cases hzl:z<K.length
        ·have hzi:(z:Int)<(K.length:Int):=aj
         obtain⟨kx,hkx⟩:∃kx,K[z]?=some kx:=⟨_,au hzl⟩;obtain⟨kb,kc',e1,hcell⟩:=HKZ.out.cell hkx;injection e1 with e1 e2 e3;subst e1;subst e3;clear e2;have hne:=bG.2 (JG.out z kx hkx);have c1:=D_.cell hcell;have y1:=D_.cell X1.out;have Yn:=ah D_;clear hcell hkx D_;unfold bJ at c1;go_wp2_with fail
         go_quiet (fail)
         go_wp2_with fail
         go_roundw
         case rel=>exact⟨z+1,iE,aj,⟨Yn.out.os,Yn.out.tape,Yn.out.output,Yn.out.size,Yn.out.block⟩⟩
         case measure=>simp[intOf];omega
        ·obtain rfl:z=K.length:=aj
         have y1:=D_.cell X1.out;have y3:=D_.cell X3.out;have hkv:=uH.keep HKZ.out (w':=wv) λb _ hb=>D_.block b hb;have K_:=HEZ.out.trans D_;have hsv:wr.heap.size<=wv.heap.size:=K_.size;have MD:=ah hkv;have M8:=ah K_;have hbv:=(D_.block wy HBZ.out.lt).trans HBZ.out;have ON:=ah (hbv:o6 wv _ _ _);clear hkv D_ K_ hbv;go_upto_region 28 with(at_builtin;go_must (refine A8 rfl _ _ 73 rfl wr 9 i0 (.string ⟨#[]⟩) 1 16 underlying73 hi hz0 hz1 hz2 rfl aj (.slice ka K.length kc) K.length (K.map bJ) rfl (World.ownsRow.alloc MD.out (.cells #[.string ⟨P.2.key.toArray⟩] 9)) (.slice (some ⟨wv,0,none⟩) 1 1) 1 [.string ⟨P.2.key.toArray⟩] rfl (Qo wv _ _) rfl qV lJ aj iw ?_);intro b9 c9 w9 jX jL uG)
         have qh:=Below.grown (M8.out.new (.cells #[.string ⟨P.2.key.toArray⟩] 9)) jL iw (λr hr=>(World.ownsRow.lt MD.out r hr).1);have uY:o6 w9 _ _ _:=o6.grown' (o6.alloc ON.out (.cells #[.string ⟨P.2.key.toArray⟩] 9)) jL (ownsRow_ne (World.ownsRow.alloc MD.out (.cells #[.string ⟨P.2.key.toArray⟩] 9)) (o6.alloc ON.out (.cells #[.string ⟨P.2.key.toArray⟩] 9)) dA);have z3:=(uY.cell 3).trans (show _=some (Value.bool false) from rfl);have QN:=ah jX;have HE9:=ah qh;clear jX qh uG jL uY;go_wp2_with fail
         go_roundw
         case rel=>refine⟨q+1,iE,aj,?_,HE9.out⟩;rw[show pj+(q+1)=pj+q+1 from rfl,Nc.out];unfold uH;rw[aY,aC];exact QN.out
         case measure=>simp[intOf];omega
      ·obtain rfl:q=L.length:=aj
       have HKQ:=ah hkq;have Yl:=ah xO;clear hkq xO Gp;go_wp2_with fail
       go_roundw
       case rel=>exact⟨j+1,iE,aj,by rw[KB.out,<-Yo.out];congr 1;omega,by rw[HPS.out];exact HKQ.out,Yl.out⟩
       case measure=>simp[intOf];omega
    ·obtain rfl:j=n:=aj
     have htn:total (bss.take j)<=t0:=by have:=HTT.out;omega
     have hge:(0:Int)<=(t0:Int) - (total (bss.take j):Nat):=aj
     have HEX:=ah (HE.out.trans kR);clear hks kR;go_wp2_with fail
     go_ret;exact⟨by simp[hge],HEX.out⟩
theorem c5Y(k v:ByteArray)(w:aB):(binOp .neq 60 (.agg #[.string k,.string v]) (.agg #[.string k,.string v])).run prog w=.ok (.bool false) w:=by
 have u9:=underlying9;have key:(Op.equalIn 10000 60 (.agg #[.string k,.string v]) (.agg #[.string k,.string v])).run prog w=.ok true w:=by rw[show(10000:Nat)=9999+1 from rfl,run_equalIn_struct w 9999 60 _ _ aW aW];simp only[Program.fieldsOf,underlying60];go_simp
 simp[binOp,Op.equal,Op.maxDepth,key]
theorem b3F{B':Nat}(u u':aX)(M:List (Nm×Nm))(w:aB)(h:w.ownsRow B 60 2 u M.length (M.flatMap F9))(h':w.ownsRow B' 60 2 u' M.length (M.flatMap F9)):
 Calls prog 84 #[u,u'] w λe w'=>e=.returned (.bool true)/\Ext w w':=by
 obtain⟨ua,uc,rfl⟩:=ownsRow_form h;obtain⟨va,vc,rfl⟩:=ownsRow_form h';obtain⟨n,hn⟩:∃n,M.length=n:=⟨_,rfl⟩;have hn2:n<=9223372036854775807:=by
  rcases h.2 with⟨_,h⟩|⟨g,cap,cur,hv,_,_,h1,h2,_⟩
  ·omega
  ·unfold maxLen at h2;omega
 have H:=ah h;have H':=ah h';have HN:=ah hn;rw[hn];clear h h' hn;go_enter func84,ntmps84
 go_wp2_with fail
 go_loopw [5] (λi wr=>∃k:Nat,i=.int .i64 k/\k<=n/\Ext w wr) (λi _=>n - (intOf i).toNat)
 case atStart=>exact⟨0,rfl,aj,dh w⟩
 case round=>
  obtain⟨k,rfl,hk,hE⟩:=hrel;by_cases hlt:k<n
  ·have hki:(k:Int)<(n:Int):=aj
   obtain⟨p,hp⟩:∃p,M[k]?=some p:=⟨_,au (by rw[HN.out];exact hlt)⟩;obtain⟨g,cap,e1,l1,-,-,q⟩:=Dh U4 H.out hp;obtain⟨g',cap',e1',k9,-,-,q'⟩:=Dh U4 H'.out hp;rw[HN.out] at e1 e1' l1 k9;injection e1 with a1 _ a3;injection e1' with b1 _ b3;subst a1;subst a3;subst b1;subst b3;have q0:=hE.cell (q 0 _ rfl);have q1:=hE.cell (q 1 _ rfl);have r0:=hE.cell (q' 0 _ rfl);have r1:=hE.cell (q' 1 _ rfl);rw[iP] at q0 r0;have hne:=c5Y ⟨p.1.toArray⟩ ⟨p.2.toArray⟩;have HE:=ah hE;clear q q' hp hE;go_wp2_with fail
   go_quiet (fail)
   go_wp2_with fail
   go_roundw
   case rel=>exact⟨k+1,iE,aj,⟨HE.out.os,HE.out.tape,HE.out.output,HE.out.size,HE.out.block⟩⟩
   case measure=>simp[intOf];omega
  ·obtain rfl:k=n:=aj
   have HE:=ah hE;clear hE;go_wp2_with fail
   go_ret;exact⟨rfl,HE.out⟩
section
open Zn (tp)
variable{W w:aB}{a c e:Nat}{F G:tyP}
noncomputable def qU(n:Nat):Code:=Code.behind n (f40.body.getD .skip)
noncomputable def vU(n:Nat):Code:=Code.head (qU n)
def I6(F:tyP)(a:Nat)(e:Dk.D)(w0:aB)(a':Act)(w:aB):Prop:=
 a'.defers=[]/\a'.tmps.size=93/\a'.tmps[2]?=some (l9 a)/\a'.tmps[19]?=some (.bool true)/\a'.tmps[20]?=some (.bool true)/\gI F w0 w/\o7 w F a e
theorem P5.ids{rb:Nat}{ids:fC}{bss:fJ}(h:P5 w rb a ids bss):Wq w rb ids:=by let⟨d,m,n,f,k,o,l⟩:=h;refine⟨a,d,m,n,f,k,λi x c=>?_⟩;let⟨j,p⟩:=aJ.1 c;obtain⟨g,e,b,-⟩:=l i j;grind
def gI.tp'{w':aB}(h:gI F w w')(τ:Nat->Question->Nat)(p:Nat):gI F w (tp w' τ p):=⟨h.os,h.output,h.size,h.block⟩
def gI.ext'{w':aB}(h:Ext w w'):gI F w w':=⟨h.os,h.output,h.size,λb a _=>h.block b a⟩
def gI.of'{w':aB}(h:iq F G w w'):gI F w w':=⟨h.os,h.output,h.size,h.block⟩
def AA(rb c b f:Nat)(a d:fC)(bss i:fJ)(e g v:aX)(h l:Fl)(W:aB):Prop:=
 P5 W rb b a bss/\P5 W c f d i/\P6 W e h/\P6 W g l/\Ints W v a
def AA.ext{rb d b f:Nat}{a k:fC}{bss j:fJ}{e g v:aX}{i l:Fl}{w w':aB}(h:AA rb d b f a k bss j e g v i l w)(c:Ext w w'):AA rb d b f a k bss j e g v i l w':=
 ⟨h.1.ext c,h.2.1.ext c,h.2.2.1.ext c,h.2.2.2.1.ext c,h.2.2.2.2.ext c⟩
theorem Dk.Ready.open{d:Dk.D}{bss:fJ}(h:Ready d c a b bss)(f:d.Wf){v:aX}(r:P6 W v d.files):
 Calls prog 17 #[v] W (λe w'=>∃rb,e=.returned (.tuple #[l9 rb,.int .i64 0,.string ⟨#[]⟩])/\Ext W w'/\LG w' W rb a b bss):=by
 refine(cI _ _ W r λp l=>ay (ao f h.bound p l)<|dA).mono ?_;rintro e w' ⟨x,j,s,k⟩;rw[h.op] at j k;obtain⟨h,-⟩|⟨g,w,u,rb,h,-,-,rfl,-,i⟩:=k
 cases h
 injection h with h;injection h with m h;injection h with o q;subst m;subst o;subst q;exact⟨rb,j,s,i⟩
def Dk.Ready.fit{d:Dk.D}{bss:fJ}(h:Ready d c a b bss)(g:c<=10000):d.Fit:=⟨λx f=>ay (h.bound x f)<|dA,ay h.len g,h.names⟩
theorem Dk.Ready.files{d:Dk.D}{bss:fJ}(h:Ready d c e b bss)(l:c<=10000)(j:o7 w F a d):Calls prog 16 #[l9 a] w (YZ F a d w):=
 Xn F a d w j h.safe.calm (by have:=h.len;omega) (λx i=>by have:=h.bound x i;omega) (λp f=>by have:=h.names p f;unfold maxLen;omega)
section
attribute [local go_sem] undef
theorem c7S{n N c':Nat}{D e:Dk.D}{C:fC}{bss:fJ}{Lp v:aX}(s:Held w F (λW=>P6 W Lp D.files))(P:Held w F (λW=>Ints W v f))(h:o7 w F a e)
 (hR:Ready D c n f bss)(hwf:D.Wf)(hR':Ready e c' N C (lX bss f.length))(hc:c'<=1000)(hg:N=(n+1)%18446744073709551616)(htop:∀x∈C,wW f<x)(htd:PW e.files C=true):
 oG vU (I6 F a e w) (λ_ _=>False) 12 0 ⟨#[Lp,v,l9 a]++Array.replicate 90 undef,[]⟩ w:=by
 obtain⟨hbl,hnd,hin,hl⟩:=hR.small hwf;obtain⟨UF,hnd',hin',hl'⟩:=hR'.small h.wf;have hseg:=(Z8 (show(G9 e.files).1=_ by rw[hR'.op])).2;have pO:=hin.1;have BL:=hin'.1;obtain⟨L,Q,rfl,DZ,sN,-⟩:=P.get.open;obtain⟨S,R,rfl,hfc,m9⟩:=s.get.form;have hwr:IntKind.u64.wrap ((n:Int)+1)=(N:Int):=by rw[IntKind.wrap_u64,hg];omega
 have j:gI F w w:=gI.refl F w;have hwe:=h.wf;have HR:=ah hR;have HR':=ah hR';have JA:=ah hwr;have K1:=ah htop;have HTD:=ah htd;have HL:=ah hl;have HL':=ah hl';have qA:=ah hseg;have DL:=ah hin;have Yf:=ah hin';have EI:=ah hbl;have OP:=ah UF;have XO:=ah hwf;have HWE:=ah hwe;clear hR hR' hwr htop htd hl hl' hseg hin hin' hbl UF hwf hwe hnd hnd' DZ sN hfc m9 hg;rw[c7U 90];obtain⟨I,hw0⟩:∃I,w=I:=⟨_,rfl⟩;rw[hw0] at j;rw[show I6 F a e w=I6 F a e I by rw[hw0]];have j:gI F I w:=hw0▸gI.refl F w;clear hw0;refine oG.into λK o τ p=>?_;have h0:Held (tp w τ p) F (λW=>P6 W (.slice S D.files.length R) D.files):=s.eU;have h1:Held (tp w τ p) F (λW=>Ints W (.slice L f.length Q) f):=P.eU;have A:o7 (tp w τ p) F a e:=h.eU;have t:gI F I (tp w τ p):=j.tp' τ p;generalize tp w τ p=w1 at h0 h1 A t⊢;have r:=ah o;have H0:=ah h0;have H1:=ah h1;have m:=ah A;have l:=ah t;clear o s P h j h0 h1 A t;unfold vU qU l9;simp only[Code.behind,Code.head,f40,aG,AN,List.range,List.range.loop,bD,dS,reduceIte,Nat.reduceEqDiff];go_wp2_with fail
 refine qy.go r.out ?_;clear r K;refine oG.into λK o τ p=>?_;have s:Held (tp w1 τ p) F (λW=>P6 W (.slice S D.files.length R) D.files):=H0.out.eU;have P:Held (tp w1 τ p) F (λW=>Ints W (.slice L f.length Q) f):=H1.out.eU;have h:o7 (tp w1 τ p) F a e:=m.out.eU;have j:gI F I (tp w1 τ p):=l.out.tp' τ p;generalize tp w1 τ p=w2 at s P h j⊢;have Y:=HR.out.open XO.out s.get;have r:=ah o;have zH:=ah Y;have H0:=ah s;have H1:=ah P;have m:=ah h;have l:=ah j;clear o s P h j Y;unfold vU qU;simp only[Code.behind,Code.head,f40,aG];go_wp2_with fail
 unfold l9 at zH;refine zH.out.mono ?_;rintro e1 w3 ⟨O,rfl,k,Z⟩;have G:Held w3 F (λW=>P5 W O n f bss):=Z.held λb hb=>m.out.low b hb;have jM:=ah k;have H:=ah G;clear G Z k zH;go_wp2_with fail
 refine qy.go r.out ?_;clear r K;refine oG.into λK o τ p=>?_;have s:Held (tp w3 τ p) F (λW=>P6 W (.slice S D.files.length R) D.files):=(H0.out.ext jM.out).eU;have P:Held (tp w3 τ p) F (λW=>Ints W (.slice L f.length Q) f):=(H1.out.ext jM.out).eU;have G:Held (tp w3 τ p) F (λW=>P5 W O n f bss):=H.out.eU;have h:o7 (tp w3 τ p) F a e:=(m.out.ext jM.out).eU;have j:gI F I (tp w3 τ p):=(l.out.trans (gI.ext' jM.out)).tp' τ p;generalize tp w3 τ p=w4 at s P h j G⊢;have hfs:=HR'.out.files (ay hc dA) h;have r:=ah o;have QV:=ah hfs;have H0:=ah s;have H1:=ah P;have l:=ah j;have H:=ah G;clear o s P h j hfs G jM m;unfold vU qU;simp only[Code.behind,Code.head,f40,aG];go_wp2_with fail
 unfold l9 at QV;refine QV.out.mono ?_;rintro e1 w5 ⟨fv,rows,rfl,aa,hD2,hC2⟩;have h0:=H0.out.step hC2;have h1:=H1.out.step hC2;have hs5:=H.out.step hC2;have t:=l.out.trans (gI.of' hC2);have HF:=ah aa.files;have H0:=ah h0;have H1:=ah h1;have m:=ah hD2;have l:=ah t;have H:=ah hs5;clear aa hD2 hC2 h0 h1 t hs5 QV;go_wp2_with fail
 refine qy.go r.out ?_;clear r K;refine oG.into λK o τ p=>?_;have s:P6 (tp w5 τ p) (.slice S D.files.length R) D.files:=H0.out.get;have P:Ints (tp w5 τ p) (.slice L f.length Q) f:=H1.out.get;have G:P5 (tp w5 τ p) O n f bss:=H.out.get;have hf:P6 (tp w5 τ p) fv e.files:=HF.out;have h:o7 (tp w5 τ p) F a e:=m.out.eU;have j:gI F I (tp w5 τ p):=l.out.tp' τ p;generalize tp w5 τ p=w6 at s P h j G hf⊢;obtain⟨U,V,rfl,hgc,mT⟩:=hf.form;have Y:=HR'.out.open HWE.out hf;have r:=ah o;have zH:=ah Y;have H0:=ah s;have H1:=ah P;have m:=ah h;have l:=ah j;have H:=ah G;have HF:=ah hf;clear o s P h j Y G hf hgc mT;unfold vU qU;simp only[Code.behind,Code.head,f40,aG];go_wp2_with fail
 unfold l9 at zH;refine zH.out.mono ?_;rintro e1 w7 ⟨X,rfl,k,Z⟩;have g:AA O X n N f C bss (lX bss f.length) (.slice S D.files.length R) (.slice U e.files.length V) (.slice L f.length Q) D.files e.files w7:=⟨H.out.ext k,Z.get,H0.out.ext k,HF.out.ext k,H1.out.ext k⟩;have A:=m.out.ext k;have t:=l.out.trans (gI.ext' k);have y:=ah g;have m:=ah A;have l:=ah t;clear g A t Z k zH H0 H1 H HF;go_wp2_with fail
 refine qy.go r.out ?_;clear r K;refine oG.into λK o τ p=>?_;have g:AA O X n N f C bss (lX bss f.length) (.slice S D.files.length R) (.slice U e.files.length V) (.slice L f.length Q) D.files e.files (tp w7 τ p):=y.out;have h:o7 (tp w7 τ p) F a e:=m.out.eU;have j:gI F I (tp w7 τ p):=l.out.tp' τ p;generalize tp w7 τ p=w8 at g h j⊢;obtain⟨⟨_,_,hb,-⟩,⟨_,_,hb',-⟩,-⟩:=id g;have g0:=(hb.cell 0).trans (show _=some (Value.int .u64 n) from rfl);have g1:=(hb'.cell 0).trans (show _=some (Value.int .u64 N) from rfl);have hwr:=JA.out;have r:=ah o;have y:=ah g;have m:=ah h;have l:=ah j;clear o g h j hb hb';unfold vU qU;simp only[Code.behind,Code.head,f40,aG];go_wp2_with fail
 go_quiet (fail)
 go_wp2_with fail
 have k:Ext w8 (w8.drewN nq):=gZ w8 nq;generalize w8.drewN nq=wX at k⊢;have g:=y.out.ext k;have A:=m.out.ext k;have t:=l.out.trans (gI.ext' k);have y:=ah g;have m:=ah A;have l:=ah t;clear g A t k;refine qy.go r.out ?_;clear r K g0 g1 hwr;refine oG.into λK o τ p=>?_;have g:AA O X n N f C bss (lX bss f.length) (.slice S D.files.length R) (.slice U e.files.length V) (.slice L f.length Q) D.files e.files (tp wX τ p):=y.out;have h:o7 (tp wX τ p) F a e:=m.out.eU;have j:gI F I (tp wX τ p):=l.out.tp' τ p;generalize tp wX τ p=w9 at g h j ⊢;have r:=ah o;have y:=ah g;have m:=ah h;have l:=ah j;have T:=C6 O n f bss w9 g.1 pO (λi=>ay (HL.out i) dA);have Nv:=ah T;clear o g h j T;unfold l9 at Nv;unfold vU qU;simp only[Code.behind,Code.head,f40,aG];go_wp2_with fail
 refine Nv.out.mono ?_;rintro e1 wA ⟨u1,rfl,z,k⟩;obtain⟨M,hM⟩:∃M,mQ (F6 bss)=M:=⟨_,rfl⟩;rw[hM] at z;have HM:=ah hM;have g:=y.out.ext k;have A:=m.out.ext k;have t:=l.out.trans (gI.ext' k);have y:=ah g;have m:=ah A;have l:=ah t;have JB:=ah (show ∃B,wA.ownsRow B 60 2 u1 M.length (M.flatMap F9) from⟨_,z⟩);clear hM z k g A t Nv;go_wp2_with fail
 refine qy.go r.out ?_;clear r K;refine oG.into λK o τ p=>?_;have g:AA O X n N f C bss (lX bss f.length) (.slice S D.files.length R) (.slice U e.files.length V) (.slice L f.length Q) D.files e.files (tp wA τ p):=y.out;have h:o7 (tp wA τ p) F a e:=m.out.eU;have j:gI F I (tp wA τ p):=l.out.tp' τ p;have z:∃B,(tp wA τ p).ownsRow B 60 2 u1 M.length (M.flatMap F9):=JB.out;generalize tp wA τ p=wB at g h j z⊢;have r:=ah o;have y:=ah g;have m:=ah h;have l:=ah j;have T:=C6 X N C (lX bss f.length) wB g.2.1 BL (λi=>ay (HL'.out i) dA);rw[c2G EI.out,HM.out] at T;have Nv:=ah T;have JB:=ah z;clear o g h j T z;unfold l9 at Nv;unfold vU qU;simp only[Code.behind,Code.head,f40,aG];go_wp2_with fail
 refine Nv.out.mono ?_;rintro e1 wC ⟨u2,rfl,hu2,k⟩;have g:=y.out.ext k;have A:=m.out.ext k;have t:=l.out.trans (gI.ext' k);have y:=ah g;have m:=ah A;have l:=ah t;obtain⟨B1,z⟩:=JB.out;have JB:=ah (show ∃B B',wC.ownsRow B 60 2 u1 M.length (M.flatMap F9)/\wC.ownsRow B' 60 2 u2 M.length (M.flatMap F9) from⟨_,_,ownsRow_below z k,hu2⟩);clear z hu2 k g A t Nv;go_wp2_with fail
 refine qy.go r.out ?_;clear r K;refine oG.into λK o τ p=>?_;have g:AA O X n N f C bss (lX bss f.length) (.slice S D.files.length R) (.slice U e.files.length V) (.slice L f.length Q) D.files e.files (tp wC τ p):=y.out;have h:o7 (tp wC τ p) F a e:=m.out.eU;have j:gI F I (tp wC τ p):=l.out.tp' τ p;have J:∃B B',(tp wC τ p).ownsRow B 60 2 u1 M.length (M.flatMap F9)/\(tp wC τ p).ownsRow B' 60 2 u2 M.length (M.flatMap F9):=JB.out;generalize tp wC τ p=wD at g h j J⊢;have r:=ah o;have y:=ah g;have m:=ah h;have l:=ah j;obtain⟨B1,B2,z,hu2⟩:=J;have hsm:=b3F u1 u2 M wD z hu2;have DK:=ah hsm;clear o g h j z hu2 hsm JB;unfold vU qU;simp only[Code.behind,Code.head,f40,aG];go_wp2_with fail
 refine DK.out.mono ?_;rintro e1 wE ⟨rfl,k⟩;have g:=y.out.ext k;have A:=m.out.ext k;have t:=l.out.trans (gI.ext' k);have y:=ah g;have m:=ah A;have l:=ah t;clear k g A t DK;go_wp2_with fail
 refine qy.go r.out ?_;clear r K;refine oG.into λK o τ p=>?_;have g:AA O X n N f C bss (lX bss f.length) (.slice S D.files.length R) (.slice U e.files.length V) (.slice L f.length Q) D.files e.files (tp wE τ p):=y.out;have h:o7 (tp wE τ p) F a e:=m.out.eU;have j:gI F I (tp wE τ p):=l.out.tp' τ p;generalize tp wE τ p=wF at g h j ⊢;have r:=ah o;have y:=ah g;have m:=ah h;have l:=ah j;have hut:=b1A (.slice S D.files.length R) (.slice U e.files.length V) (.slice L f.length Q) O n X N f C bss (lX bss f.length) wF g.1 g.2.1 g.2.2.2.2 pO BL K1.out;have J2:=ah hut;clear o g h j hut;unfold l9 at J2;unfold vU qU;simp only[Code.behind,Code.head,f40,aG];go_wp2_with fail
 refine J2.out.mono ?_;rintro e1 wG ⟨u,us,rfl,J,E,k⟩;have g:=y.out.ext k;have A:=m.out.ext k;have t:=l.out.trans (gI.ext' k);have y:=ah g;have m:=ah A;have l:=ah t;have HU:=ah (show ∃B,wG.ownsRow B 54 3 u C.length (En C (lX bss f.length) us C.length) from⟨_,J⟩);have AB:=ah E;clear J E k g A t J2;go_wp2_with fail
 refine qy.go r.out ?_;clear r K;refine oG.into λK o τ p=>?_;have g:AA O X n N f C bss (lX bss f.length) (.slice S D.files.length R) (.slice U e.files.length V) (.slice L f.length Q) D.files e.files (tp wG τ p):=y.out;have h:o7 (tp wG τ p) F a e:=m.out.eU;have j:gI F I (tp wG τ p):=l.out.tp' τ p;have J:∃B,(tp wG τ p).ownsRow B 54 3 u C.length (En C (lX bss f.length) us C.length):=HU.out;have E:∀i,i<C.length->oP (tp wG τ p) 116 5 (us i) (D7 ((lX bss f.length).getD i [])).length ((D7 ((lX bss f.length).getD i [])).flatMap zy):=AB.out;generalize tp wG τ p=wH at g h j J E⊢;have r:=ah o;have y:=ah g;have m:=ah h;have l:=ah j;have HU:=ah J;have AB:=ah E;clear o g h j J E;unfold vU qU;simp only[Code.behind,Code.head,f40,aG];go_wp2_with fail
 refine qy.go r.out ?_;clear r K;refine oG.into λK o τ p=>?_;have g:AA O X n N f C bss (lX bss f.length) (.slice S D.files.length R) (.slice U e.files.length V) (.slice L f.length Q) D.files e.files (tp wH τ p):=y.out;have h:o7 (tp wH τ p) F a e:=m.out.eU;have j:gI F I (tp wH τ p):=l.out.tp' τ p;have J:∃B,(tp wH τ p).ownsRow B 54 3 u C.length (En C (lX bss f.length) us C.length):=HU.out;have E:∀i,i<C.length->oP (tp wH τ p) 116 5 (us i) (D7 ((lX bss f.length).getD i [])).length ((D7 ((lX bss f.length).getD i [])).flatMap zy):=AB.out;generalize tp wH τ p=wI at g h j J E⊢;have r:=ah o;have y:=ah g;have m:=ah h;have l:=ah j;obtain⟨B1,J⟩:=J;obtain⟨ua,uc,rfl⟩:=ownsRow_form J;have hln:=c2y O n f C bss (lX bss f.length) (.slice L f.length Q) (.slice U e.files.length V) _ us e.files wI g.1 g.2.2.2.2 g.2.2.2.1 J E pO BL OP.out Yf.out.2 (λi hi=>(Hl e _).trans (qA.out i hi)) (x_ bss f.length) (b6y EI.out) HL.out HL'.out;have Ny:=ah hln;clear o g h j J E hln HU AB;unfold l9 at Ny;unfold vU qU;simp only[Code.behind,Code.head,f40,aG];go_wp2_with fail
 refine Ny.out.mono ?_;rintro e1 wJ ⟨rfl,k⟩;have g:=y.out.ext k;have A:=m.out.ext k;have t:=l.out.trans (gI.ext' k);have y:=ah g;have m:=ah A;have l:=ah t;clear k g A t Ny;go_wp2_with fail
 refine qy.go r.out ?_;clear r K;refine oG.into λK o τ p=>?_;have g:AA O X n N f C bss (lX bss f.length) (.slice S D.files.length R) (.slice U e.files.length V) (.slice L f.length Q) D.files e.files (tp wJ τ p):=y.out;have h:o7 (tp wJ τ p) F a e:=m.out.eU;have j:gI F I (tp wJ τ p):=l.out.tp' τ p;generalize tp wJ τ p=wK at g h j ⊢;have r:=ah o;have y:=ah g;have m:=ah h;have l:=ah j;have htd:=c5e (.slice U e.files.length V) e.files X C wK g.2.2.2.1 g.2.1.ids Yf.out (λp hp=>by
  have h1:p.1∈e.list:=by rw[<-Gk];exact ig hp
  rw[zu] at h1;obtain⟨q,hq,e2⟩:=aQ.1 h1;exact e2▸HR'.out.names q hq) HTD.out
 have XP:=ah htd;clear o g h j htd;unfold vU qU;simp only[Code.behind,Code.head,f40,aG];go_wp2_with fail
 refine XP.out.mono ?_;rintro e1 wL ⟨rfl,k⟩;have A:=m.out.ext k;have t:=l.out.trans (gI.ext' k);have m:=ah A;have l:=ah t;clear k A t XP;go_wp2_with fail
 refine qy.go r.out ?_;exact⟨rfl,rfl,rfl,rfl,rfl,l.out,m.out⟩
end
end
section
open Zn (tp Full kH VP Zf Le)
noncomputable def mdo:Array Oper:=Code.ops (Code.head (qU 12))
def d0b:qU 0=P_ vU (qU 12) 12 0:=rfl
def c9d:qU 12=.seq (.region 14 mdo false) (qU 13):=rfl
def c2H:(List.range 12).all (λi=>Zn.nU zb (vU (0+i)))=true:=rfl
def c58:Zn.nU zb (qU 13)=true:=rfl
def MdE(w:aB):Exit->Act->World->Prop
 | .ret,a,b=>a.defers=[]/\a.tmps[6]?=some (.bool true)/\b=w
 | _,_,_=>False
theorem c7T{w:aB}(f:T.size=93)(a:T[19]?=some (.bool true))(c:T[20]?=some (.bool true))(b:T[21]?=some (.bool true)):(qU 13).wp prog (MdE w) ⟨T,[]⟩ w:=by
 obtain⟨x,e,d⟩:=IZ 93 T f;refine(congrArg (λT'=>Code.wp _ _ _ ⟨T',[]⟩ _) (O8 (k:=21) (O8 (k:=20) (O8 (k:=19) e (d 19 _ a)) (d 20 _ c)) (d 21 _ b))).mpr ?_;clear e d f a c b;unfold qU;simp only[Code.behind,f40,aG,AN,List.range,List.range.loop,bD,dS,up,reduceIte];go_wp2_with fail
 trivial
section
variable[Go.ConcR.Payload][To.Lo]{Sh F:Nat->Prop}{w:World}{a gen Ce c c':Nat}{D e:Dk.D}{ids BA:List Int}{bss:List (List UInt8)}{Lp v:Value}
theorem b4U(W:kH zone Sh w)(G:prog.globals.size<=w)(j:VP (Zf zone Sh w) (l9 a))(M:VP (Zf zone Sh w) Lp)(V:VP (Zf zone Sh w) v)(U:Held w F (λW=>P6 W Lp D.files))(hv:Held w F (λW=>Ints W v ids))(H:o7 w F a e)
 (hR:Ready D c gen ids bss)(I:D.Wf)(g:Ready e c' Ce BA (lX bss ids.length))(Z:c'<=1000)(hg:Ce=(gen+1)%18446744073709551616)(z:∀x∈BA,wW ids<x)(R:PW e.files BA=true)(hL:Held w F Laid)(hl:Held w F S9):
 Jb prog 40 #[Lp,v,l9 a] w Sh (VK F Sh a e w):=by
 refine⟨f40,qU 0,func40,aW,aW,?_⟩;rw[d0b];refine aE (λa' L τ p⟨h1,A,h3,h4,h5,B,h7⟩=>⟨h1,A,h3,h4,h5,⟨B.os,B.output,B.size,B.block⟩,h7.oV⟩) (λ_ _ _ _ h=>h) ?_ (λ_ _ h=>h.elim) 12 0 _ w (λi hi=>⟨aU.1 c2H i<|iH.2 hi,Zn.fV _⟩) (c7S U hv H hR I g Z hg z R) (uL W λu hx=>by
  obtain rfl|rfl|rfl:=(by simp_all:u=Lp\/u=v\/u=l9 a)
  exact M
  exact V
  exact j);rintro⟨T,ds⟩ Q ⟨m,C,A,y,o,l,K⟩ t;dsimp at m C A y o;subst m;have n:Le (Zf zone Sh w) (Zf zone Sh Q):=⟨rfl,rfl,rfl,λb h=>⟨aF h.1 l.size,h.2⟩⟩;rw[c9d];refine Q5<|QC ?_;refine uK (d:=84) (.of<|aW) tN C dA (Jt<|O7 A) λT1 s1 S k1=>?_;refine cH (d:=85) (f:=28) (args:=#[.tmp 84]) (ats:=#[30]) (Post:=VK F Sh a e Q) (.of<|aW) s1 dA ?_ λv E ez T2 f s2 X k2=>?_
 have e1:(#[Operand.tmp 84]).map (Act.eval ⟨T1,[]⟩)=#[l9 a]:=by simp[fM,bD,dS];rw[O7 S]
 rw[e1];exact b72 t.W (ay G l.size) (j.mono n) K g.safe.calm (g.fit aj) (hL.jU l H.low)<|hl.jU l H.low
 obtain rfl:=f.v;refine uK (d:=21) (.of<|aW) tN s2 dA (MR<|O7 X) λT3 s3 O J=>Qg ?_;have d:∀k,k≠84->k≠85->k≠21->T3[k]?=T[k]?:=λk N P r=>(J k r).trans iL;apply piece _ ((GV (tG (GV (t.less λ_ _=>trivial) S k1 λ_=>j.mono n) f.W f.jU.size f.old X k2 λ_=>.bool _) O J λ_=>.bool _).less λ_ _=>rfl) (Zn.nU.sound c58) (Zn.fV _) (λτ p=>c7T s3 ((d 19 dA dA<|dA).trans y) ((d 20 dA dA<|dA).trans o) O);intro Y a' L τ p s p' q;cases Y<;>first|exact q.elim|skip
 let⟨N,P,r⟩:=q;exact⟨.inr rfl,λUY _=>⟨N,_,resultsC_tmp rfl _,I7 P,UY.W,λb hb h=>f.old b (aF hb l.size) h,l.trans (f.jU.trans<|gI.eq r),f.disk.frame (λb _=>show(tp L s p').heap[b]?=(tp E τ p).heap[b]? by rw[r])<|qc⟩⟩
end
end
def Zk:Option (Nat×List Int×List (List UInt8))->List UInt8
 | none=>[]
 | some (_,_,a)=>a.flatten
def PV:Option (Nat×List Int×List (List UInt8))->List Int
 | none=>[]
 | some (_,a,_)=>a
def WE(F:tyP)(a:Nat)(D:Dk.D)(w:aB)(e:Ending)(w':aB):Prop:=
 ∃u v,e=.returned (.tuple #[u,v])/\OwnB w' w u (Zk (G9 D.files).1)/\jd w' w v (PV (G9 D.files).1)/\iq F F w w'/\o7 w' F a D
theorem ye{bss:fJ}(h:k<bss.length):(bss.take (k+1)).flatten=(bss.take k).flatten++bss.getD k []:=by rw[take_snoc _ k h,List.flatten_append,aT,au h];simp
theorem c2w{bss:fJ}{c:Nat}(h:∀i,(bss.getD i []).length<=c):∀k,k<=bss.length->((bss.take k).flatten).length<=k*c:=by
 intro k
 induction k with
 | zero=>simp
 | succ k=>intro b;have d:=h k;rw[ye kT,aC,jw];omega
theorem B9(F:tyP)(a:Nat)(D:Dk.D)(w:aB)(hD:o7 w F a D)(hc:D.Calm)(hfit:D.Fit):
 Calls prog 39 #[l9 a] w (WE F a D w):=by
 obtain⟨i0,hi,hz0,hz1,hz2⟩:=info_parts Dq;obtain⟨ii,hii,hi0,hi1,hi2⟩:=info_parts WY;have hfs:=Xn F a D w hD hc (by have:=hfit.len;omega) (λx hx=>by have:=hfit.data x hx;omega) (λp hp=>by have:=hfit.names p hp;unfold maxLen;omega);have hfl:=ao hD.wf λx hx=>hfit.data x hx;have KC:=ah (C5 hc);have QV:=ah hfs;have ug:=ah hfl;have HSZ:=ah hD.low;clear hfs hD hc hfit hfl;unfold l9 at *;go_enter func39,ntmps39
 go_wp2_with fail
 refine QV.out.mono ?_;rintro e w2 ⟨fv,rows,rfl,hR,hD2,hC2⟩;obtain⟨fa,fc,hfe,m8,Un⟩:=hR.files.form;have hr:=cI fv D.files w2 hR.files ug.out;obtain⟨B,hB⟩:∃B,w.heap.size=B:=⟨_,rfl⟩;have hsz2:B<=w2.heap.size:=hB▸hC2.size;have HR:=ah hr;have HF2:=ah hR.files;have HC2:=ah hC2;have HD2:=ah hD2;have HB:=ah hB;clear hr hR hC2 hD2 QV hfe m8 Un;go_wp2_with fail
 refine HR.out.mono ?_;rintro e w3 ⟨v,rfl,jM,⟨h,rfl⟩|⟨gen,ids,bss,rb,h,hin,hsm,rfl,-,hrn⟩⟩
 ·have hne:(G9 D.files).2.1≠0:=by rw[<-KC.out.2.2.1];exact KC.out.2.2.2.2.1 (KC.out.2.1.trans h)
  have hfin:WE F a D w (.returned (.tuple #[.slice none 0 0,.slice none 0 0])) w3:=⟨_,_,rfl,by rw[h];exact Jp _ _,by rw[h];exact⟨rfl,.inl ⟨rfl,rfl⟩⟩,HC2.out.trans (iV jM),HD2.out.ext jM⟩;have qo:=ah hfin;obtain⟨f,hf⟩:∃f,(G9 D.files).2.1=f:=⟨_,rfl⟩;obtain⟨nn,hnn⟩:∃nn,(G9 D.files).2.2=nn:=⟨_,rfl⟩;rw[hf] at hne⊢;rw[hnn];have hf0:(f==0)=false:=bG.2 hne;clear hfin h jM hf hnn hne;unfold bJ;go_wp2_with fail
  go_loopw [8,9,10] (λu v i wr=>u=.slice none 0 0/\v=.slice none 0 0/\i=.int .i64 0/\wr=w3) (λ_ _ _ _=>0)
  case atStart=>exact⟨rfl,rfl,rfl,rfl⟩
  case round=>
   obtain⟨rfl,rfl,rfl,rfl⟩:=hrel;go_wp2_with fail
   go_ret2
   exact qo.out
 ·obtain⟨hbl,TL⟩:=Z8 h;have hst:P5 w3 rb gen ids bss:=hrn.get;obtain⟨sa,sc,hb,hsc,hsc2,-,jo⟩:=id hst;have b1:=(hb.cell 1).trans (show _=some (Value.slice sa ids.length sc) from rfl);have h00:(G9 D.files).2.1=0:=bW λq=>by have:=KC.out.2.2.2.2.2 (by rw[KC.out.2.2.1];exact q);rw[KC.out.2.1,h] at this;cases this
  obtain⟨n,hn⟩:∃n,ids.length=n:=⟨_,rfl⟩;have hft:=λk hk=>ye (bss:=bss) (k:=k) hk;have hfn:=c2w hsm;have BP:P6 w3 fv D.files:=HF2.out.ext jM;have hlk:∀k(h:k<n),A7 D.files (y7 D6 (ids.getD k 0).toNat)=some (bss.getD k []):=λk hk=>(Hl D _).trans (TL k aj);have hir:∀k,k<n->1<=ids.getD k 0/\ids.getD k 0<=999999:=λk hk=>by rw[aT,au aj];exact hin.2 _ (bQ _)
  have htk:∀k,k<n->ids.take (k+1)=ids.take k++[ids.getD k 0]:=λk hk=>by rw[take_snoc ids k aj,aT,au aj];rfl
  have hall:(bss.take n).flatten=Zk (G9 D.files).1/\ids.take n=PV (G9 D.files).1:=by rw[h,bU aj,bU aj];exact⟨rfl,rfl⟩
  have pO:n<=60:=by have:=hin.1;omega
  have hD3:=HD2.out.ext jM;have EG:=ah BP;have qA:=ah jo;have Yi:=ah hft;have qo:=ah hfn;have uf:=ah hlk;have MY:=ah hir;have Nc:=ah htk;have rO:=ah hall;have tH:=ah (HC2.out.trans (iV jM));have HD3:=ah hD3;have DK:=ah hsm;have EI:=ah hbl;have HN:=ah hn;have hsz3:B<=w3.heap.size:=ay hsz2 jM.size;rw[h00];rw[hn] at b1 hsc;obtain⟨nn,hnn⟩:∃nn,(G9 D.files).2.2=nn:=⟨_,rfl⟩;rw[hnn];clear TL BP jo hft hfn hlk hir htk hall jM hrn hst hb h hin hsm hbl h00 hnn hD3 HF2 HC2 HD2 HR hn;unfold bJ l9;go_wp2_with fail
  go_loopw [8,9,10] (λu v i wr=>∃k:Nat,i=.int .i64 k/\k<=n/\OwnB wr w3 u (bss.take k).flatten/\jd wr w3 v (ids.take k)/\Ext w3 wr) (λ_ _ i _=>n - (intOf i).toNat)
  case atStart=>exact⟨0,rfl,aj,Jp _ _,⟨rfl,.inl ⟨rfl,rfl⟩⟩,dh w3⟩
  case round=>
   obtain⟨k,rfl,hk,hu,hv,hE⟩:=hrel;obtain⟨ua,uc,rfl⟩:=ownsRow_form hu;obtain⟨va,vc,rfl⟩:=ownsRow_form hv;have Wu:=hE.cell b1;by_cases hlt:k<n
   ·have hki:(k:Int)<(n:Int):=aj
    have hvl:(ids.take k).length=k:=by rw[dH];have:=HN.out;omega
    rw[hvl] at hv⊢;obtain⟨g,rfl,s0,-⟩:=qA.out k (by rw[HN.out];exact hlt);have s0':=hE.cell s0;have S0:=ah s0;obtain⟨x1,x2⟩:=MY.out k hlt;have hlook:=uf.out k hlt;have hkb:k<bss.length:=by have:=EI.out;have:=HN.out;omega
    have hft:=Yi.out k hkb;have hfl:=qo.out k aj;have m7:=fH 1099511627776 (show k<=60 by omega);have hsm:=DK.out k;have htk:=Nc.out k hlt;obtain⟨x,hx⟩:∃x:Nat,ids.getD k 0=(x:Int):=⟨(ids.getD k 0).toNat,aj⟩;obtain⟨bk,hbk⟩:∃bk,bss.getD k []=bk:=⟨_,rfl⟩;obtain⟨ub,hub⟩:∃ub,(bss.take k).flatten=ub:=⟨_,rfl⟩;obtain⟨vi,Vv⟩:∃vi,ids.take k=vi:=⟨_,rfl⟩;have S0:=ah (hx▸S0.out);rw[hx] at s0' hlook htk x1 x2;rw[hbk] at hlook hft hsm;rw[hub] at hu hft hfl⊢;rw[Vv] at hv htk hvl;rw[fQ] at hlook;have hnm:=Qy D6 x wr IQ aj;have hfi:∀wq,Ext wr wq->Calls prog 31 #[fv,bJ (y7 D6 x)] wq (VY D.files (y7 D6 x) wq):=λwq h=>bE fv D.files _ wq (EG.out.ext (hE.trans h));have nR:=ah hnm;have uQ:=ah hfi;have HU:=ah hu;have HV:=ah hv;have HE:=ah hE;have ND:=ah hft;have K2:=ah htk;have Ig:=ah hlook;have HVL:=ah hvl;clear hnm hfi hu hv hE hft htk hlook s0 hx hbk hub Vv m7 hvl;unfold bJ D6 at nR uQ;go_wp2_with fail
    refine nR.out.mono ?_;rintro e w4 ⟨rfl,lH⟩;have hfd:=uQ.out w4 lH;have b1q:=lH.cell Wu;have s0q:=lH.cell s0';have DN:=ah hfd;have rZ:=ah (HE.out.trans lH);have Ii:=ah lH;clear hfd lH nR uQ;go_wp2_with fail
    refine DN.out.mono ?_;rintro e w5 ⟨rfl,y,rfl,hby⟩;rw[show([100,97,116,97,45]:dV)=D6 from rfl,Ig.out] at hby⊢;rw[aG] at hby;obtain⟨ya,yc,rfl,hyc,qa6,-⟩:=hby.open;have Wb:=ownsRow_below HU.out Ii.out;have hv4:jd w5 w3 (.slice va k vc) vi:=jH.row HV.out w5 λb hb=>Ii.out.block b (World.ownsRow.lt HV.out b hb).2;have hsz5:w3.heap.size<=w5.heap.size:=rZ.out.size;have fh:=ah Wb;have e9:=ah hv4;have Yq:=ah hby;clear Wb hv4 hby HU HV DN;have hkc:(k:Int)+1<=60:=aj
    go_upto_region 11 with(at_builtin;go_must (refine A8 rfl _ _ 25 rfl w3 5 i0 (.int .u8 0) 1 1 underlying25 hi hz0 hz1 hz2 rfl aj (.slice ua ub.length uc) ub.length (ub.map eG) rfl fh.out (.slice ya bk.length yc) bk.length (bk.map eG) rfl Yq.out aZ (Dv _) lJ aj hsz5 ?_);intro b6 c6 w6 hown6 hgrow6 kZ;clear kZ)
    have yN:OwnB w6 w3 (.slice b6 (ub.length+bk.length) c6) (ub++bk):=by unfold OwnB;rw[aY,aC];exact hown6
    have mY:Ext w3 w6:=Below.grown rZ.out hgrow6 rZ.out.size (λr hr=>by have:=(fh.out.lt r hr);omega);have yO:∀b,b<w5.heap.size->some b≠(Value.slice ua ub.length uc).ownBlock->w6.heap[b]?=w5.heap[b]?:=λb hb hne=>hgrow6.block b hb hne;have hv6:jd w6 w3 (.slice va k vc) vi:=jH.row e9.out w6 λb hb=>yO b (World.ownsRow.lt e9.out b hb).2 (λe=>by have h1:=MF e9.out hb;rw[MF fh.out e.symm] at h1;cases h1)
    have b1s:=mY.cell b1;have s0s:=mY.cell S0.out;have qb3:w3.heap.size<=w6.heap.size:=mY.size;have hv7:w6.ownsRow w3 3 1 (.slice va k vc) k (vi.map (Value.int .i64)):=by have:=hv6;unfold jd at this;rwa [HVL.out] at this
    have pX:=ah yN;have xq:=ah mY;have QL:=ah hv7;clear yN mY yO hv6 hv7 hown6 hgrow6 fh e9;go_wp2_with (at_builtin;go_must (refine A8 rfl _ _ 69 rfl w3 3 ii (.int .i64 0) 1 8 underlying69 hii hi0 hi1 hi2 rfl aj (.slice va k vc) k _ rfl (World.ownsRow.alloc QL.out (.cells #[.int .i64 x] 3)) (.slice (some ⟨w6,0,none⟩) 1 1) 1 [.int .i64 x] rfl (Qo w6 _ _) rfl qV lJ aj iw ?_);intro b9 c9 w9 jX jL uG;have QN:=ah jX;have Yh:=ah jL;clear jX jL uG)
    go_roundw
    case rel=>
     have qh:Ext w3 w9:=Below.grown (xq.out.new _) Yh.out (by have:=xq.out.size;simp;omega) λr hr=>(World.ownsRow.lt QL.out r hr).1;refine⟨k+1,iE,aj,?_,?_,qh⟩
     ·rw[ND.out];exact jH.row pX.out w9 λb hb=>(Yh.out.block b (by have:=(pX.out.lt b hb).2;simp;omega) λe=>by have h1:=MF pX.out hb;rw[MF QL.out e.symm] at h1;cases h1).trans (heap_alloc_old _ _ (pX.out.lt b hb).2)
     ·rw[K2.out];unfold jd;rw[aY,aC,HVL.out];exact QN.out
    case measure=>simp[intOf];omega
   ·obtain rfl:k=n:=aj
    have hfin:WE F a D w (.returned (.tuple #[.slice ua (bss.take k).flatten.length uc,.slice va (ids.take k).length vc])) wr:=⟨_,_,rfl,by rw[<-rO.out.1,HB.out];exact H6 hu hsz3,by rw[<-rO.out.2,HB.out];exact H6 hv hsz3,tH.out.trans (iV hE),HD3.out.ext hE⟩;have qo:=ah hfin;clear hfin hu hv;go_wp2_with fail
    go_ret2
    exact qo.out
section
open Zn (tp)
variable{a c:Nat}{w:aB}{F:tyP}{v:aX}
theorem c7L{d:Dr}{D:Dk.D}{bss:fJ}(z:d.bY.length<=60)(h:Zu d.renew D)(a:(G9 D.files).1=some (c,f,bss)):Ready D 400 c f bss:=by
 let⟨p,e,q⟩:=h.man rfl rfl;rw[<-Hl] at e
 cases j:bF p with
 | none=>rw[Qx e j] at a;cases a
 | some x=>
  let⟨g,r⟩:=x
  cases k:N8 _ r [] with
  | mk o=>
   cases o with
   | none=>rw[QF e j k] at a;cases a
   | some=>have l:=MH e j k;rw[l] at a;injection a with a;injection a with t a;injection a with u v;subst t;subst u;subst v;refine⟨h.safe,h.synced,h.bound,h.room,h.len,h.names,l,λx m=>?_⟩;obtain⟨s,k,rfl⟩:=q _ _ j x m;obtain⟨i,y,rfl⟩:=Hu.1 k;show(IY (i+1):Int)<=_;rw[c0E aj aj];omega
def VO(F:tyP)(a:Nat)(D:Dk.D)(w0:aB)(a':Act)(w:aB):Prop:=
 a'.defers=[]/\a'.tmps.size=108/\a'.tmps[5]?=some (l9 a)/\gI F w0 w/\o7 w F a D/\∃d b c v e,a'.tmps[7]?=some v/\a'.tmps[8]?=some e/\(G9 D.files).1=some (d,b,c)/\b≠[]/\Held w F (λW=>Ints W v b)/\Held w F (λW=>P6 W e D.files)
def LH(F:tyP)(w0:aB)(a':Act)(w:aB):Prop:=a'.defers=[]/\a'.tmps[2]?=some (.bool true)/\gI F w0 w
theorem Held.RI(h:jd w B v l)(d:∀b,F b->b<B):Held w F (λW=>Ints W v l):=
 .mono (.of (jH.row h) λb a=>⟨(World.ownsRow.lt h b a).2,λc=>by have:=(World.ownsRow.lt h b a).1;grind⟩:Held w F (λW=>jd W B v l)) λW h=>h.ints
theorem Held.Bg{l:dV}(h:OwnB w B v l)(d:∀b,F b->b<B):Held w F (λW=>Bytes W v l):=
 .mono (.ownB h λb a c=>by have:=(World.ownsRow.lt h b a).1;grind) λW h=>OwnB.bytes h
section
attribute [local go_sem] undef
theorem c8Y{D:Dk.D}(L:T.size=108)(Y:T[5]?=some (l9 a))(E:o7 w F a D)(c:D.Calm)(m:D.Fit):oG gB (VO F a D w) (LH F w) 3 8 ⟨T,[]⟩ w:=by
 obtain⟨x,e,N⟩:=IZ 108 T L;refine(congrArg (λT'=>oG _ _ _ _ _ ⟨T',[]⟩ _) (O8 (k:=5) e<|N 5 _ Y)).mpr ?_;clear e N L Y;have Q:gI F w w:=gI.refl F w;obtain⟨l,k⟩:∃l,w=l:=⟨_,rfl⟩;rw[show VO F a D w=VO F a D l by rw[k],show LH F w=LH F l by rw[k]];have Q:gI F l w:=k▸gI.refl F w;clear k;refine oG.into λK q τ p=>?_;have d:o7 (tp w τ p) F a D:=E.eU;have j:gI F l (tp w τ p):=Q.tp' τ p;generalize tp w τ p=w1 at d j⊢;have y:=ah q;have o:=ah j;have S:=ah (B9 F a D w1 d c m);have R:=ah d.low;clear q E Q d j;unfold l9 at S;unfold gB nJ l9;simp only[Code.behind,Code.head,Tryz.f8,aG,AN,List.range,List.range.loop,bD,dS,up,reduceIte,Nat.reduceEqDiff];go_wp2_with fail
 refine S.out.mono ?_;rintro e G ⟨u,v,rfl,hu,g,f,i⟩;have s:=Held.RI g R.out;obtain⟨M,J,rfl,DZ,sN,-⟩:=s.get.open;have U:=ah i;have o:=ah (o.out.trans<|gI.of' f);have t:=ah s;clear hu g f i S s DZ sN;go_wp2_with fail
 refine qy.go y.out ?_;clear y K;refine oG.into λK q τ p=>?_;have d:o7 (tp G τ p) F a D:=U.out.eU;have j:gI F l (tp G τ p):=o.out.tp' τ p;have g:Held (tp G τ p) F _:=t.out.eU;generalize tp G τ p=C at d j g⊢;have y:=ah q;have U:=ah d;have o:=ah j;have t:=ah g;clear q d j g;unfold gB nJ;simp only[Code.behind,Code.head,Tryz.f8,aG];by_cases H:(PV (G9 D.files).1).length=0
 have X:=aj
 rw[H];go_wp2_with fail
 exact⟨rfl,rfl,o.out⟩
 obtain⟨n,A⟩:∃n,(PV (G9 D.files).1).length=n:=⟨_,rfl⟩;have X:((n:Int)==0)=false:=by rw[bG];omega
 rw[A];rw[A] at H;have t:=ah (A▸t.out:Held C F _);go_wp2_with fail
 refine qy.go y.out ?_;clear y K;refine oG.into λK q τ p=>?_;have d:o7 (tp C τ p) F a D:=U.out.eU;have j:=o.out.tp' τ p;have g:Held (tp C τ p) F _:=t.out.eU;generalize tp C τ p=w4 at d j g⊢;have y:=ah q;have o:=ah j;have t:=ah g;have b:=ah (Xn F a D w4 d c (by have:=m.len;omega) (λx N=>by have:=m.data x N;omega) (λp hp=>by have:=m.names p hp;unfold maxLen;omega));have R:=ah d.low;clear q d j g;unfold l9 at b;unfold gB nJ;simp only[Code.behind,Code.head,Tryz.f8,aG];go_wp2_with fail
 refine b.out.mono ?_;rintro e w5 ⟨B,rows,rfl,Z,i,f⟩;have r:∀T,T.size=108->T[5]?=some (l9 a)->T[7]?=some (.slice M n J)->T[8]?=some B->VO F a D l ⟨T,[]⟩ w5:=λT L e5 e7 e8=>by
  refine⟨rfl,L,e5,o.out.trans<|gI.of' f,i,?_⟩;have g:=t.out.step f
  cases P:(G9 D.files).1 with
  | none=>exact absurd A<|by rw[P];exactλh=>H h.symm
  | some x=>obtain⟨O,z,V⟩:=x;rw[P] at g;exact⟨O,z,V,_,B,e7,e8,rfl,λh=>H<|by rw[<-A,P];show z.length=0;rw[h];rfl,g,Z.held R.out⟩
 have qo:=ah r;clear r Z i f;go_wp2_with fail
 apply qy.go y.out;exact qo.out _ rfl rfl rfl rfl
def qk(F:tyP)(a:Nat)(D:Dk.D)(v b:aX)(w0:aB)(a':Act)(w:aB):Prop:=
 a'.defers=[]/\a'.tmps.size=108/\a'.tmps[5]?=some (l9 a)/\a'.tmps[7]?=some v/\a'.tmps[8]?=some b/\a'.tmps[10]?=some (.int .i64 0)/\gI F w0 w/\o7 w F a D
theorem c8Z{D:Dk.D}{g:aX}(r:T.size=108)(q:T[5]?=some (l9 a))(s:T[7]?=some v)(u:T[8]?=some g)(o:T[9]?=some .nilIface)(t:o7 w F a D):oG gB (qk F a D v g w) (λ_ _=>False) 1 12 ⟨T,[]⟩ w:=by
 obtain⟨x,e,d⟩:=IZ 108 T r;refine(congrArg (λz=>oG _ _ _ _ _ ⟨z,[]⟩ _) (O8 (k:=9) (O8 (k:=8) (O8 (k:=7) (O8 (k:=5) e<|d 5 _ q)<|d 7 _ s)<|d 8 _ u)<|d 9 _ o)).mpr ?_;clear e d r q s u o;refine oG.into λK i τ p=>?_;have l:=uR<|tp w τ p;have f:gI F w (tp w τ p):=(gI.refl F w).tp' τ p;have n:o7 (tp w τ p) F a D:=t.eU;obtain⟨h,c⟩:∃h,w=h:=⟨_,rfl⟩;rw[show qk F a D v g w=qk F a D v g h by rw[c]] at i;have f:gI F h (tp w τ p):=c▸f;generalize tp w τ p=w1 at l f n⊢;have y:=ah l;have k:=ah f;have m:=ah n;clear t l f n c;unfold gB nJ l9;simp only[Code.behind,Code.head,Tryz.f8,aG,AN,List.range,List.range.loop,bD,dS,up,reduceIte,Nat.reduceEqDiff];go_wp2_with fail
 refine y.out.mono ?_;rintro e w2 ⟨rfl,j⟩;have m:=ah<|m.out.ext j;have k:=ah (k.out.trans<|gI.ext' j);clear j y;go_wp2_with fail
 apply qy.go i;trivial
end
end
section
open Zn (tp)
section
attribute [local go_sem] undef
def Za(F:tyP)(a:Nat)(D:Dk.D)(b:fC)(l:dV)(w0:aB)(a':Act)(w:aB):Prop:=
 a'.defers=[]/\a'.tmps.size=108/\a'.tmps[5]?=some (l9 a)/\gI F w0 w/\o7 w F a D/\∃v u,a'.tmps[7]?=some v/\a'.tmps[13]?=some u/\b≠[]/\Held w F (λW=>Ints W v b)/\Held w F (λW=>Bytes W u l)
theorem c81{F:tyP}{a gen:Nat}{c:fC}{bss:fJ}{D:Dk.D}{w:aB}(U:T.size=108)(h5:T[5]?=some (l9 a))(H:T[10]?=some (.int .i64 0))(G:T[12]?=some (.bool true))(hD:o7 w F a D)(hc:D.Calm)(r:D.Fit)(Y:(G9 D.files).1=some (gen,c,bss))(N:bss.length=c.length):
 oG gB (Za F a D c bss.flatten w) (LH F w) 3 14 ⟨T,[]⟩ w:=by
 obtain⟨x,e,R⟩:=IZ 108 T U;refine(congrArg (λT'=>oG _ _ _ _ _ ⟨T',[]⟩ _) (O8 (k:=12) (O8 (k:=10) (O8 (k:=5) e (R 5 _ h5)) (R 10 _ H)) (R 12 _ G))).mpr ?_;clear e R U h5 H G;have A:c.length=0->bss.flatten.length=0:=λh=>by have hb0:bss=[]:=dL (by rw[N,h]);rw[hb0];rfl
 have y:Zk (G9 D.files).1=bss.flatten:=by rw[Y];rfl
 have E:PV (G9 D.files).1=c:=by rw[Y];rfl
 obtain⟨l,hl⟩:∃l,bss.flatten=l:=⟨_,rfl⟩;rw[hl] at A y⊢;have HCM:=ah hc;have Yi:=ah r;have HJB:=ah y;have HJI:=ah E;have QU:=ah A;clear hc r Y N A y E hl;obtain⟨j,k⟩:∃j,w=j:=⟨_,rfl⟩;rw[show Za F a D c l w=Za F a D c l j by rw[k],show LH F w=LH F j by rw[k]];have hC:gI F j w:=k▸gI.refl F w;clear k;refine oG.into λK q τ p=>?_;have d:o7 (tp w τ p) F a D:=hD.eU;have f:gI F j (tp w τ p):=hC.tp' τ p;generalize tp w τ p=w1 at d f⊢;have Q:=B9 F a D w1 d HCM.out Yi.out;unfold WE at Q;rw[HJB.out,HJI.out] at Q;have m:=d.low;have C:=ah q;have o:=ah f;have HJ:=ah Q;have Ig:=ah m;clear q hD hC d f Q m;unfold l9 at HJ;unfold gB nJ l9;simp only[Code.behind,Code.head,Tryz.f8,aG,AN,List.range,List.range.loop,bD,dS,up,reduceIte,Nat.reduceEqDiff];go_wp2_with fail
 refine HJ.out.mono ?_;rintro e t ⟨u,v,rfl,g,i,O,M⟩;have z:Held t F (λW=>Ints W v c):=Held.RI i Ig.out;have B:Held t F (λW=>Bytes W u l):=Held.Bg g Ig.out;obtain⟨va,V,rfl,DZ,sN,-⟩:=z.get.open;obtain⟨Z,uc,rfl,huc,FZ,-⟩:=B.get.open;have I:=ah M;have o:=ah (o.out.trans (gI.of' O));have L:=ah z;have P:=ah B;clear g i O M HJ z DZ sN B huc FZ;go_wp2_with fail
 refine qy.go C.out ?_;clear C K;refine oG.into λK q τ p=>?_;have d:o7 (tp t τ p) F a D:=I.out.eU;have f:gI F j (tp t τ p):=o.out.tp' τ p;have i:Held (tp t τ p) F (λW=>Ints W (.slice va c.length V) c):=L.out.eU;have g:Held (tp t τ p) F (λW=>Bytes W (.slice Z l.length uc) l):=P.out.eU;generalize tp t τ p=J at d f i g⊢;have C:=ah q;have I:=ah d;have o:=ah f;have L:=ah i;have P:=ah g;clear q d f i g;unfold gB nJ;simp only[Code.behind,Code.head,Tryz.f8,aG];go_wp2_with fail
 refine qy.go C.out ?_;clear C K;refine oG.into λK q τ p=>?_;have d:o7 (tp J τ p) F a D:=I.out.eU;have f:gI F j (tp J τ p):=o.out.tp' τ p;have i:Held (tp J τ p) F (λW=>Ints W (.slice va c.length V) c):=L.out.eU;have g:Held (tp J τ p) F _:=P.out.eU;generalize tp J τ p=w4 at d f i g⊢;have C:=ah q;have I:=ah d;have o:=ah f;have L:=ah i;have P:=ah g;clear q d f i g;unfold gB nJ;simp only[Code.behind,Code.head,Tryz.f8,aG];by_cases S:c.length=0
 ·rw[S,QU.out S];go_wp2_with fail
  exact⟨rfl,rfl,o.out⟩
 ·obtain⟨n,X⟩:∃n,c.length=n:=⟨_,rfl⟩;have h0':((n:Int)==0)=false:=by rw[bG];omega
  have s:∀T:dU,T.size=108->T[5]?=some (l9 a)->T[7]?=some (.slice va n V)->T[13]?=some (.slice Z l.length uc)->Za F a D c l j ⟨T,[]⟩ w4:=λT U e5 e7 e8=>⟨rfl,U,e5,o.out,I.out,_,_,e7,e8,λh=>S (by rw[h];rfl),X▸L.out,P.out⟩
  have qo:=ah s;clear s;rw[X];clear X S;go_wp2_with fail
  refine qy.go C.out ?_;exact qo.out _ rfl rfl rfl rfl
end
end
section
open Zn (tp)
section
attribute [local go_sem] undef
def P0(F:tyP)(w:aB):Exit->Act->World->Prop
 | .ret,a,b=>a.defers=[]/\a.tmps[2]?=some (.bool true)/\gI F w b
 | _,_,_=>False
theorem c7N{F:tyP}{a:Nat}{u:aX}{bss:fJ}{D:Dk.D}{w:aB}(Q:T.size=108)(O:T[5]?=some (l9 a))(M:T[9]?=some .nilIface)(r:T[13]?=some u)(y:Held w F (λW=>Bytes W u bss.flatten))(X:o7 w F a D)(Z:D.Calm)(d:D.Fit)(I:(G9 D.files).1=some (H,n,bss)):
 (nJ 18).wp prog (P0 F w) ⟨T,[]⟩ w:=by
 obtain⟨x,e,v⟩:=IZ 108 T Q;refine(congrArg (λT'=>Code.wp _ _ _ ⟨T',[]⟩ _) (O8 (k:=13) (O8 (k:=9) (O8 (k:=5) e (v 5 _ O)) (v 9 _ M)) (v 13 _ r))).mpr ?_;clear e v Q O M r;have i:Zk (G9 D.files).1=bss.flatten:=by rw[I];rfl
 have p:PV (G9 D.files).1=n:=by rw[I];rfl
 obtain⟨l,N⟩:∃l,bss.flatten=l:=⟨_,rfl⟩;rw[N] at y i;obtain⟨z,g⟩:∃z,w=z:=⟨_,rfl⟩;rw[show P0 F w=P0 F z by rw[g]];have L:=ah Z;have Yi:=ah d;have V:=ah i;have R:=ah p;have A:=ah y;have Y:=ah X;have c:=ah (g▸gI.refl F w:gI F z w);have U:=ah (uR w);obtain⟨ua,uc,rfl,h,J,-⟩:=y.get.open;clear Z d I y X g h J i p N;unfold nJ l9;simp only[Code.behind,Tryz.f8,aG,AN,List.range,List.range.loop,bD,dS,up,reduceIte,Nat.reduceEqDiff];go_wp2_with fail
 refine U.out.mono ?_;rintro e w1 ⟨rfl,s⟩;have C:=Y.out.ext s;have t:=B9 F a D w1 C L.out Yi.out;unfold WE at t;rw[V.out,R.out] at t;have E:=ah t;have Ig:=ah C.low;have c:=ah (c.out.trans (gI.ext' s));have A:=ah (A.out.ext s);clear s C t Y U;unfold l9 at E;go_wp2_with fail
 refine E.out.mono ?_;rintro e B ⟨S,v2,rfl,o,G,m,K⟩;have j:Bytes B S l:=OwnB.bytes o;have k:=c3V _ S _ _ B (A.out.step m).get j;rw[aN rfl] at k;obtain⟨ub,ubc,rfl,h,J,-⟩:=j.open;have P:=ah k;have c:=ah (c.out.trans (gI.of' m));clear o G m K j k E h J A;go_wp2_with fail
 refine P.out.mono ?_;rintro e w3 ⟨rfl,q,rfl⟩;have c:=ah (c.out.trans (gI.ext' (gZ B q)));clear P;generalize B.drewN q=w3 at c⊢;go_wp2_with fail
 trivial
end
end
end Go.Proofs.YtgpbhjjajpbeeaaGreatDoor
