/- A part of what the last file proves. -/
import Derived.Test.YtgpbhjjajpbeeaaGreatDoorA18
import Derived.Deep.DeepCutAuto
import Derived.Test.YtgpbhjjajpbeeaaGreatDoorCards
import Derived.Test.YtgpbhjjajpbeeaaGreatDoorTie
import Derived.ProofKit
import Derived.OpenShut
import Derived.Deep.DeepHandedRow
import Derived.Deep.DeepLaidRun
import Derived.Deep.Slices
import Derived.WideKeyArgs
import Derived.LaidLaws
import Derived.LaidHandle
import Derived.Leaving
import Derived.Conc.Holds
import Derived.Lib.LaidTab
import Derived.Lib.SmallJoins
import Derived.SizedLaws
set_option linter.all false
set_option maxRecDepth 100000
set_option maxHeartbeats 1600000
open Go.Proofs.Tryz
namespace Go.Proofs.YtgpbhjjajpbeeaaGreatDoor
open Go.RowKit Go.Lib Go.Maps Dk Pl Go.ChangeShapes Go.WideShapes Go.ChangeAt Go.Joins Go.Deep
variable{b c g i j n:Nat}{α:Type}{w:aB}{v:aX}{e t:bT}
abbrev vG(w:aB)(r:Nat)(l:List (Nm×Int)):Prop:=MapOf prog 9 bJ (Value.int .i64) w r l
def VU(w:aB):(zeroValue 3).run prog w=.ok (.int .i64 0) w:=rfl
theorem Ek(a:Nm)(k:Nat):(y7 a k).length=a.length+6:=by simp[y7]
def tM(F:tyP)(a:Nat)(d:D)(w:aB)(e:Ending)(w':aB):Prop:=
 e=.returned .nilIface/\∃c,o7 w' c a d/\iq F c w w'/\∀b,F b->c b
theorem sweep_any(F:tyP)(a:Nat)(d:D)(ids:fC)(v:aX)(w:aB)(h:o7 w F a d)(hc:d.Calm)(hnd:(d.now.map (·.1)).Nodup)(hv:Held w F (λW=>Ints W v ids))(hi:zk ids)(hl:S9 w)(hnl:d.now.length<=32768)
 (hml:d.moves.length<=900000)(hms:∀l∈d.moves,l.length<=1000000/\∀m∈l,m.1.length<=maxLen)(hnm:∀p∈d.now,p.1.length<=1000000):
 Calls prog 78 #[l9 a,v] w (tM F a (d.sweep ids).2 w):=by
 have hmm:=@run_makeMap prog;obtain⟨va,vc,rfl,DZ,sN,-⟩:=id hv.get;have hm0:vG (w.alloc (.map #[] 0)) w []:=MapOf.made w;obtain⟨w1,hrun,hN1,ac⟩:=hm0.store X0 U0 underlying247 (vI (l:=y8) (by unfold y8 maxLen;simp)) 1;have hE1:Ext w w1:=by have:=(dh w).new (.map #[] 0);exact Ext.off this ac (ak _)
 have hk0:X4 ([]:List (Nm×Int)) y8 1=Ej []:=rfl;rw[hk0] at hN1;have HN1:=ah hN1;have lQ:=ah hE1;have HD:=ah h;have HV:=ah hv;have HI:=ah hi;have HL:=ah hl;have zK:=ah h.low;clear hN1 hE1 ac hm0 hk0 h hv hi hl;unfold bJ y8 at hrun;show Calls prog 78 #[.pointer (some a),.slice va ids.length vc] w (tM F a (d.sweep ids).2 w);go_enter func78,ntmps78
 go_wp2;go_loopw [15] (λi wr=>∃k:Nat,k<=ids.length/\i=.int .i64 k/\vG wr w (Ej (ids.take k))/\Ext w wr) (λi _=>ids.length - (intOf i).toNat)
 case atStart=>exact⟨0,aj,rfl,by simpa using HN1.out,lQ.out⟩
 case round=>
  obtain⟨k,hk,rfl,hM,hE⟩:=hrel;by_cases hlt:k<ids.length
  ·obtain⟨xb,rfl,oQ⟩:=Ints.at HV.out.get hE hlt;have hr:=HI.out.2 ids[k] (bQ hlt);obtain⟨y,hy⟩:∃y:Nat,ids[k]=(y:Int):=⟨ids[k].toNat,aj⟩;rw[hy] at oQ hr;have hnm:=Qs D6 y wr IQ aj (HL.out.ext hE);have hks:Ej (ids.take (k+1))=X4 (Ej (ids.take k)) (y7 D6 y) 1:=by rw[take_snoc ids k hlt,Eg,hy,fQ]
   have nR:=ah hnm;have MU:=ah hks;have HM:=ah hM;have HE:=ah hE;have HY:=ah hy;clear hnm hks hM hE hy;unfold bJ at nR;unfold D6 at nR;go_wp2_with fail
   refine nR.out.mono ?_;rintro e w2 ⟨rfl,hE2⟩;have hM2:=HM.out.ext hE2;obtain⟨w3,hrun3,hN3,hO3⟩:=hM2.store X0 U0 underlying247 (vI (l:=y7 D6 y) (by rw[Ek];unfold D6 maxLen;simp)) 1;have jM:Ext w w3:=Ext.off (lI HE.out hE2) hO3 (ak _);have zJ:=ah hN3;have qO:=ah jM;clear hN3 jM hO3 hM2 hE2;unfold bJ D6 at hrun3;go_wp2;go_roundw
   case rel=>exact⟨k+1,aj,iE,by rw[MU.out];exact zJ.out,qO.out⟩
   case measure=>simp[intOf];omega
  ·obtain rfl:k=ids.length:=aj
   rw[bK] at hM;have hlist:=vh F a d wr (HD.out.ext hE) hnl;have QT:=ah hlist;have HM:=ah hM;have HE:=ah hE;clear hlist hM hE;unfold l9 at QT;go_wp2_with fail
   refine QT.out.mono ?_;rintro e w2 ⟨nv,rfl,hN,hE2⟩;have hll:d.list.length<=32768:=by unfold D.list;simpa using hnl
   have hF2:∀b,F b->b<w.heap.size:=zK.out;have rW:Held w2 F (λW=>uH W 0 nv d.list/\vG W w (Ej ids)):=by
    refine Held.and ((Held.of (jH.row hN) λb hb=>⟨(World.ownsRow.lt hN b hb).2,λhF=>?_⟩).mono λW hW=>H6 hW (dD _)) (Held.of (jH.map (HM.out.ext hE2)) λb hb=>⟨?_,λhF=>?_⟩)
    ·have:=(World.ownsRow.lt hN b hb).1;have:=hF2 b hF;have:=HE.out.size;omega
    ·rw[hb];exact(HM.out.ext hE2).lt
    ·have:=hF2 b hF;omega
   have hC2:iq F F w w2:=iV (lI HE.out hE2);have hD2:o7 w2 F a (d.kJ ids 0):=by rw[D.vN];exact(HD.out.ext HE.out).ext hE2
   obtain⟨na,nc,YE⟩:=ownsRow_form hN;subst YE;have HH:=ah rW;have HC2:=ah hC2;have HD2:=ah hD2;clear rW hC2 hD2 hN hE2 hF2;go_wp2;go_loopw [26] (λi wr=>∃(j:Nat)(F':tyP),j<=d.list.length/\i=.int .i64 j/\o7 wr F' a (d.kJ ids j)/\Held wr F' (λW=>uH W 0 (.slice na d.list.length nc) d.list/\vG W w (Ej ids))/\iq F F' w wr/\∀b,F b->F' b) (λi _=>d.list.length - (intOf i).toNat)
   case atStart=>exact⟨0,F,aj,rfl,HD2.out,HH.out,HC2.out,λb hb=>hb⟩
   case round=>
    obtain⟨j,F',hj,rfl,hD3,hH3,nD,hF3⟩:=hrel;have hsw:=hc.sw hnd ids j;by_cases hjl:j<d.list.length
    ·obtain⟨nm,hn⟩:∃nm,d.list[j]?=some nm:=⟨_,au hjl⟩;obtain⟨nb,S4,BI,hcell⟩:=hH3.get.1.cell hn;injection BI with e1 e2 e3;subst e1;subst e3;have Kq:nm.length<=1000000:=by have:=aH hn;rw[zu] at this;obtain⟨p,hp,rfl⟩:=aQ.1 this;exact hnm p hp
     have hlk:=hH3.get.2.look X0 U0 underlying247 (VU wr) (vI (l:=nm) lJ);rw[b7b] at hlk;have HN:=ah hn;have HD3:=ah hD3;have HH3:=ah hH3;have tH:=ah nD;have HF3:=ah hF3;have HSW:=ah hsw;clear hn hD3 hH3 nD hF3 hsw e2;unfold bJ at hcell hlk
     cases hkl:decide (nm=y8)||X6 ids nm with
     | true=>
      rw[hkl] at hlk;simp only[if_true,eP,aG] at hlk;have hkb:Z7 ids nm=true:=by unfold Z7;rw[<-Bool.or_assoc,hkl];rfl
      have hsk:=DD HN.out hkb;have K6:=ah hsk;clear hsk hkb hkl;go_wp2;go_roundw
      case rel=>exact⟨j+1,F',aj,iE,by rw[K6.out];exact HD3.out,HH3.out,tH.out,HF3.out⟩
      case measure=>simp[intOf];omega
     | false=>
      rw[hkl] at hlk;simp only[dY,if_false,Hr,DC] at hlk;have hih:=b62 nm wr Kq;have hkb:Z7 ids nm=qW qx nm:=by unfold Z7;rw[<-Bool.or_assoc,hkl];rfl
      have HIH:=ah hih;have HKB:=ah hkb;clear hih hkb hkl;unfold bJ at HIH;go_wp2_with fail
      refine HIH.out.mono ?_;rintro e w3 ⟨rfl,jM⟩;have hD4:=HD3.out.ext jM;have OY:=HH3.out.ext jM;have Vj:=tH.out.trans (iV (F:=F') jM);have HD4:=ah hD4;have fu:=ah OY;have QX:=ah Vj;clear hD4 OY Vj jM hcell hlk
      cases xK:qW qx nm with
      | true=>
       have hsk:=DD HN.out (HKB.out.trans xK);have K6:=ah hsk;clear hsk xK;go_wp2;go_roundw
       case rel=>exact⟨j+1,F',aj,iE,by rw[K6.out];exact HD4.out,fu.out,QX.out,HF3.out⟩
       case measure=>simp[intOf];omega
      | false=>
       have hsd:=b7c hc hnd HN.out (HKB.out.trans xK);have Ku:(d.kJ ids j).moves.length<=1000000:=by
        rw[HSW.out.moves,aC,bV];have h1:=iC (λn=>!Z7 ids n) (d.list.take j);have h2:(d.list.take j).length<=32768:=Ea
        omega
       have hrm:=GG F' a (d.kJ ids j) nm w3 HD4.out lJ Ku;rw[hsd] at hrm;have yx:=ah hrm;clear hrm hsd Ku xK;unfold l9 bJ at yx;go_wp2_with fail
       refine yx.out.mono ?_;rintro e w4 ⟨F4,v4,rfl,hv4,hD5,yQ,KX⟩;obtain rfl:v4=.nilIface:=hv4.get;have hH5:=fu.out.step yQ;have HD5:=ah hD5;have Nz:=ah hH5;have JK:=ah (QX.out.trans yQ);have Yk:=ah KX;clear hD5 hH5 yQ KX hv4;go_wp2;go_roundw
       case rel=>exact⟨j+1,F4,aj,iE,HD5.out,Nz.out,JK.out,λb hb=>Yk.out b (HF3.out b hb)⟩
       case measure=>simp[intOf];omega
    ·obtain rfl:j=d.list.length:=aj
     have hsa:=c0u hc hnd ids;have hsy:=EB F' a _ wr hD3 (by
      rw[hsw.moves,aC,bV];have h1:=iC (λn=>!Z7 ids n) (d.list.take d.list.length);have h2:(d.list.take d.list.length).length<=32768:=Ea
      omega) (by
      rw[hsw.moves];intro l hl;rcases aP.1 hl with hl|hl
      ·exact hms l hl
      ·obtain⟨n,hn,rfl⟩:=aQ.1 hl;refine⟨aZ,λm hm=>?_⟩;simp at hm;subst hm;have:=List.mem_of_mem_take (dQ.1 hn).1;rw[zu] at this;obtain⟨p,hp,rfl⟩:=aQ.1 this;have:=hnm p hp;show p.1.length<=maxLen;unfold maxLen;omega)
     rw[<-hsa] at hsy;have hok:(d.sweep ids).1=.ok:=by rw[hsa,hsw.calm.jc]
     rw[show d.sweep ids=((d.sweep ids).1,(d.sweep ids).2) from rfl,hok] at hsy;have JC:=ah hsy;have tH:=ah nD;have HF3:=ah hF3;clear hsy hok hsa hsw hD3 hH3 nD hF3;unfold l9 at JC;go_wp2_with fail
     refine JC.out.mono ?_;rintro e w4 ⟨F4,v4,rfl,hv4,hD5,yQ,KX⟩;obtain rfl:v4=.nilIface:=hv4.get;have hfin:tM F a (d.sweep ids).2 w (.returned .nilIface) w4:=⟨rfl,F4,hD5,tH.out.trans yQ,λb hb=>KX b (HF3.out b hb)⟩;have HF:=ah hfin;clear hfin hD5 yQ KX hv4;go_wp2;go_ret;exact HF.out
theorem si{l:dV}{ids:fC}(h:bF l=some (g,ids)):zk ids:=by
 unfold bF at h;split at h
 ·rename_i hg;injection h with h;injection h with _ h;unfold Am at hg;simp only[aI] at hg;have hi:=hg.2.2.2;rw[h] at hi;unfold Q7 at hi;simp only[aI,bZ,aU] at hi;refine⟨hi.1,λx hx=>?_⟩;have:=hi.2.1 x hx;unfold inRange at this;simpa using this
 ·cases h
structure Rc where
 seq:Nat
 key:ByteArray
 val:ByteArray
 del:Bool
structure Sg where
 id:Int
 recs:List Rc
 tail:List UInt8
 listed:Bool
 gone:Bool
structure Ot where
 name:ByteArray
 hint:Int
 bytes:List UInt8
structure Dr where
 bY:List Sg
 others:List Ot
 gen:Nat
 spoilt:List UInt8
 whole:Bool
 without:Bool
def RowOf{α:Type}(w:aB)(v:aX)(l:List α)(sz:Nat)(d:World->Addr->α->Prop):Prop:=
 ∃a c,v=.slice a l.length c/\l.length<=c/\(c<=9223372036854775807/\(a=none->c=0))/\∀i x,l[i]?=some x->∃b,a=some b/\d w (b.add (i*sz)) x
def Ef(w:aB)(b:Addr)(r:Rc):Prop:=
 w.cell? b=some (.int .u64 r.seq)/\w.cell? ⟨b.block,b.off+1,none⟩=some (.string r.key)/\w.cell? ⟨b.block,b.off+2,none⟩=some (.string r.val)/\w.cell? ⟨b.block,b.off+3,none⟩=some (.bool r.del)
def qL(w:aB)(b:Addr)(s:Sg):Prop:=
 ∃c a,w.cell? b=some (.int .i64 s.id)/\w.cell? ⟨b.block,b.off+1,none⟩=some c/\w.cell? ⟨b.block,b.off+2,none⟩=some a/\w.cell? ⟨b.block,b.off+3,none⟩=some (.bool s.listed)/\w.cell? ⟨b.block,b.off+4,none⟩=some (.bool s.gone)/\
  RowOf w c s.recs 4 Ef/\Bytes w a s.tail
def GK(w:aB)(b:Addr)(s:Ot):Prop:=
 ∃a,w.cell? b=some (.string s.name)/\w.cell? ⟨b.block,b.off+1,none⟩=some (.int .i64 s.hint)/\w.cell? ⟨b.block,b.off+2,none⟩=some a/\Bytes w a s.bytes
def GI(w:aB)(v:aX)(d:Dr):Prop:=
 ∃a c b,v=.agg #[a,c,.int .u64 d.gen,b,.bool d.whole,.bool d.without]/\RowOf w a d.bY 5 qL/\RowOf w c d.others 3 GK/\Bytes w b d.spoilt
theorem RowOf.ext{α:Type}{w w':aB}{v:aX}{l:List α}{sz:Nat}{c:World->Addr->α->Prop}(h:RowOf w v l sz c)(e:∀b x,c w b x->c w' b x):RowOf w' v l sz c:=by obtain⟨a,d,rfl,g,m,k⟩:=h;refine⟨a,d,rfl,g,m,λi x j=>?_⟩;grind
def Ef.ext{w w':aB}{b:Addr}{r:Rc}(a:Ext w w')(h:Ef w b r):Ef w' b r:=⟨a.cell h.1,a.cell h.2.1,a.cell h.2.2.1,a.cell h.2.2.2⟩
def qL.ext{w w':aB}{b:Addr}{r:Sg}(a:Ext w w')(h:qL w b r):qL w' b r:=have⟨j,c,d,i,g,l,f,k,e⟩:=h;⟨j,c,a.cell d,a.cell i,a.cell g,a.cell l,a.cell f,k.ext λ_ _=>.ext a,e.ext a⟩
def GK.ext{w w':aB}{b:Addr}{r:Ot}(a:Ext w w')(h:GK w b r):GK w' b r:=have⟨c,d,f,e,g⟩:=h;⟨c,a.cell d,a.cell f,a.cell e,g.ext a⟩
theorem GI.ext{w w':aB}{v:aX}{d:Dr}(h:GI w v d)(a:Ext w w'):GI w' v d:=by obtain⟨i,g,c,rfl,e,f,b⟩:=h;exact⟨i,g,c,rfl,e.ext λ_ _=>.ext a,f.ext λ_ _=>.ext a,b.ext a⟩
theorem RowOf.form{l:List α}{sz:Nat}{b:World->Addr->α->Prop}(h:RowOf w v l sz b):∃a cap,v=.slice a l.length cap/\l.length<=cap/\cap<=9223372036854775807:=by obtain⟨a,cap,rfl,c,d,_⟩:=h;exact⟨a,cap,rfl,c,d.1⟩
theorem RowOf.at{a:Option Addr}{cap:Nat}{l:List α}{sz:Nat}{c:World->Addr->α->Prop}(h:RowOf w (.slice a l.length cap) l sz c){x:α}(f:l[i]?=some x):∃b,a=some b/\c w (b.add (i*sz)) x:=by let⟨k,d,e,_,_,g⟩:=h;grind
structure Dr.Small(d:Dr):Prop where
 bY:d.bY.length<=60
 others:d.others.length<=300
 spoilt:d.spoilt.length<=40000
 tail:∀s∈d.bY,s.tail.length<=40000
 recs:∀s∈d.bY,s.recs.length<=2000/\∀r∈s.recs,r.key.size<=40000/\r.val.size<=40000
 other:∀s∈d.others,s.name.size<=40000/\s.bytes.length<=40000
structure Dr.Fits(d:Dr)(B:Nat):Prop where
 tail:∀s∈d.bY,s.tail.length<=B
 recs:∀s∈d.bY,∀r∈s.recs,r.key.size<=B/\r.val.size<=B
 other:∀s∈d.others,s.name.size<=B/\s.bytes.length<=B
def PU(n:Int)(s:Sg):Prop:=(s.tail.length:Int)<=n/\20*(s.recs.length:Int)<=n/\∀r∈s.recs,(r.key.size:Int)<=n/\(r.val.size:Int)<=n
def PS(n:Int)(s:Sg)(j:Nat):Prop:=(s.tail.length:Int)<=n/\20*(j:Int)<=n/\∀r∈s.recs.take j,(r.key.size:Int)<=n/\(r.val.size:Int)<=n
def Ze(n:Int)(s:Ot):Prop:=(s.name.size:Int)<=n/\(s.bytes.length:Int)<=n
theorem PU.mono{n m:Int}{s:Sg}(h:PU n s)(k:n<=m):PU m s:=
 ⟨by have:=h.1;omega,by have:=h.2.1;omega,λr hr=>by have:=h.2.2 r hr;omega⟩
theorem PS.step{n m:Int}{s:Sg}{r:Rc}(h:PS n s j)(hr:s.recs[j]?=some r)(hm:m=n+20+r.key.size+r.val.size)(hn:0<=n):PS m s (j+1):=by
 refine⟨by have:=h.1;omega,by have:=h.2.1;omega,λx hx=>?_⟩;rw[cO,hr] at hx;rcases aP.1 hx with hx|hx
 ·have:=h.2.2 x hx;omega
 ·simp at hx;subst hx;omega
theorem PS.all{n:Int}{s:Sg}(h:PS n s s.recs.length):PU n s:=⟨h.1,h.2.1,λr hr=>h.2.2 r (by rw[bK];exact hr)⟩
theorem xi{p:α->Prop}{l:List α}{x:α}(h:∀s∈l.take i,p s)(hx:l[i]?=some x)(hp:p x):∀s∈l.take (i+1),p s:=by
 intro s hs;rw[cO,hx] at hs;rcases aP.1 hs with hs|hs
 ·exact h s hs
 ·simp at hs;subst hs;exact hp
def He(d:Dr)(w:aB)(e:Ending)(w':aB):Prop:=∃b:Bool,e=.returned (.bool b)/\(b=true->d.Small)/\Ext w w'
theorem He.no{d:Dr}{w':aB}(h:Ext w w'):He d w (.returned (.bool false)) w':=⟨false,rfl,⟨λh=>(by cases h),h⟩⟩
theorem c1y(v:aX)(d:Dr)(w:aB)(h:GI w v d)(hf:d.Fits 281474976710656):
 Calls prog 12 #[v] w (He d w):=by
 obtain⟨v0,v1,v3,rfl,h0,h1,h3⟩:=h;obtain⟨a0,c0,rfl,hl0,hm0⟩:=h0.form;obtain⟨a1,c1,rfl,hl1,hm1⟩:=h1.form;obtain⟨a3,c3,rfl,hl3,hm3,-⟩:=h3.open;have hE0:∀o,Ext w (w.alloc o):=λo=>(dh w).new o;have H0:=ah h0;have H1:=ah h1;have HF:=ah hf;have AQ:=ah hE0;clear h0 h1 h3 hf hE0;by_cases k0:60<d.bY.length
 ·go_enter func12,ntmps12
  go_wp2;go_ret;exact He.no (AQ.out _)
 by_cases k1:300<d.others.length
 ·go_enter func12,ntmps12
  go_wp2;go_ret;exact He.no (AQ.out _)
 by_cases k2:40000<d.spoilt.length
 ·go_enter func12,ntmps12
  go_wp2;go_ret;exact He.no (AQ.out _)
 obtain⟨w0,hw0⟩:∃w0,w.alloc (.cells #[.slice a0 d.bY.length c0,.slice a1 d.others.length c1,.int .u64 d.gen,.slice a3 d.spoilt.length c3,.bool d.whole,.bool d.without] 27)=w0:=⟨_,rfl⟩;have hb0:o6 w0 w 27 #[.slice a0 d.bY.length c0,.slice a1 d.others.length c1,.int .u64 d.gen,.slice a3 d.spoilt.length c3,.bool d.whole,.bool d.without]:=hw0▸jR _ _ rfl;have ou:Ext w w0:=hw0▸AQ.out _;have b0:=(hb0.cell 0).trans (show _=some (Value.slice a0 d.bY.length c0) from rfl);have b1:=(hb0.cell 1).trans (show _=some (Value.slice a1 d.others.length c1) from rfl);have fN:=ah ou;have HW0:=ah hw0;clear ou AQ hw0 hb0;have HB0:=ah b0;have HB1:=ah b1;go_enter func12,ntmps12
 go_wp2;rw[HW0.out];go_loopw [3,4] (λn i wr=>∃(k:Nat)(z:Int),k<=d.bY.length/\i=.int .i64 k/\n=.int .i64 z/\0<=z/\z<=40000+k*281474976710656/\(∀s∈d.bY.take k,PU z s)/\Ext w0 wr) (λ_ i _=>d.bY.length - (intOf i).toNat)
 case atStart=>exact⟨0,0,aj,rfl,rfl,aj,aj,aZ,dh w0⟩
 case round=>
  obtain⟨k,z,hk,rfl,rfl,hz0,hz1,hseg,hE⟩:=hrel;have e0:=hE.cell b0;have e1:=hE.cell b1;have ou:=fN.out.trans hE;clear b0 b1;have XR:=ah hseg;have HE:=ah hE;have NG:=ah ou;clear hseg hE ou;by_cases hlt:k<d.bY.length
  ·obtain⟨s,hs⟩:∃s,d.bY[k]?=some s:=⟨_,au hlt⟩;have hsm:=aH hs;have hft:=HF.out.tail s hsm;have hfr:=HF.out.recs s hsm;obtain⟨b,rfl,u1,u2,-,s1,s2,-,-,hrec,htail⟩:=(H0.out.ext λ_ _=>qL.ext NG.out).at hs;obtain⟨ra,rc,rfl,hrc,TP⟩:=hrec.form;obtain⟨ta,tc,rfl,htc,TB,-⟩:=htail.open;have Np:=ah hrec;have HS1:=ah s1;have HS:=ah hs;have HFR:=ah hfr;clear hrec htail hs hsm hfr;go_wp2;go_loopw [3,5] (λn i wq=>∃(j:Nat)(y:Int),j<=s.recs.length/\i=.int .i64 j/\n=.int .i64 y/\z<=y/\(y<=40000\/y<=z+281474976710656)/\PS y s j/\Ext wr wq) (λ_ i _=>s.recs.length - (intOf i).toNat)
   case atStart=>exact⟨0,z+s.tail.length,aj,rfl,iE,aj,aj,⟨aj,aj,aZ⟩,dh _⟩
   case round=>
    obtain⟨j,y,hj,rfl,rfl,hy0,hy1,hto,hEq⟩:=hrel;have d0:=hEq.cell e0;have d1:=hEq.cell e1;have t1:=hEq.cell s1;have ou:=NG.out.trans hEq;clear e0 e1 s1 s2;have HTO:=ah hto;have rC:=ah hEq;have DR:=ah ou;clear hto hEq ou;by_cases hjl:j<s.recs.length
    ·obtain⟨r,hr⟩:∃r,s.recs[j]?=some r:=⟨_,au hjl⟩;obtain⟨hk1,hv1⟩:=HFR.out r (aH hr);obtain⟨bb,rfl,-,r1,r2,-⟩:=(Np.out.ext λ_ _=>Ef.ext rC.out).at hr;have HR:=ah hr;clear hr;obtain⟨y2,hy2⟩:∃y2,y+20+r.key.size+r.val.size=y2:=⟨_,rfl⟩;have hst:=HTO.out.step HR.out hy2.symm aj;have HST:=ah hst;clear hst;go_wp2_with fail
     go_quiet (fail)
     by_cases hbig:40000<y2
     ·go_wp2;go_ret;exact He.no (DR.out.trans (gZ _ nq))
     ·go_wp2;go_roundw
      case rel=>exact⟨j+1,y2,aj,iE,iE,aj,aj,HST.out,rC.out.trans (gZ _ nq)⟩
      case measure=>simp[intOf];omega
    ·obtain rfl:j=s.recs.length:=aj
     have hall:=xi (λs hs=>(XR.out s hs).mono hy0) HS.out HTO.out.all;have rO:=ah hall;clear hall;go_wp2;go_roundw
     case rel=>exact⟨k+1,y,aj,iE,rfl,aj,aj,rO.out,HE.out.trans rC.out⟩
     case measure=>simp[intOf];omega
  ·obtain rfl:k=d.bY.length:=aj
   have jo:∀s∈d.bY,PU z s:=by have:=XR.out;rwa [bK] at this
   have qA:=ah jo;clear jo;go_wp2;go_loopw [3,6] (λn i wq=>∃(k:Nat)(y:Int),k<=d.others.length/\i=.int .i64 k/\n=.int .i64 y/\z<=y/\(y<=40000\/y=z)/\(∀s∈d.others.take k,Ze y s)/\Ext wr wq) (λ_ i _=>d.others.length - (intOf i).toNat)
   case atStart=>exact⟨0,z,aj,rfl,rfl,aj,aj,aZ,dh _⟩
   case round=>
    obtain⟨k,y,hk,rfl,rfl,hy0,hy1,hoth,hEq⟩:=hrel;have d1:=hEq.cell e1;have ou:=NG.out.trans hEq;clear e0 e1;have Lx:=ah hoth;have rC:=ah hEq;have DR:=ah ou;clear hoth hEq ou;by_cases hlt:k<d.others.length
    ·obtain⟨s,hs⟩:∃s,d.others[k]?=some s:=⟨_,au hlt⟩;have hsm:=aH hs;obtain⟨hf1,hf2⟩:=HF.out.other s hsm;obtain⟨b,rfl,u2,o0,-,o2,hby⟩:=(H1.out.ext λ_ _=>GK.ext DR.out).at hs;obtain⟨ta,tc,rfl,htc,TB,-⟩:=hby.open;obtain⟨y2,hy2⟩:∃y2,y+s.bytes.length+s.name.size=y2:=⟨_,rfl⟩;have hst:=xi (p:=Ze y2) (λs hs=>⟨by have:=(Lx.out s hs).1;omega,by have:=(Lx.out s hs).2;omega⟩) hs ⟨aj,aj⟩;have HST:=ah hst;clear hst hs hsm hby;go_wp2_with fail
     go_quiet (fail)
     by_cases hbig:40000<y2
     ·go_wp2;go_ret;exact He.no (DR.out.trans (gZ _ nq))
     ·go_wp2;go_roundw
      case rel=>exact⟨k+1,y2,aj,iE,iE,aj,aj,HST.out,rC.out.trans (gZ _ nq)⟩
      case measure=>simp[intOf];omega
    ·obtain rfl:k=d.others.length:=aj
     have hother:∀s∈d.others,Ze y s:=by have:=Lx.out;rwa [bK] at this
     have hfin:He d w (.returned (.bool (decide (y<=40000)))) wr:=by
      refine⟨_,rfl,λh=>?_,DR.out⟩;have hyl:=dJ h;refine⟨aj,aj,aj,λs hs=>?_,λs hs=>?_,λs hs=>?_⟩
      ·have:=(qA.out s hs).1;omega
      ·have h1:=qA.out s hs;refine⟨by have:=h1.2.1;omega,λr hr=>?_⟩;have:=h1.2.2 r hr;omega
      ·have:=hother s hs;unfold Ze at this;omega
     have qo:=ah hfin;clear hfin hother;go_wp2;go_ret;exact qo.out
def wZ(L:List Nm):List (Nm×Int):=L.map λn=>(n,1)
theorem Lt{L:List Nm}(n:Nm):A7 (wZ L) n=if n∈L then some 1 else none:=by
 unfold wZ
 induction L with
 | nil=>rfl
 | cons a L ih=>
  rw[bD,Y5,ih];by_cases h:a=n
  ·rw[if_pos h,if_pos (by simp[h])]
  ·rw[if_neg h];by_cases h2:n∈L
   ·rw[if_pos h2,if_pos (eX _ h2)]
   ·rw[if_neg h2,if_neg (by simp[h2,dI h])]
theorem next_any(mb tr f:Nat)(c0 c1 c2 c3:aX)(L:List Nm)(w:aB)(hb:o6 w mb 255 #[c0,c1,c2,c3,.map (some tr)])(hM:vG w tr (wZ L))(hP:Held w (λ_=>False) S9)(hf1:1<=f)(hf:f<=1000000):
 Calls prog 139 #[l9 mb,.int .i64 f] w λe w'=>∃r:Nat,e=.returned (.int .i64 r)/\Nx L f r/\r<=1000000/\Ext w w':=by
 have b4:=(hb.cell 4).trans (show _=some (Value.map (some tr)) from rfl);have HM:=ah hM;have HP:=ah hP;clear hb hM hP;unfold l9;go_enter func139,ntmps139
 go_wp2_with fail
 go_loopw [1] (λi wr=>∃k:Nat,i=.int .i64 k/\f<=k/\k<=1000000/\(∀j,f<=j->j<k->y7 D6 j∈L)/\Ext w wr) (λi _=>1000000 - (intOf i).toNat)
 case atStart=>exact⟨f,rfl,ak _,hf,λj h1 h2=>absurd h2 aj,dh w⟩
 case round=>
  obtain⟨k,rfl,hk,hk2,hfl,hE⟩:=hrel;have b4r:=hE.cell b4;have ug:=ah hfl;have HE:=ah hE;clear hfl hE;by_cases hle:k<=999999
  ·have hki:(k:Int)<=999999:=aj
   go_upto_region 1 with fail
   go_cut [16] (λv wx=>v=.bool (decide (y7 D6 k∈L))/\Ext wr wx)
   case first=>
    have ng:Ext wr wr.drew:=Below.drew (dh wr);have hkn:=Qs D6 k wr.drew dA aj (HP.out.ext (HE.out.trans ng)).get;have uu:=ng.cell b4r;have hlk:∀wq,Ext wr.drew wq->(Instr.lookup 247 (.map (some tr)) (.string ⟨(y7 [100,97,116,97,45] k).toArray⟩) false).run prog wq=.ok (.int .i64 (if y7 D6 k∈L then 1 else 0)) wq:=λwq hq=>by
     have:=((HM.out.ext (HE.out.trans ng)).ext hq).look X0 U0 underlying247 (VU wq) (vI (l:=y7 D6 k) (by rw[Ek];unfold D6 maxLen;simp));rw[Lt] at this;split<;>rename_i hc
     ·rw[if_pos hc] at this;exact this
     ·rw[if_neg hc] at this;exact this
    have uS:=ah ng;have EF:=ah hkn;have uf:=ah hlk;clear ng hkn hlk;unfold bJ D6 at EF;by_cases hin:y7 D6 k∈L
    ·rw[if_pos hin] at uf;go_region_with (go_at_call 56;refine EF.out.mono ?_;rintro e wq ⟨rfl,hE⟩;have hl:=uf.out wq hE;have b4q:=hE.cell uu)
     all_goals
      go_wp2_with fail
      go_meet
      exact⟨by rw[aN hin],uS.out.trans hE⟩
    ·rw[if_neg hin] at uf;go_region_with (go_at_call 56;refine EF.out.mono ?_;rintro e wq ⟨rfl,hE⟩;have hl:=uf.out wq hE;have b4q:=hE.cell uu)
     all_goals
      go_wp2_with fail
      go_meet
      exact⟨by rw[aK hin],uS.out.trans hE⟩
   case rest=>
    obtain⟨rfl,oz⟩:=hcut;have HEC:=ah oz;clear oz;by_cases hin:y7 D6 k∈L
    ·rw[aN hin];go_wp2_with fail
     go_roundw
     case rel=>exact⟨k+1,iE,aj,aj,λj h1 h2=>(bH j k).elim (ug.out j h1) λh3=>(show j=k by omega)▸hin,HE.out.trans HEC.out⟩
     case measure=>simp[intOf];omega
    ·rw[aK hin];go_wp2_with fail
     go_ret;exact⟨k,rfl,⟨hk,ug.out,λ_=>hin⟩,hk2,HE.out.trans HEC.out⟩
  ·obtain rfl:k=1000000:=aj
   have hfin:∀wx,Ext wr wx->Nx L f 1000000/\1000000<=1000000/\Ext w wx:=λwx h=>⟨⟨hk,ug.out,λh=>absurd h hle⟩,hk2,HE.out.trans h⟩;have EG:=ah hfin;clear hfin;rw[show((1000000:Nat):Int)=1000000 from rfl];go_upto_region 1 with fail
   go_cut [16] (λv wx=>v=.bool false/\Ext wr wx)
   case first=>
    have uS:=ah (Below.drew (dh wr):Ext wr wr.drew);first|(go_region_with (fail))|fail
    all_goals
     go_wp2_with fail
     go_meet
     exact⟨rfl,uS.out⟩
   case rest=>
    obtain⟨rfl,oz⟩:=hcut;have HFC:=ah (EG.out wc oz);clear oz;go_wp2_with fail
    go_ret;exact⟨1000000,rfl,HFC.out⟩
def zy(p:Nat×Rec):List Value:=[.int .u64 p.2.seq,.string ⟨p.2.key.toArray⟩,.string ⟨p.2.val.toArray⟩,.bool p.2.del,.int .i64 p.2.size]
def sliceLen:Value->Nat
 | .slice _ n _=>n
 | _=>0
def c1w:(prog.info? 116).map (λi=>(i.zero,i.size,i.bytes))=some (some (.agg #[.int .u64 0,.string ⟨#[]⟩,.string ⟨#[]⟩,.bool false,.int .i64 0]),5,56):=rfl
theorem JP(v:aX)(l:dV)(w:aB)(h:Bytes w v l)(hl:l.length<=1099511627776):
 Calls prog 69 #[v] w λe w'=>∃u,e=.returned u/\w'.ownsRow w 116 5 u (D7 l).length ((D7 l).flatMap zy)/\Ext w w':=by
 obtain⟨i0,hi,hz0,Q,hz2⟩:=info_parts c1w;have H:=ah h;clear h;go_enter func69,ntmps69
 go_wp2;go_loopw [0,3] (λb u wr=>∃(o:List (Nat×Rec))(a n:Nat),Bytes w b (l.drop a)/\a<=l.length/\o.length<=a/\D7 l=o++L9 n a l/\l.length<n+a/\wr.ownsRow w 116 5 u o.length (o.flatMap zy)/\Ext w wr) (λb _ _=>sliceLen b)
 case atStart=>exact⟨[],0,l.length+1,H.out,aj,aZ,rfl,aj,⟨rfl,Or.inl ⟨rfl,rfl⟩⟩,dh w⟩
 case round=>
  obtain⟨o,a,n,p,hoff,x,B,U,f,hE⟩:=hrel;obtain⟨ba,bc,rfl,T,hbc2,-⟩:=id p;have t:(l.drop a).length=l.length - a:=fG;rw[t] at T p⊢;have R:=ah U;have F:=ah B;have s:=ah f;have D:=ah hE;have G:=ah p;have K8:=ah x;clear U B f hE p x;go_wp2_with fail
  refine(b1Y _ (l.drop a) wr (G.out.ext D.out)).mono ?_;rintro e i ⟨rfl,d⟩
  cases hd:dec (l.drop a) with
  | none=>
   have q:∀A,Ext i A->(World.ownsRow A w 116 5 u3 (D7 l).length ((D7 l).flatMap zy)/\Ext w A):=λA hz=>by have e0:=(F.out).trans (by rw[Hi hd,dX]);rw[e0];exact⟨jH.row s.out A λb p=>(d.trans hz).block b (World.ownsRow.lt s.out b p).2,D.out.trans (d.trans hz)⟩
   have HF:=ah q;clear q d G R F s D;unfold O5 yj;go_wp2_with fail
   exact bodyPost_ret (v:=u3) (by simp[results,results69]) rfl ⟨u3,rfl,HF.out _ ((dh i).new _)⟩
  | some r=>
   obtain⟨hr1,C⟩:=Ak hd;rw[t] at C;have U:=R.out;obtain⟨m,rfl⟩:∃m,n=m+1:=⟨n - 1,aj⟩;have e0:D7 l=(o++[(a,r)])++L9 m (a+r.size) l:=by rw[F.out,iM];simp[L9,hd]
   obtain⟨ua,uc,rfl⟩:=ownsRow_form s.out;have Nl:=ah (λb p=>aF (World.ownsRow.lt s.out b p).2 d.size);have hrl:=K8.out;have hsz:w.heap.size<=i.heap.size:=(lI D.out d).size;have S:((i.alloc (.cells #[.int .u64 r.seq,.string ⟨r.key.toArray⟩,.string ⟨r.val.toArray⟩,.bool r.del,.int .i64 r.size] 116)).alloc (.cells #[.int .u64 r.seq,.string ⟨r.key.toArray⟩,.string ⟨r.val.toArray⟩,.bool r.del,.int .i64 r.size] 116)).heap[i.heap.size+1]?=some (.cells #[.int .u64 r.seq,.string ⟨r.key.toArray⟩,.string ⟨r.val.toArray⟩,.bool r.del,.int .i64 r.size] 116):=by
    have e:(i.alloc (.cells #[.int .u64 r.seq,.string ⟨r.key.toArray⟩,.string ⟨r.val.toArray⟩,.bool r.del,.int .i64 r.size] 116)).heap.size=i+1:=aZ
    rw[<-e];exact heap_alloc_new _ _
   have z:=ah (jH.row s.out (i.alloc (.cells #[.int .u64 r.seq,.string ⟨r.key.toArray⟩,.string ⟨r.val.toArray⟩,.bool r.del,.int .i64 r.size] 116)) λb p=>(d.new (.cells _ 116)).block b (World.ownsRow.lt s.out b p).2);have HE2:=ah ((lI D.out d).new _:Ext w (i.alloc (.cells #[.int .u64 r.seq,.string ⟨r.key.toArray⟩,.string ⟨r.val.toArray⟩,.bool r.del,.int .i64 r.size] 116)));have E0:=ah e0;have HX:=ah (jR _ _ rfl:o6 (i.alloc (.cells #[.int .u64 r.seq,.string ⟨r.key.toArray⟩,.string ⟨r.val.toArray⟩,.bool r.del,.int .i64 r.size] 116)) i 116 _);have lQ:=ah d;have HSL:=ah (G.out.sliced r.size (l.length - a) C aj);clear e0 d R F s G;unfold O5;go_wp2_with (at_builtin;go_must (refine A8 rfl _ _ 52 rfl w 116 i0 (.agg _) 5 56 underlying52 hi hz0 Q hz2 rfl aj (.slice ua o.length uc) o.length _ rfl (World.ownsRow.alloc z.out (.cells _ 116)) (.slice (some ⟨i+1,0,none⟩) 1 1) 1 _ rfl ⟨_,_,rfl,aj,⟨aj,λh=>by cases h⟩,λ_=>⟨_,rfl,World.news_of_block (t:=116) (fr:=(0,0)) S⟩⟩ rfl qV lJ aj iw ?_);intro b6 c6 w6 k g kZ;have pX:=ah k;have yA:=ah g;clear k g kZ;have YG:=ah ((yA.out.block i iw (λe=>by have:=Nl.out _ e.symm;omega)).trans (HX.out.alloc (.cells _ 116)));have d64:=(o6.cell YG.out 4).trans (rfl))
   all_goals
    go_roundw
    case rel=>
     have hs:=HSL.out;refine⟨o++[(a,r)],a+r.size,m,?_,aj,iw,E0.out,aj,?_,?_⟩
     ·have e1:(l.drop a).take (l.length - a)=l.drop a:=by rw[bU (by rw[t];exact ak _)]
      simp_all
     ·have:=pX.out;rw[aC,dZ];simpa [zy] using this
     ·refine Below.grown (HE2.out.new _) yA.out iw (λj hj=>?_);have:=(World.ownsRow.lt z.out j hj).1;omega
    case measure=>simp[sliceLen];omega
def tf:(prog.info? 54).map (λi=>(i.zero,i.size,i.bytes))=some (some (.agg #[.int .i64 0,.slice none 0 0,.int .i64 0]),3,40):=aW
namespace mM
theorem yU{p:Pinned}{s:OpenSpec}{c:OpenClaim}(kinds:List LaidKind)(har:Bool×String)(lk:Bool)
 (hc:c.holds p s)(hw:c.wfByText s=true)(htie:c.laidByTextAt .later p kinds true)
 (hst:c.start=.entering)(hnb:c.noBlocks=false/\c.again=false)(hm:p.checked.prog.mainIs=some (har.1,har.2.toList))(hn:(!har.1&&har.2.isEmpty&&!lk)=false)
 (hl:∀f fn,p.checked.prog.funcNamed c.func=some f->p.checked.prog.funcs[f]?=some fn->lk=p.checked.prog.looks []/\∀(j:Nat)t,fn.params[j]?=some t->p.checked.prog.wantsStandIn t=false)
 (hg:true=c.goesBy p.checked.prog):
 Claim7.holds p (.plain s) {stood:={row:=c,standIns:=[],harness:=har,looks:=lk},kinds:=[],alts:=[],goes:=true,laidByText:=true,laidKinds:=kinds,laidTests:=true,laidLooks:=.later}:=by
 have h6:Claim7.isSixth {stood:={row:=c,standIns:=[],harness:=har,looks:=lk},kinds:=[]} = false:=by simpa [Claim7.isSixth] using hn
 refine⟨?_,(λD hD=>by cases hD),htie,(λh=>by cases h),hg⟩;exact Claim7.tied_new_at .later kinds true (Claim7.new_of_sixth hc har lk hst hnb hm h6 hl) hw
def own:ownKnob prog.godebug=none:=aW
def et:prog.globalNamed "errors.errorType" = some 0:=aW
def rt:(prog.cutTypes.find? (·.1== "internal/reflectlite.rtype")).map (·.2)=some 275:=aW
def oneRow:((List.range 395).filter λt=>prog.rowNamed t [101,114,114,111,114])=[34]:=aW
def size:prog.types.size=395:=aW
def handle:typeHandle prog 34=.pointer (some ⟨7,34,none⟩):=aW
abbrev laid:List (String×DataW Unit):=Rows.cleansRow.laid
theorem FW{W:aB}(h:laidMetH prog laid W):Laid W:=by have h':laidMet prog (laid.filter λx=>x.2.handleName?.isNone) W/\handlesMet prog [("errors.errorType",Rows.laid_errors_errorType)] W:=h;obtain⟨name,u,ty,e1,e2,e3,e4,e5⟩:=h'.2 _ (dB.2 rfl);have en:name=[101,114,114,111,114]:=(aO e1).symm;subst en;obtain rfl:=aO (rt.symm.trans e2);have hm:ty∈(List.range 395).filter λt=>prog.rowNamed t [101,114,114,111,114]:=dQ.2 ⟨iH.2 (by rw[<-size];exact e3),e4⟩;rw[oneRow] at hm;obtain rfl:=dB.1 hm;rw[handle] at e5;have:=World.var?_cell et e5 0;unfold Laid;simpa using this
def g10:prog.globalNamed "internal/strconv.uint64pow10" = some 1:=aW
def d0n:(prog.globals[1]?).map (·.type)=some 353:=aW
theorem Bl{W:aB}(h:laidMetH prog laid W):S9 W:=by
 have h':laidMet prog [("math/bits.deBruijn32tab",Rows.laid_math_bits_deBruijn32tab),("math/bits.deBruijn64tab",Rows.laid_math_bits_deBruijn64tab),("internal/strconv.uint64pow10",Rows.laid_internal_strconv_uint64pow10),("unicode/utf8.acceptRanges",Rows.laid_unicode_utf8_acceptRanges),("unicode/utf8.first",Rows.laid_unicode_utf8_first)] W:=
  (show laidMet prog (laid.filter λx=>x.2.handleName?.isNone) W/\handlesMet prog [("errors.errorType",Rows.laid_errors_errorType)] W from h).1
 obtain⟨ps,⟨_,_,_,_,_,_,_,_,_,_,⟨_,_,_,_,_,_,_,_,_,_,⟨g',t',cs,fuel,p,q,hg',ht',hvar,hd,_,_⟩,_⟩,_⟩,_⟩:=h';obtain rfl:=aO (g10.symm.trans hg');obtain rfl:=aO (d0n.symm.trans ht');unfold S9 TabIs;have hd':DataW.trod (λ_=>()) prog W 0 (λ_=>true) false fuel 353 cs.toList=some (tabData .u64 pow10Tab,p):=hd;rw[hvar,<-cells_of_tab underlying353 underlying24 aW aW hd']
def d0o:Lit->Value
 | .int k n=>.int k n
 | _=>.nilIface
def lv:DataW Unit->Value
 | .lit l=>d0o l
 | _=>.nilIface
def d0p:DataW Unit->List Value
 | .agg xs=>xs.map lv
 | x=>[lv x]
def VB:DataW Unit->List Value
 | .agg xs=>xs.flatMap d0p
 | x=>[lv x]
def put(cs:jl):Obj->Obj
 | .cells _ t frozen=>.cells cs.toArray t frozen
 | o=>o
noncomputable def laidWorld(os:Os)(args:Array Value):World:=
 {World.holding prog os ⟨#[],args,[]⟩ with heap:=(((((((World.holding prog os ⟨#[],args,[]⟩).heap.modify 0 (put [.iface 275 (.agg #[.pointer (some ⟨7,34,none⟩)])])).modify 5 (put (VB Rows.laid_math_bits_deBruijn32tab))).modify 6 (put (VB Rows.laid_math_bits_deBruijn64tab))).modify 1 (put (VB Rows.laid_internal_strconv_uint64pow10))).modify 4 (put (VB Rows.laid_unicode_utf8_acceptRanges))).modify 3 (put (VB Rows.laid_unicode_utf8_first)))}
def laidWorld_met(os:Os)(args:dU):laidMetH prog laid ((laidWorld os #[]).forCall (λ_ _=>0) ⟨#[],args,[]⟩).memory:=
 laidMetH_of_parts (laidMet_of_run3 8 aW aW aW) aW
variable{H:Type}{enc:TypeId×Value->H}{P:Program}
end mM
namespace Io
variable{H:Type}{enc:TypeId×Value->H}{W:World}
noncomputable abbrev Rd(enc:TypeId×Value->H)(W:World)(n:Nat)(t:TypeId)(cs:List Value):Option (DataW H×List MemPlace):=DataW.trod enc prog W 0 (λ_=>true) true n t cs
def Wt(d:DataW H)(t:bT)(B:Nat):Prop:=∀n∈d.weights prog t,n<=B
theorem wN{y:DataW H×List MemPlace}(h:Rd enc W n 25 [v]=some y):∃l:dV,Bytes W v l/\∀B,Wt y.1 25 B->l.length<=B:=by
 obtain⟨c,s⟩|⟨a,b,w,f,c,G,C,D,E,s,j,r⟩:=open_ints underlying25 underlying5 aW h
 simp only[jq,and_true] at c;subst c;exact⟨[],⟨none,0,rfl,ak _,⟨aj,λ_=>rfl⟩,λh=>absurd rfl h⟩,λB _=>aZ⟩
 simp[jq,and_true] at c;subst c;simp[if_true] at E;have d:(f.take b).length=b:=iL
 have o:((f.take b).map λn=>UInt8.ofNat n.toNat).map eG=(f.take b).map (Value.int .u8):=by rw[g_];apply nO;intro n u;have:=r n (List.mem_of_mem_take u);simp[Lit.wf,aI,bZ] at this;have F:0<=n:=this.1;have I:n<=255:=this.2;simp only[Function.comp,eG,Value.int.injEq,true_and];rw[UInt8.toNat_ofNat_of_lt' fU];omega
 refine⟨(f.take b).map λn=>UInt8.ofNat n.toNat,?_,λB t=>?_⟩
 unfold Bytes;rw[o,bV,d];refine⟨_,_,rfl,C,⟨D,λh=>by cases h⟩,λ_=>⟨a,rfl,λi x g=>?_⟩⟩;rw[dF,fB] at g;split at g
 have p:i<f.length:=aj
 have k:=j i p;rw[aT] at k;rw[au p] at g k;injection g with g;rw[<-g];exact k
 cases g
 rw[bV,d];subst s;have A:=t (((lits (H:=H) .u8 (f.take b)).length+(lits (H:=H) .u8 (f.drop b)).length)*prog.bytesOf 5) (by simp[DataW.weights]);have z:(lits (H:=H) .u8 (f.take b)).length=b:=by rw[<-d];simp[lits]
 rw[z,show prog.bytesOf 5=1 by rfl] at A;omega
theorem ix:∀{l:List (DataW H)}{d:DataW H},d∈l->∀n∈d.weights prog e,n∈DataW.weightsAll prog e l
 | x::l,d,a,n,b=>by
  obtain rfl|a:=bI.1 a
  exact aP.2<|.inl b
  exact aP.2 (.inr<|ix a n b)
theorem row_in[Inhabited α]{sz:Nat}(A:prog.underlying t=some (.slice e))(s:prog.cellsOf e=sz)(q:World->Addr->α->Prop)(g:α->Nat->Prop)
 (w:∀(b:Addr)(n:Nat)(cs:jl)(y:DataW H×List MemPlace),W.cells? 0 b sz=some cs->Rd enc W n e cs=some y->∃x,q W b x/\∀B,Wt y.1 e B->g x B)
 {y:DataW H×List MemPlace}(h:Rd enc W n t [v]=some y):∃l:List α,RowOf W v l sz q/\∀B,Wt y.1 t B->∀x∈l,g x B:=by
 obtain⟨o,c⟩|⟨a,d,z,m,k,D,S,o,P,K,R,u,O,C⟩:=open_slice A h
 simp[jq,and_true] at o;subst o;exact⟨[],⟨none,0,rfl,ak _,⟨aj,λ_=>rfl⟩,λi x c=>by cases c⟩,λB _ x c=>by cases c⟩
 simp[jq,and_true] at o;subst o;simp[if_true] at u;rw[s] at C;let⟨f,E⟩:=choose_lt (λi p=>have⟨cs,L,I⟩:=C i p;w _ _ _ _ L I)
 have M:maxLen<=9223372036854775807:=qc
 refine⟨(List.range d).map f,⟨some a,z,aZ,by simpa using K,⟨aj,λh=>by cases h⟩,λi x c=>?_⟩,λB J x c=>?_⟩
 rw[dF] at c;obtain⟨j,r,rfl⟩:=bC.1 c;rw[uO] at r
 injection r with r;subst r;exact⟨a,rfl,(E i fU).1⟩
 obtain h|h:=bH i d
 exact h
 simp_all
 obtain⟨i,p,rfl⟩:=aQ.1 c;have Q:=iH.1 p;refine(E i aj).2 B λn N=>J n ?_;subst O;have:=ix (aQ.2 ⟨i,p,rfl⟩) n N;unfold DataW.weights;simp_all
theorem c9k{cs:jl}(h:cs.length=3):∃c b a,cs=[c,b,a]:=by
 match cs,h with
 | [c,b,a],_=>simp
theorem list4{cs:jl}(h:cs.length=4):∃c b a d,cs=[c,b,a,d]:=by
 match cs,h with
 | [c,b,a,d],_=>simp
theorem c9l{cs:jl}(h:cs.length=5):∃c b e d a,cs=[c,b,e,d,a]:=by
 match cs,h with
 | [c,b,e,d,a],_=>simp
theorem c9m{cs:jl}(h:cs.length=6):∃d b f e a c,cs=[d,b,f,e,a,c]:=by
 match cs,h with
 | [d,b,f,e,a,c],_=>simp
def pT:prog.cellsOf 4=1:=rfl
def ce:prog.cellsOf 3=1:=rfl
def ca:prog.cellsOf 9=1:=rfl
def c9p:prog.cellsOf 22=1:=rfl
def c9q:prog.cellsOf 23=1:=rfl
def dq:prog.cellsOf 24=1:=rfl
def rj:prog.cellsOf 25=1:=rfl
def c9r:prog.cellsOf 92=1:=rfl
def Dl(b:Addr)(h:n≠0):b.add n=⟨b.block,b.off+n,none⟩:=YW
def add_zero(b:Addr):b.add 0=b:=rfl
theorem c9s(b:Addr)(n:Nat)(cs:jl)(y:DataW H×List MemPlace)(z:W.cells? 0 b 4=some cs)(h:Rd enc W n 111 cs=some y):∃r,Ef W b r/\∀B,Wt y.1 111 B->r.key.size<=B/\r.val.size<=B:=by
 obtain⟨-,x,c⟩:=World.cells?_some z;obtain⟨I,G,E,F,rfl⟩:=list4 x;obtain⟨K,L,N,O,k,rfl,-,l,p,u,q⟩:=trod_struct4 underlying111 h;simp[dq,ca,pT] at l p u q;obtain⟨a,o,rfl,A⟩:=DataW.trod_int underlying24 l;obtain⟨t,m,rfl,M⟩:=DataW.trod_string underlying9 p;obtain⟨v,s,rfl,J⟩:=DataW.trod_string underlying9 u;obtain⟨d,j,rfl⟩:=DataW.trod_bool underlying4 q;simp[jq,and_true] at o m s j;subst o;subst m;subst s;subst j;obtain⟨g,rfl⟩:=lD (by have:=A;simp[Lit.wf,aI,bZ] at this;exact this.1);refine⟨⟨g,t,v,d⟩,⟨c 0 aj,(Dl b (n:=1) aj)▸c 1 aj,(Dl b (n:=2) aj)▸c 2 aj,(Dl b (n:=3) aj)▸c 3 aj⟩,λB i=>?_⟩;exact⟨i _ (by simp[DataW.weights,DataW.weightsEach]),i _ (by simp[DataW.weights,DataW.weightsEach])⟩
instance:Inhabited Rc:=⟨⟨0,.empty,.empty,false⟩⟩
instance:Inhabited Sg:=⟨⟨0,[],[],false,false⟩⟩
instance:Inhabited Ot:=⟨⟨.empty,0,[]⟩⟩
theorem c9t(b:Addr)(n:Nat)(cs:jl)(y:DataW H×List MemPlace)(u:W.cells? 0 b 3=some cs)(h:Rd enc W n 113 cs=some y):∃r,GK W b r/\∀B,Wt y.1 113 B->r.name.size<=B/\r.bytes.length<=B:=by
 obtain⟨-,t,c⟩:=World.cells?_some u;obtain⟨E,x,p,rfl⟩:=c9k t;obtain⟨z,A,w,k,rfl,-,g,j,o⟩:=trod_struct3 underlying113 h;simp[ce,ca,rj] at g j o;obtain⟨i,f,rfl,D⟩:=DataW.trod_string underlying9 g;obtain⟨a,m,rfl,C⟩:=DataW.trod_int underlying3 j;let⟨l,v,q⟩:=wN o;simp[jq,and_true] at f m;subst f;subst m;refine⟨⟨i,a,l⟩,⟨p,c 0<|aj,(Dl b (n:=1)<|aj)▸c 1 aj,(Dl b (n:=2)<|aj)▸c 2 aj,v⟩,λB e=>⟨?_,?_⟩⟩
 exact e _<|by simp[DataW.weights,DataW.weightsEach]
 exact q B λn s=>e n<|DataW.weights_mem_each (j:=2) rfl rfl n s
theorem b3S{c f a e i:Field}{cs:jl}{x:DataW H×List MemPlace}(q:prog.underlying t=some (.struct #[c,f,a,e,i]))(h:Rd enc W b t cs=some x):
 ∃o m p k l n,x.1=.agg [o.1,m.1,p.1,k.1,l.1]/\Rd enc W n c.type ((cs.drop c.offset).take (prog.cellsOf c.type))=some o/\
  Rd enc W n f.type ((cs.drop f.offset).take (prog.cellsOf f.type))=some m/\Rd enc W n a.type ((cs.drop a.offset).take (prog.cellsOf a.type))=some p/\
  Rd enc W n e.type ((cs.drop e.offset).take (prog.cellsOf e.type))=some k/\Rd enc W n i.type ((cs.drop i.offset).take (prog.cellsOf i.type))=some l:=by
 obtain⟨r,n,_,rfl,s,j,d⟩:=DataW.trod_struct q h
 match r,j with
 | [o,m,p,k,l],_=>exact⟨o,m,p,k,l,n,aZ,by simpa using d 0 c rfl,by simpa using d 1 f rfl,by simpa using d 2 a rfl,by simpa using d 3 e rfl,by simpa using d 4 i rfl⟩
theorem b3T{d f c e j i:Field}{cs:jl}{x:DataW H×List MemPlace}(s:prog.underlying t=some (.struct #[d,f,c,e,j,i]))(h:Rd enc W g t cs=some x):
 ∃m o r l q p n,x.1=.agg [m.1,o.1,r.1,l.1,q.1,p.1]/\Rd enc W n d.type ((cs.drop d.offset).take (prog.cellsOf d.type))=some m/\
  Rd enc W n f.type ((cs.drop f.offset).take (prog.cellsOf f.type))=some o/\Rd enc W n c.type ((cs.drop c.offset).take (prog.cellsOf c.type))=some r/\
  Rd enc W n e.type ((cs.drop e.offset).take (prog.cellsOf e.type))=some l/\Rd enc W n j.type ((cs.drop j.offset).take (prog.cellsOf j.type))=some q/\
  Rd enc W n i.type ((cs.drop i.offset).take (prog.cellsOf i.type))=some p:=by
 obtain⟨u,n,_,rfl,v,k,a⟩:=DataW.trod_struct s h
 match u,k with
 | [m,o,r,l,q,p],_=>exact⟨m,o,r,l,q,p,n,aZ,by simpa using a 0 d rfl,by simpa using a 1 f rfl,by simpa using a 2 c rfl,by simpa using a 3 e rfl,by simpa using a 4 j rfl,by simpa using a 5 i rfl⟩
theorem c9u(b:Addr)(n:Nat)(cs:jl)(y:DataW H×List MemPlace)(F:W.cells? 0 b 5=some cs)(h:Rd enc W n 94 cs=some y):
 ∃s,qL W b s/\∀B,Wt y.1 94 B->s.tail.length<=B/\∀r∈s.recs,r.key.size<=B/\r.val.size<=B:=by
 obtain⟨-,E,c⟩:=World.cells?_some F;obtain⟨Y,L,C,V,U,rfl⟩:=c9l E;let⟨T,O,M,X,S,k,K,m,w,A,q,v⟩:=b3S underlying94 h;simp[ce,c9r,rj,pT] at m w A q v;obtain⟨a,o,rfl,R⟩:=DataW.trod_int underlying3 m;let⟨Q,P,f⟩:=row_in underlying92 rfl Ef _ c9s w;let⟨l,N,G⟩:=wN A;obtain⟨z,x,rfl⟩:=DataW.trod_bool underlying4 q;obtain⟨p,u,rfl⟩:=DataW.trod_bool underlying4 v;simp[jq,and_true] at o x u;subst o;subst x;subst u;refine⟨⟨a,Q,l,z,p⟩,⟨L,C,c 0<|aj,(Dl b (n:=1)<|aj)▸c 1 aj,(Dl b (n:=2)<|aj)▸c 2 aj,(Dl b (n:=3)<|aj)▸c 3 aj,(Dl b (n:=4)<|aj)▸c 4 aj,P,N⟩,λB g=>?_⟩;unfold Wt at g;rw[K] at g;have i:∀j t d,([3,92,25,4,4])[j]?=some t->([DataW.lit _,O.1,M.1])[j]?=some d->Wt d t B:=λj t d J D n I=>g n<|by unfold DataW.weights;rw[underlying94];exact DataW.weights_mem_each J D n I
 exact⟨G B<|i 2 25 _ rfl rfl,f B<|i 1 92 _ rfl rfl⟩
theorem Vx{d:DataW H}{p:List MemPlace}(i:Value.okWide prog W .any c 27 v)(h:DataW.Trod enc prog W 0 (λ_=>true) true 27 v d p):
 ∃D:Dr,GI W v D/\∀B,Wt d 27 B->D.Fits B:=by
 obtain⟨u,rfl,z⟩:=okWide_struct underlying27 i;obtain⟨n,h⟩:=h;obtain⟨R,Q,Y,F,c4,V,b⟩:=c9m (kT);obtain rfl:u=#[R,Q,Y,F,c4,V]:=by cases u;simp_all
 obtain⟨U,K,y2,P,y4,y5,k,X,E,S,T,L,G,M⟩:=b3T underlying27 h;simp[Value.cells,c9p,c9q,dq,rj,pT] at E S T L G M;let⟨m,f,x⟩:=row_in underlying22 aW qL _ c9u E;let⟨os,e,q⟩:=row_in underlying23 rfl GK _ c9t S;obtain⟨a,o,rfl,wa⟩:=DataW.trod_int underlying24 T;let⟨l,Z,hw⟩:=wN L;obtain⟨A,O,rfl⟩:=DataW.trod_bool underlying4 G;obtain⟨w,I,rfl⟩:=DataW.trod_bool underlying4 M;simp[jq,and_true] at o O I;subst o;subst O;subst I;obtain⟨g,rfl⟩:=lD (by have:=wa;simp[Lit.wf,aI,bZ] at this;exact this.1);refine⟨⟨m,os,g,l,A,w⟩,⟨R,Q,F,rfl,f,e,Z⟩,λB y=>?_⟩;have C:d=.agg _:=X;unfold Wt at y;rw[C] at y;have N:∀j t d,([22,23,24,25,4,4])[j]?=some t->([U.1,K.1,.lit<|.int .u64 g,P.1])[j]?=some d->Wt d t B:=λj t d r o n hn=>y n<|DataW.weights_mem_each r o n hn
 have J:=x B<|N 0 22 _ rfl rfl;exact⟨λs f=>(J s f).1,λs f=>(J s f).2,q B<|N 1 23 _ rfl rfl⟩
end Io
end Go.Proofs.YtgpbhjjajpbeeaaGreatDoor
