/- A part of what the last file proves. -/
import Derived.Test.YtgpbhjjajpbeeaaGreatDoorA13
import Derived.Maps.Keyed
import Derived.Laws.IdiomRangeMap
import Derived.Maps.OwnOps
import Derived.Maps.Views
set_option linter.all false
set_option maxRecDepth 100000
set_option maxHeartbeats 2000000
open Go.Proofs.Tryz
namespace Go.Proofs.YtgpbhjjajpbeeaaGreatDoor
open Go.RowKit Go.Lib Pl Go.Maps
variable{B a b c g j n:Nat}{e t:bT}{H γ δ:Type}{v z:aX}{d s:List UInt8×Bool}{x:Int}{F G S:tyP}{Φ Ψ:World->Prop}{L:fC}
def Ar:Value:=.agg #[.int .u64 0,.string ⟨#[]⟩,.string ⟨#[]⟩,.bool false]
def qw:Option Rec->Value
 | none=>.tuple #[Ar,.int .i64 0,lK 3]
 | some r=>.tuple #[.agg #[.int .u64 r.seq,.string ⟨r.key.toArray⟩,.string ⟨r.val.toArray⟩,.bool r.del],.int .i64 r.size,.nilIface]
def c9v(r:Option Rec)(w:aB)(e:Ending)(w':aB):Prop:=e=.returned (qw r)/\Ext w w'
theorem o6.set{w:aB}{cs:dU}(h:o6 w n t cs)(i:Nat)(u:aX):o6 (w.setCell ⟨n,i,none⟩ u) n t (cs.setIfInBounds i u):=by unfold o6 at *;simp[World.setCell,bg,h]
def o6.setOther{w:aB}{cs:dU}(h:o6 w n t cs){a:Addr}(b:a.block≠n)(u:aX):o6 (w.setCell a u) n t cs:=
 (Below.heap_setCell _ _ _ _<|.symm b).trans h
theorem o6.free{w:aB}{cs:dU}(h:o6 w n t cs)(i:Nat):w.frozen? ⟨n,i,none⟩=false:=by unfold o6 at h;simp[World.frozen?,h]
def Ext.qF{w w':aB}(h:Ext w w'){a:Addr}(b:w<=a.block){u:aX}:Ext w (w'.setCell a u):=h.setCell b u
abbrev jP:=@Ext.qF
theorem decode_any(v:aX)(l:dV)(w:aB)(h:Bytes w v l):
 Calls prog 71 #[v] w (c9v (dec l) w):=by
 obtain⟨⟨m1,s1⟩,e1⟩:∃p,p=nT (l,false) 4:=⟨_,rfl⟩;obtain⟨⟨m2,s2⟩,e2⟩:∃p,p=nT s1 8:=⟨_,rfl⟩;obtain⟨⟨fl,s3⟩,e3⟩:∃p,p=nT s2 1:=⟨_,rfl⟩;obtain⟨⟨k,s4⟩,e4⟩:∃p,p=nT s3 1:=⟨_,rfl⟩;obtain⟨⟨vl,s5⟩,e5⟩:∃p,p=nT s4 2:=⟨_,rfl⟩;obtain⟨⟨key,s6⟩,e6⟩:∃p,p=xG s5 k:=⟨_,rfl⟩;obtain⟨⟨val,s7⟩,e7⟩:∃p,p=xG s6 vl:=⟨_,rfl⟩;obtain⟨hk,hvl,hall⟩:=c8M e1 e2 e3 e4 e5 e6 e7;have HA:=ah hall;clear hall;have E1:=ah e1;have E2:=ah e2;have E3:=ah e3;have E4:=ah e4;have E5:=ah e5;have E6:=ah e6;have E7:=ah e7;clear e1 e2 e3 e4 e5 e6 e7;obtain⟨a,cap,rfl,h1,h2,h3⟩:=id h;have HL:=ah (rY.of h);clear h h2 h3;go_enter func71,ntmps71
 go_wp2_with fail
 have x0:o6 (w.alloc (.cells #[.int .u64 0,.string ⟨#[]⟩,.string ⟨#[]⟩,.bool false] 111)) w 111 #[.int .u64 0,.string ⟨#[]⟩,.string ⟨#[]⟩,.bool false]:=heap_alloc_new w _;have y0:o6 ((w.alloc (.cells #[.int .u64 0,.string ⟨#[]⟩,.string ⟨#[]⟩,.bool false] 111)).alloc (.cells #[.int .u64 0,.string ⟨#[]⟩,.string ⟨#[]⟩,.bool false] 111)) (w+1) 111 #[.int .u64 0,.string ⟨#[]⟩,.string ⟨#[]⟩,.bool false]:=jR _ _ aZ;have X:=(x0.alloc (.cells #[.int .u64 0,.string ⟨#[]⟩,.string ⟨#[]⟩,.bool false] 111)).alloc (.cells #[.slice a l.length cap,.bool false] 241);have Y:=y0.alloc (.cells #[.slice a l.length cap,.bool false] 241);have kR:Ext w (((w.alloc (.cells #[.int .u64 0,.string ⟨#[]⟩,.string ⟨#[]⟩,.bool false] 111)).alloc (.cells #[.int .u64 0,.string ⟨#[]⟩,.string ⟨#[]⟩,.bool false] 111)).alloc (.cells #[.slice a l.length cap,.bool false] 241)):=(((dh w).new _).new _).new _;have hR:J4 (((w.alloc (.cells #[.int .u64 0,.string ⟨#[]⟩,.string ⟨#[]⟩,.bool false] 111)).alloc (.cells #[.int .u64 0,.string ⟨#[]⟩,.string ⟨#[]⟩,.bool false] 111)).alloc (.cells #[.slice a l.length cap,.bool false] 241)) (w+1+1) w l false:=by refine⟨.slice a l.length cap,?_,aj,HL.out.below kR⟩;exact jR _ _ aZ
 clear x0 y0;have c1:=Xt (w+1+1) w 4 (l,false) _ hR aj;rw[<-E1.out] at c1;refine c1.mono ?_;clear c1 hR;rintro e w1 ⟨rfl,hR,hb⟩;replace kR:=Below.trans kR (hb.mono aj);replace X:=X.below hb aj;replace Y:=Y.below hb aj;clear hb;go_wp2_with fail
 have c2:=Xt (w+1+1) w 8 s1 _ hR aj;rw[<-E2.out] at c2;refine c2.mono ?_;clear c2 hR;rintro e w2 ⟨rfl,hR,hb⟩;replace kR:=Below.trans kR (hb.mono aj);replace X:=X.below hb aj;replace Y:=Y.below hb aj;clear hb;have yc:w2.cell? (w+1:Nat)=some (.int .u64 0):=Y.cell 0;have yf:=Y.free 0;go_wp2_with fail
 clear yc yf;replace hR:=hR.set (a:=(w+1:Nat)) aZ aZ (.int .u64 m2);replace X:=X.setOther (a:=(w+1:Nat)) aZ (.int .u64 m2);replace Y:=Y.set 0 (.int .u64 m2);replace kR:=kR.setCell (p:=(w+1:Nat)) aZ (.int .u64 m2);have c3:=Xt (w+1+1) w 1 s2 _ hR aj;rw[<-E3.out] at c3;refine c3.mono ?_;clear c3 hR;rintro e w3 ⟨rfl,hR,hb⟩;replace kR:=Below.trans kR (hb.mono aj);replace X:=X.below hb aj;replace Y:=Y.below hb aj;clear hb;go_wp2_with fail
 have c4:=Xt (w+1+1) w 1 s3 _ hR aj;rw[<-E4.out] at c4;refine c4.mono ?_;clear c4 hR;rintro e w4 ⟨rfl,hR,hb⟩;replace kR:=Below.trans kR (hb.mono aj);replace X:=X.below hb aj;replace Y:=Y.below hb aj;clear hb;go_wp2_with fail
 have c5:=Xt (w+1+1) w 2 s4 _ hR aj;rw[<-E5.out] at c5;refine c5.mono ?_;clear c5 hR;rintro e w5 ⟨rfl,hR,hb⟩;replace kR:=Below.trans kR (hb.mono aj);replace X:=X.below hb aj;replace Y:=Y.below hb aj;clear hb;go_wp2_with fail
 have c6:=xm (w+1+1) w k s5 _ hR;rw[<-E6.out] at c6;refine c6.mono ?_;clear c6 hR;rintro e w6 ⟨rfl,hR,hb⟩;replace kR:=Below.trans kR (hb.mono aj);replace X:=X.below hb aj;replace Y:=Y.below hb aj;clear hb;go_wp2_with fail
 have c7:=xm (w+1+1) w vl s6 _ hR;rw[<-E7.out] at c7;refine c7.mono ?_;clear c7 hR;rintro e w7 ⟨rfl,hR,hb⟩;replace kR:=Below.trans kR (hb.mono aj);replace X:=X.below hb aj;replace Y:=Y.below hb aj;clear hb;have Q_:w7.cell? ⟨w+1,1,none⟩=some (.string ⟨#[]⟩):=Y.cell 1;have QZ:w7.cell? ⟨w+1,2,none⟩=some (.string ⟨#[]⟩):=Y.cell 2;have QY:w7.cell? ⟨w+1,3,none⟩=some (.bool false):=Y.cell 3;have P4:=Y.free 1;have P3:=Y.free 2;have P2:=Y.free 3;have xc0:w7.cell? w=some (.int .u64 0):=X.cell 0;have ny:w7.cell? ⟨w,1,none⟩=some (.string ⟨#[]⟩):=X.cell 1;have o_:w7.cell? ⟨w,2,none⟩=some (.string ⟨#[]⟩):=X.cell 2;have pY:w7.cell? ⟨w,3,none⟩=some (.bool false):=X.cell 3;have xf0:=X.free 0;have xf1:=X.free 1;have Rh:=X.free 2;have Rf:=X.free 3;have hwk:IntKind.i64.wrap (k:Int)=(k:Int):=IntWalk.i64_in _ aj;have hwv:IntKind.i64.wrap (vl:Int)=(vl:Int):=IntWalk.i64_in _ aj;obtain⟨rv,hr1,hr2,hr3⟩:=hR;obtain⟨Yy,OU,jz,ju⟩:=Qp hr1;clear hr1 hr2 hr3 jz ju Yy;by_cases hbad:s7.2=true
 ·have hd:dec l=none:=by
   rcases HA.out with⟨_,h⟩|⟨h,_⟩
   ·unfold dec good;rw[aK aj];rfl
   ·rw[hbad] at h;cases h
  rw[hbad] at OU;go_wp2;refine bodyPost_ret (v:=qw none) ?_ rfl ⟨by rw[hd],?_⟩
  ·simp[results,results71,go_sem,xc0,ny,o_,pY,qw,Ar,lK]
  ·repeat' refine jP ?_ aZ
   exact kR
 replace hbad:s7.2=false:=zN.2 hbad;rw[hbad] at OU;obtain⟨hlen,rfl,rfl,rfl,rfl,rfl,rfl,rfl⟩:16+F5 l+H9 l<=l.length/\m1=num (List.take 4 l)/\m2=num (List.take 8 (List.drop 4 l))/\fl=L6 l/\k=F5 l/\vl=H9 l/\key=List.take k (List.drop 16 l)/\val=List.take vl (List.drop (16+k) l):=by
  rcases HA.out with⟨h,_⟩|⟨_,h⟩
  ·rw[hbad] at h;cases h
  ·exact h
 have HD:good l=false->dec l=none:=by intro h;unfold dec;rw[h];rfl
 by_cases c1:1<L6 l
 ·have hd:dec l=none:=HD (by unfold good;rw[show decide (L6 l<=1)=false from aK aj];simp);go_wp2;refine bodyPost_ret (v:=qw none) ?_ rfl ⟨by rw[hd],?_⟩
  ·simp[results,results71,go_sem,xc0,ny,o_,pY,qw,Ar,lK]
  ·repeat' refine jP ?_ aZ
   exact kR
 by_cases c2:F5 l<1
 ·have hd:dec l=none:=HD (by unfold good;rw[show decide (1<=F5 l)=false from aK aj];simp);go_wp2;refine bodyPost_ret (v:=qw none) ?_ rfl ⟨by rw[hd],?_⟩
  ·simp[results,results71,go_sem,xc0,ny,o_,pY,qw,Ar,lK]
  ·repeat' refine jP ?_ aZ
   exact kR
 by_cases c3:16<F5 l
 ·have hd:dec l=none:=HD (by unfold good;rw[show decide (F5 l<=16)=false from aK aj];simp);go_wp2;refine bodyPost_ret (v:=qw none) ?_ rfl ⟨by rw[hd],?_⟩
  ·simp[results,results71,go_sem,xc0,ny,o_,pY,qw,Ar,lK]
  ·repeat' refine jP ?_ aZ
   exact kR
 by_cases c4:64<H9 l
 ·have hd:dec l=none:=HD (by unfold good;rw[show decide (H9 l<=64)=false from aK aj];simp);go_wp2;refine bodyPost_ret (v:=qw none) ?_ rfl ⟨by rw[hd],?_⟩
  ·simp[results,results71,go_sem,xc0,ny,o_,pY,qw,Ar,lK]
  ·repeat' refine jP ?_ aZ
   exact kR
 by_cases c5:L6 l=1/\0<H9 l
 ·have hd:dec l=none:=HD (by unfold good;rw[show decide (L6 l=1)=true from aN aj,show decide (0<H9 l)=true from aN aj];simp);have hv0:=c5.2;have hf1:((L6 l:Int)==1)=true:=fO.2 aj;go_wp2;refine bodyPost_ret (v:=qw none) ?_ rfl ⟨by rw[hd],?_⟩
  ·simp[results,results71,go_sem,xc0,ny,o_,pY,qw,Ar,lK]
  ·repeat' refine jP ?_ aZ
   exact kR
 by_cases hf:L6 l=1
 ·have hv0:¬0<H9 l:=λh=>c5 ⟨hf,h⟩;have hf1:((L6 l:Int)==1)=true:=fO.2 aj;have hsl:∀W:aB,Below w w W->Bytes W (.slice (a.map (λx=>⟨x.block,x.off+4,none⟩)) (16+F5 l+H9 l - 4) (cap - 4)) ((l.take (16+F5 l+H9 l)).drop 4):=by intro W hW;have:=((HL.out.below hW).sliced 4 (16+F5 l+H9 l) aj aj).1;rw[if_neg aj] at this;exact this
  have HS:=ah hsl;clear hsl;have hcap:16+F5 l+H9 l<=cap:=aj
  have hm1:num (l.take 4)<4294967296:=O3 l 4;have sO:Ext w (((w7.setCell ⟨w+1,1,none⟩ (.string ⟨(List.take (F5 l) (List.drop 16 l)).toArray⟩)).setCell ⟨w+1,2,none⟩ (.string ⟨(List.take (H9 l) (List.drop (16+F5 l) l)).toArray⟩)).setCell ⟨w+1,3,none⟩ (.bool true)):=by
   repeat' refine jP ?_ aZ
   exact kR
  have X':o6 (((w7.setCell ⟨w+1,1,none⟩ (.string ⟨(List.take (F5 l) (List.drop 16 l)).toArray⟩)).setCell ⟨w+1,2,none⟩ (.string ⟨(List.take (H9 l) (List.drop (16+F5 l) l)).toArray⟩)).setCell ⟨w+1,3,none⟩ (.bool true)) w 111 #[.int .u64 0,.string ⟨#[]⟩,.string ⟨#[]⟩,.bool false]:=by
   repeat' refine o6.setOther ?_ aZ _
   exact X
  have Y':o6 (((w7.setCell ⟨w+1,1,none⟩ (.string ⟨(List.take (F5 l) (List.drop 16 l)).toArray⟩)).setCell ⟨w+1,2,none⟩ (.string ⟨(List.take (H9 l) (List.drop (16+F5 l) l)).toArray⟩)).setCell ⟨w+1,3,none⟩ (.bool true)) (w+1) 111 #[.int .u64 (num ((l.drop 4).take 8)),.string ⟨(List.take (F5 l) (List.drop 16 l)).toArray⟩,.string ⟨(List.take (H9 l) (List.drop (16+F5 l) l)).toArray⟩,.bool true]:=
   ((Y.set 1 _).set 2 _).set 3 _
  go_wp2_with fail
  refine(sum_any _ _ _ (HS.out _ sO)).mono ?_;rintro e w8 ⟨rfl,hw⟩;rw[hw] at X' Y' sO;clear hw X Y kR;clear xc0 ny o_ pY xf0 xf1 Rh Rf Q_ QZ QY P4 P3 P2;have xc0:=X'.cell 0;have ny:=X'.cell 1;have o_:=X'.cell 2;have pY:=X'.cell 3;have xf0:=X'.free 0;have xf1:=X'.free 1;have Rh:=X'.free 2;have Rf:=X'.free 3;have Qf:=Y'.cell 0;have Q_:=Y'.cell 1;have QZ:=Y'.cell 2;have QY:=Y'.cell 3;have hwc:IntKind.u64.wrap (crc ((l.take (16+F5 l+H9 l)).drop 4):Int)=(crc ((l.take (16+F5 l+H9 l)).drop 4):Int):=by have:=Ep ((l.take (16+F5 l+H9 l)).drop 4);rw[IntKind.wrap_u64];omega
  by_cases hcr:crc ((l.take (16+F5 l+H9 l)).drop 4)=num (l.take 4)
  ·have rF:((crc ((l.take (16+F5 l+H9 l)).drop 4):Int) != (num (l.take 4):Int))=false:=IV
   go_wp2;refine bodyPost_ret (v:=qw (some ⟨num ((l.drop 4).take 8),(l.drop 16).take (F5 l),(l.drop (16+F5 l)).take (H9 l),true,16+F5 l+H9 l⟩)) ?_ rfl ⟨?_,?_⟩
   ·simp[results,results71,go_sem,xc0,ny,o_,pY,qw,Ar,lK]
   ·unfold dec;rw[if_pos (by unfold good;rw[aN hlen,aN hcr,aN (show L6 l<=1 by omega),aN (show 1<=F5 l by omega),aN (show F5 l<=16 by omega),aN (show H9 l<=64 by omega),aK (show ¬0<H9 l by omega),NT];rfl)];simp[hf]
   ·repeat' refine jP ?_ aZ
    exact sO
  ·have rF:((crc ((l.take (16+F5 l+H9 l)).drop 4):Int) != (num (l.take 4):Int))=true:=IW
   have hd:dec l=none:=HD (by unfold good;rw[aK hcr];simp);go_wp2;refine bodyPost_ret (v:=qw none) ?_ rfl ⟨by rw[hd],?_⟩
   ·simp[results,results71,go_sem,xc0,ny,o_,pY,qw,Ar,lK]
   ·repeat' refine jP ?_ aZ
    exact sO
 ·have hf1:((L6 l:Int)==1)=false:=bG.2 aj;have hsl:∀W:aB,Below w w W->Bytes W (.slice (a.map (λx=>⟨x.block,x.off+4,none⟩)) (16+F5 l+H9 l - 4) (cap - 4)) ((l.take (16+F5 l+H9 l)).drop 4):=by intro W hW;have:=((HL.out.below hW).sliced 4 (16+F5 l+H9 l) aj aj).1;rw[if_neg aj] at this;exact this
  have HS:=ah hsl;clear hsl;have hcap:16+F5 l+H9 l<=cap:=aj
  have hm1:num (l.take 4)<4294967296:=O3 l 4;have sO:Ext w (((w7.setCell ⟨w+1,1,none⟩ (.string ⟨(List.take (F5 l) (List.drop 16 l)).toArray⟩)).setCell ⟨w+1,2,none⟩ (.string ⟨(List.take (H9 l) (List.drop (16+F5 l) l)).toArray⟩)).setCell ⟨w+1,3,none⟩ (.bool false)):=by
   repeat' refine jP ?_ aZ
   exact kR
  have X':o6 (((w7.setCell ⟨w+1,1,none⟩ (.string ⟨(List.take (F5 l) (List.drop 16 l)).toArray⟩)).setCell ⟨w+1,2,none⟩ (.string ⟨(List.take (H9 l) (List.drop (16+F5 l) l)).toArray⟩)).setCell ⟨w+1,3,none⟩ (.bool false)) w 111 #[.int .u64 0,.string ⟨#[]⟩,.string ⟨#[]⟩,.bool false]:=by
   repeat' refine o6.setOther ?_ aZ _
   exact X
  have Y':o6 (((w7.setCell ⟨w+1,1,none⟩ (.string ⟨(List.take (F5 l) (List.drop 16 l)).toArray⟩)).setCell ⟨w+1,2,none⟩ (.string ⟨(List.take (H9 l) (List.drop (16+F5 l) l)).toArray⟩)).setCell ⟨w+1,3,none⟩ (.bool false)) (w+1) 111 #[.int .u64 (num ((l.drop 4).take 8)),.string ⟨(List.take (F5 l) (List.drop 16 l)).toArray⟩,.string ⟨(List.take (H9 l) (List.drop (16+F5 l) l)).toArray⟩,.bool false]:=
   ((Y.set 1 _).set 2 _).set 3 _
  go_wp2_with fail
  refine(sum_any _ _ _ (HS.out _ sO)).mono ?_;rintro e w8 ⟨rfl,hw⟩;rw[hw] at X' Y' sO;clear hw X Y kR;clear xc0 ny o_ pY xf0 xf1 Rh Rf Q_ QZ QY P4 P3 P2;have xc0:=X'.cell 0;have ny:=X'.cell 1;have o_:=X'.cell 2;have pY:=X'.cell 3;have xf0:=X'.free 0;have xf1:=X'.free 1;have Rh:=X'.free 2;have Rf:=X'.free 3;have Qf:=Y'.cell 0;have Q_:=Y'.cell 1;have QZ:=Y'.cell 2;have QY:=Y'.cell 3;have hwc:IntKind.u64.wrap (crc ((l.take (16+F5 l+H9 l)).drop 4):Int)=(crc ((l.take (16+F5 l+H9 l)).drop 4):Int):=by have:=Ep ((l.take (16+F5 l+H9 l)).drop 4);rw[IntKind.wrap_u64];omega
  by_cases hcr:crc ((l.take (16+F5 l+H9 l)).drop 4)=num (l.take 4)
  ·have rF:((crc ((l.take (16+F5 l+H9 l)).drop 4):Int) != (num (l.take 4):Int))=false:=IV
   go_wp2;refine bodyPost_ret (v:=qw (some ⟨num ((l.drop 4).take 8),(l.drop 16).take (F5 l),(l.drop (16+F5 l)).take (H9 l),false,16+F5 l+H9 l⟩)) ?_ rfl ⟨?_,?_⟩
   ·simp[results,results71,go_sem,xc0,ny,o_,pY,qw,Ar,lK]
   ·unfold dec;rw[if_pos (by unfold good;rw[aN hlen,aN hcr,aN (show L6 l<=1 by omega),aN (show 1<=F5 l by omega),aN (show F5 l<=16 by omega),aN (show H9 l<=64 by omega),aK hf];rfl)];simp[hf]
   ·repeat' refine jP ?_ aZ
    exact sO
  ·have rF:((crc ((l.take (16+F5 l+H9 l)).drop 4):Int) != (num (l.take 4):Int))=true:=IW
   have hd:dec l=none:=HD (by unfold good;rw[aK hcr];simp);go_wp2;refine bodyPost_ret (v:=qw none) ?_ rfl ⟨by rw[hd],?_⟩
   ·simp[results,results71,go_sem,xc0,ny,o_,pY,qw,Ar,lK]
   ·repeat' refine jP ?_ aZ
    exact sO
structure Off(g:Nat)(w w':World):Prop where
 os:w'.os=w.os
 tape:w'.tape=w.tape
 output:w'.output=w.output
 size:w'.heap.size=w
 block:∀k,k≠g->w'.heap[k]?=w.heap[k]?
def Off.refl(g:Nat)(w:aB):Off g w w:=⟨rfl,rfl,rfl,rfl,λ_ _=>rfl⟩
def Off.trans{g:Nat}{a b c:aB}(h:Off g a b)(k:Off g b c):Off g a c:=
 ⟨k.os.trans h.os,k.tape.trans h.tape,k.output.trans h.output,k.size.trans h.size,λi d=>(k.block i d).trans<|h.block i d⟩
theorem Off.setCell{w w':aB}(h:Off g w w')(i:Nat)(u:aX):Off g w (w'.setCell ⟨g,i,none⟩ u):=by refine h.trans ⟨rfl,rfl,rfl,aZ,λk a=>?_⟩;simp[World.setCell,bg,dI a]
def Off.below{w w':aB}(h:Off g w w')(b:B<=g):Below B w w':=
 ⟨h.os,h.tape,h.output,fE h.size.symm,λk a=>h.block k<|aj⟩
def Off.box{w w':aB}(h:Off g w w'){cs:dU}(a:o6 w n t cs)(b:n≠g):o6 w' n t cs:=(h.block n b).trans a
section
variable{α β:Type}[DecidableEq α]
def A7(l:List (α×β))(x:α):Option β:=(l.find? λp=>decide (p.1=x)).map (·.2)
def X4(l:List (α×β))(x:α)(y:β):List (α×β):=if x∈l.map (·.1) then l.map λp=>if p.1=x then(x,y) else p else l++[(x,y)]
def qK(l:List (α×β))(x:α):List (α×β):=l.filter λp=>decide (p.1≠x)
theorem cx{l:List (α×β)}{x:α}(h:∀p∈l,p.1≠x):A7 l x=none:=by unfold A7;rw[List.find?_eq_none.2 (λp a=>by simpa using h p a)];rfl
theorem Dy{l:List (α×β)}{p:α×β}(c:(l.map (·.1)).Nodup)(a:l[j]?=some p):A7 l p.1=some p.2:=by
 induction l generalizing j with
 | nil=>trivial
 | cons q l g=>
  rw[bD,qZ] at c
  cases j with
  | zero=>simp at a;subst a;simp[A7]
  | succ=>have:=g c.2 a;unfold A7;rw[List.find?_cons_of_neg fU];trivial
theorem Y4{l:List (α×β)}{x:α}{y:β}(h:A7 l x=some y):(x,y)∈l:=by obtain⟨p,a,rfl⟩:=bC.1 h;have b:=List.find?_some a;simp at b;rw[<-b];exact List.mem_of_find?_eq_some a
theorem c0F(l:List (α×β))(x:α)(y:β):(X4 l x y).map (·.1)=if x∈l.map (·.1) then l.map (·.1) else l.map (·.1)++[x]:=by
 unfold X4;split
 rw[g_];apply nO;intro p _;simp;split
 rename_i h;exact h.symm
 rfl
 simp
theorem cw{l:List (α×β)}(h:(l.map (·.1)).Nodup)(x:α)(y:β):((X4 l x y).map (·.1)).Nodup:=by rw[c0F];grind
def b7j{l:List (α×β)}(h:(l.map (·.1)).Nodup)(x:α):((qK l x).map (·.1)).Nodup:=
 h.sublist (List.filter_sublist.map _)
theorem Jq{l:List (α×β)}{x:α}{y:β}{p:α×β}(h:p∈X4 l x y):p=(x,y)\/p∈l:=by unfold X4 at h;grind
def vE{l:List (α×β)}{x:α}{p:α×β}(h:p∈qK l x):p∈l:=(dQ.1 h).1
end
theorem cX(f:γ->δ)(l:List γ)(j:Nat):(l.eraseIdx j).map f=(l.map f).eraseIdx j:=by
 induction l generalizing j with
 | nil=>rfl
 | cons x l a=>cases j with
  | zero=>rfl
  | succ=>simp[a]
section
variable{α β:Type}{P:Program}{k:TypeId}{kf:α->Value}{vf:β->Value}{w:World}{r:Nat}{l:List (α×β)}
def MapOf(P:Program)(k:bT)(kf:α->Value)(vf:β->Value)(w:aB)(r:Nat)(l:List (α×β)):Prop:=
 ∃b a,w.heap[r]?=some (.map b a)/\b.toList.map (λe=>(e.key,e.val))=l.map (λp=>(kf p.1,vf p.2))/\(∀e∈b.toList,e.born<a)/\(b.toList.map (·.born)).Nodup/\
  (∀p∈l,∃t,keyOf P k (kf p.1)=some t)/\(l.map (·.1)).Nodup
def MapOf.nodup(h:MapOf P k kf vf w r l):(l.map (·.1)).Nodup:=h.choose_spec.choose_spec.2.2.2.2.2
theorem MapOf.lt(h:MapOf P k kf vf w r l):r<w.heap.size:=by
 let⟨c,a,b,_⟩:=h;obtain h|h:=bH r _
 exact h
 grind
def MapOf.block{w':aB}(h:MapOf P k kf vf w r l)(e:w'.heap[r]?=w.heap[r]?):MapOf P k kf vf w' r l:=have⟨c,a,d,b⟩:=h;⟨c,a,e.trans d,b⟩
def MapOf.off{w':aB}(h:MapOf P k kf vf w r l)(b:Off g w w')(a:r≠g):MapOf P k kf vf w' r l:=h.block<|b.block r a
def MapOf.ext{w':aB}(h:MapOf P k kf vf w r l)(a:Ext w w'):MapOf P k kf vf w' r l:=h.block<|a.block r h.lt
def MapOf.made(w:aB):MapOf (α:=α) (β:=β) P k kf vf (w.alloc (.map #[] 0)) w []:=
 ⟨#[],0,heap_alloc_new w _,rfl,aZ,aZ,aZ,aZ⟩
theorem sj{es:Array MapEntry}(g:es.toList.map (λe=>(e.key,e.val))=l.map (λp=>(kf p.1,vf p.2))){e:MapEntry}(d:es.toList[j]?=some e):∃p,l[j]?=some p/\e.key=kf p.1/\e.val=vf p.2:=by
 have a:(es.toList.map (λe=>(e.key,e.val)))[j]?=some (e.key,e.val):=by rw[dF,d];rfl
 grind
theorem c3W{es:Array MapEntry}(g:es.toList.map (λe=>(e.key,e.val))=l.map (λp=>(kf p.1,vf p.2))){p:α×β}(d:l[j]?=some p):∃e,es.toList[j]?=some e/\e.key=kf p.1/\e.val=vf p.2:=by
 have a:(l.map (λp=>(kf p.1,vf p.2)))[j]?=some (kf p.1,vf p.2):=fU
 grind
theorem c0G{es:Array MapEntry}(d:es.toList.map (λe=>(e.key,e.val))=l.map (λp=>(kf p.1,vf p.2)))(g:∀p∈l,∃t,keyOf P k (kf p.1)=some t):∀e∈es.toList,∃t,keyOf P k e.key=some t:=by intro e b;let⟨j,c⟩:=fP.1 b;let⟨p,a,f,_⟩:=sj d c;rw[f];exact g p<|aH a
theorem MapOf.find(h:MapOf P k kf vf w r l)(K:Keyed P k)(d:∀x y,kf x=kf y->x=y){x:α}{t:Lit}(D:keyOf P k (kf x)=some t){es:Array MapEntry}(A:w.heap[r]?=some (.map es c)):
 ((Instr.findKey k (kf x) es.toList).run P w=.ok none w/\(∀p∈l,p.1≠x))\/∃(j:Nat)(e:MapEntry)(y:β),(Instr.findKey k (kf x) es.toList).run P w=.ok (some (j,vf y)) w/\es.toList[j]?=some e/\e.key=kf x/\e.val=vf y/\l[j]?=some (x,y):=by
 let⟨C,g,a,s,I,G,F,H⟩:=h;rw[A] at a;injection a with a;injection a with B z;subst B;obtain⟨h,m⟩|⟨j,e,h,f,v⟩:=K.find w D _ (c0G s F)
 refine .inl ⟨h,λp i e=>?_⟩;let⟨j,f⟩:=fP.1 i;let⟨E,o,n,_⟩:=c3W s f;exact m E (aH o)<|by rw[n,e]
 let⟨p,i,n,u⟩:=sj s f;have q:=d _ _<|n.symm.trans v;subst q;exact .inr ⟨j,e,p.2,by rw[h,u],f,v,u,i⟩
theorem MapOf.look[DecidableEq α](h:MapOf P k kf vf w r l)(K:Keyed P k)(c:∀x y,kf x=kf y->x=y)(n:P.underlying t=some (.map k e))(A:(zeroValue e).run P w=.ok z w){x:α}{u:Lit}(g:keyOf P k (kf x)=some u):
 (Instr.lookup t (.map (some r)) (kf x) false).run P w=.ok (((A7 l x).map vf).getD z) w:=by
 let⟨p,i,f,G,D,I,E,v⟩:=h;obtain⟨m,d⟩|⟨j,C,y,m,B,F,H,q⟩:=h.find K c g f
 rw[cx d];simp[Instr.lookup,run_underlying n,MapKept.run_getObj_map f,K.check w _ g,m,A]
 have:=Dy v q;rw[this];simp[Instr.lookup,run_underlying n,MapKept.run_getObj_map f,K.check w _ g,m]
theorem MapOf.Bj[DecidableEq α](h:MapOf P k kf vf w r l)(K:Keyed P k)(c:∀x y,kf x=kf y->x=y)(n:P.underlying t=some (.map k e))(A:(zeroValue e).run P w=.ok z w){x:α}{u:Lit}(g:keyOf P k (kf x)=some u):
 (Instr.lookup t (.map (some r)) (kf x) true).run P w=.ok (.tuple #[((A7 l x).map vf).getD z,.bool (A7 l x).isSome]) w:=by
 let⟨p,i,f,G,D,I,E,v⟩:=h;obtain⟨m,d⟩|⟨j,C,y,m,B,F,H,q⟩:=h.find K c g f
 rw[cx d];simp[Instr.lookup,run_underlying n,MapKept.run_getObj_map f,K.check w _ g,m,A]
 have:=Dy v q;rw[this];simp[Instr.lookup,run_underlying n,MapKept.run_getObj_map f,K.check w _ g,m]
theorem ZJ(w:aB)(r:Nat)(o:Obj):Off r w {w with heap:=w.heap.setIfInBounds r o}:=
 ⟨rfl,rfl,rfl,aZ,λj a=>by simp[dI a]⟩
theorem WU{w:aB}{r:Nat}(h:r<w)(o:Obj):({w with heap:=w.heap.setIfInBounds r o}:aB).heap[r]?=some o:=by grind
theorem c0H[DecidableEq γ]{l:List (γ×δ)}(d:(l.map (·.1)).Nodup){i:Nat}{p q:γ×δ}(f:l[i]?=some p)(c:l[j]?=some q)(h:p.1=q.1):i=j:=by
 have a:(l.map (·.1))[i]?=some p.1:=fU
 have b:(l.map (·.1))[j]?=some p.1:=fU
 exact(zG (aJ.1 a).1 d).1 (a.trans b.symm)
theorem MapOf.store[DecidableEq α](h:MapOf P k kf vf w r l)(K:Keyed P k)(B:∀x y,kf x=kf y->x=y)(T:P.underlying t=some (.map k e)){x:α}{Q:Lit}(D:keyOf P k (kf x)=some Q)(y:β):
 ∃w',(Instr.mapUpdate t (.map (some r)) (kf x) (vf y)).run P w=.ok () w'/\MapOf P k kf vf w' r (X4 l x y)/\Off r w w':=by
 have W:=h;have C:=h.lt;obtain⟨u,o,v,U,I,O,E,M⟩:=W;have d:∀p∈X4 l x y,∃t,keyOf P k (kf p.1)=some t:=by
  intro p s;obtain rfl|s:=Jq s
  exact⟨Q,D⟩
  exact E p s
 obtain⟨N,L⟩|⟨j,Z,Y,N,S,f,hv,s⟩:=h.find K B D v
 refine⟨_,by simp[Instr.mapUpdate,run_underlying T,MapKept.run_getObj_map v,K.check w false D,N,setObj,Sem.run,v];rfl,?_,ZJ w r _⟩;refine⟨_,_,WU C _,?_,?_,?_,d,cw M x y⟩
 unfold X4;rw[if_neg (λc=>have⟨p,s,e⟩:=aQ.1 c;L p s e)];simp[U]
 intro e f;rw[zO,aP] at f;obtain f|f:=f
 have:=I e f;omega
 simp at f;subst f;simp
 rw[zO,aY,jB];refine⟨O,aZ,λa m b v=>?_⟩;obtain⟨e,f,rfl⟩:=aQ.1 m;simp at v;subst v;exact Nat.ne_of_lt (I e f)
 have G:=by simpa using S
 have n:(Instr.keyThatStays (((u[j]?).map (·.key)).getD (kf x))<|kf x).run P w=.ok (kf x) w:=by rw[G];simp only[eP,aG];rw[f];exact K.stays w D
 refine⟨{w with heap:=w.heap.setIfInBounds r (.map (u.modify j λe=>{e with key:=kf x,val:=vf y}) o)},?_,?_,ZJ w r _⟩
 simp[Instr.mapUpdate,Sem.run_bind,run_underlying T,Result.andThen_ok,MapKept.run_getObj_map v,K.check w false D,N,n];simp[setObj,Sem.run,v]
 have g:(u.modify j λe=>{e with key:=kf x,val:=vf y}).toList=u.toList.modify j _:=Array.toList_modify ..;refine⟨_,o,WU C _,?_,?_,?_,d,cw M x y⟩
 unfold X4;rw[if_pos (aQ.2 ⟨(x,Y),aH s,rfl⟩),g];apply jC;intro i;rw[dF,dF,tC,dF];by_cases z:j=i
 subst z;rw[S,s];simp
 simp[z,if_false];have F:(u.toList.map (λe=>(e.key,e.val)))[i]?=(l.map (λp=>(kf p.1,vf p.2)))[i]?:=by rw[U]
 rw[dF] at F
 cases J:l[i]? with
 | none=>simp_all
 | some q=>have V:¬q.1=x:=λe=>z (c0H M s J<|iL);simp_all
 intro e A;rw[g] at A;let⟨i,R⟩:=fP.1 A;rw[tC] at R;obtain⟨X,H,rfl⟩:=bC.1 R;have:=I X<|aH H;split<;>exact this
 rw[g];have:(u.toList.modify j λe=>{e with key:=kf x,val:=vf y}).map (·.born)=u.toList.map (·.born):=by
  apply jC;intro i;rw[dF,tC,dF]
  cases u.toList[i]? with
  | none=>rfl
  | some=>simp;split<;>rfl
 simp_all
theorem MapOf.drop[DecidableEq α](h:MapOf P k kf vf w r l)(K:Keyed P k)(s:∀x y,kf x=kf y->x=y)(H:P.underlying t=some (.map k e)){x:α}{S:Lit}(C:keyOf P k (kf x)=some S)(R:bT):
 ∃w',(Builtin.delete_ #[t,k] R #[.map (some r),kf x]).run P w=.ok (.tuple #[]) w'/\MapOf P k kf vf w' r (qK l x)/\Off r w w':=by
 have Q:=h;obtain⟨m,a,o,I,G,J,M,D⟩:=Q;obtain⟨z,B⟩|⟨j,V,L,z,f,U,T,g⟩:=h.find K s C o
 refine⟨_,by simp[Builtin.delete_,run_underlying H,MapKept.run_getObj_map o,K.check w m.isEmpty C,z,setObj,Sem.run,o];rfl,?_,ZJ w r _⟩;have E:qK l x=l:=nP.2 (λp g=>by simpa using B p g);rw[E];exact⟨m,a,WU h.lt _,I,G,J,M,D⟩
 refine⟨_,by simp[Builtin.delete_,run_underlying H,MapKept.run_getObj_map o,K.check w m.isEmpty C,z,setObj,Sem.run,o];rfl,?_,ZJ w r _⟩;have c:(m.eraseIdxIfInBounds j).toList=m.toList.eraseIdx j:=by rw[Array.eraseIdxIfInBounds,dif_pos fU,Array.toList_eraseIdx]
 have E:qK l x=l.eraseIdx j:=by
  unfold qK;apply jC;intro i;clear z c;have u:∀(l:List (α×β))(j:Nat),(l.map (·.1)).Nodup->l[j]?=some (x,L)->l.filter (λp=>decide (p.1≠x))=l.eraseIdx j:=by
   intro l
   induction l with
   | nil=>simp
   | cons q l N=>
    intro j A f;rw[bD,qZ] at A
    cases j with
    | zero=>
     simp at f;subst f;have:l.filter (λp=>decide (p.1≠x))=l:=nP.2 (λp g=>by have:p.1≠x:=λe=>A.1 fU;simp_all)
     rw[eM aZ];exact this
    | succ j=>simp at f;rw[eL fU,N j A.2 f];rfl
  rw[u l j D g]
 rw[E];refine⟨_,a,WU h.lt _,?_,?_,?_,?_,?_⟩
 rw[c,cX,I,cX]
 intro e n;rw[c] at n;exact G e (XL n)
 rw[c,cX];exact J.sublist<|List.eraseIdx_sublist ..
 intro p g;exact M p<|XL g
 rw[cX];exact D.sublist<|List.eraseIdx_sublist ..
end
namespace Dk
abbrev Nm:=List UInt8
structure Nd where
 data:List UInt8
 safe:Nat
abbrev Mv:=Nm×Option Nat
structure D where
 now:List (Nm×Nat)
 safe:List (Nm×Nat)
 moves:List (List Mv)
 room:Int
 wait:Nat
 bad:Nat
 ids:List Nat
 node:Nat->Nd
inductive Er where
 | ok
 | num (n:Int)
 | file (n:Int) (name:Nm)
 deriving DecidableEq
def Er.code:Er->Int
 | .ok=>0
 | .num n=>n
 | .file n _=>n
def Er.name:Er->Nm
 | .file _ s=>s
 | _=>[]
def H8(m:List (Nm×Nat))(l:List Mv):List (Nm×Nat):=l.foldl (λm x=>match x.2 with|none=>qK m x.1|some f=>X4 m x.1 f) m
theorem YY(m:List (Nm×Nat))(l:List Mv)(x:Mv):H8 m (l++[x])=match x.2 with|none=>qK (H8 m l) x.1|some f=>X4 (H8 m l) x.1 f:=by simp[H8]
def D.fails(d:D):Bool×D:=if 0<d.wait then(false,{d with wait:=d.wait - 1}) else if 0<d.bad then(true,{d with bad:=d.bad - 1}) else(false,d)
def D.find(d:D)(name:Nm):Option Nat×Er×D:=
 if d.fails.1=true then(none,.file 9 name,d.fails.2) else match A7 d.now name with
  | none=>(none,.file 11 name,d.fails.2)
  | some x=>(some x,.ok,d.fails.2)
def D.mv(d:D)(l:List Mv):D:={d with now:=H8 d.now l,moves:=d.moves++[l]}
def upd(f:Nat->Nd)(x:Nat)(y:Nd):Nat->Nd:=λi=>if i=x then y else f i
def D.setNode(d:D)(x:Nat)(y:Nd):D:={d with node:=upd d.node x y}
def D.create(d:D)(name:Nm)(x:Nat):Er×D:=
 if d.fails.1=true then(.file 9 name,d.fails.2) else if (A7 d.fails.2.now name).isSome=true then(.file 12 name,d.fails.2)
 else(.ok,({d.fails.2 with ids:=d.fails.2.ids++[x],node:=upd d.fails.2.node x ⟨[],0⟩}:D).mv [(name,some x)])
def D.used(d:D):Nat:=(d.now.map λp=>(d.node p.2).data.length).sum
def D.append(d:D)(name:Nm)(b:dV):Er×D:=
 match d.find name with
 | (none,e,d)=>(e,d)
 | (some x,_,d)=>if d.room - d.used<b.length then(.file 10 name,d) else(.ok,d.setNode x {d.node x with data:=(d.node x).data++b})
def D.size(d:D)(name:Nm):Int×Er×D:=
 match d.find name with
 | (none,e,d)=>(0,e,d)
 | (some x,_,d)=>((d.node x).data.length,.ok,d)
def part(l:dV)(a n:Int):List UInt8:=(l.drop (min a.toNat l.length)).take (min n.toNat (l.length - min a.toNat l.length))
def D.jF(d:D)(name:Nm)(a n:Int):List UInt8×Er×D:=
 match d.find name with
 | (none,e,d)=>([],e,d)
 | (some x,_,d)=>(part (d.node x).data a n,.ok,d)
def D.sync(d:D)(name:Nm):Er×D:=
 match d.find name with
 | (none,e,d)=>(e,d)
 | (some x,_,d)=>(.ok,d.setNode x {d.node x with safe:=(d.node x).data.length})
def D.rename(d:D)(a b:Nm):Er×D:=
 match d.find a with
 | (none,e,d)=>(e,d)
 | (some x,_,d)=>(.ok,if a=b then d else d.mv [(b,some x),(a,none)])
def D.remove(d:D)(name:Nm):Er×D:=
 match d.find name with
 | (none,e,d)=>(e,d)
 | (some _,_,d)=>(.ok,d.mv [(name,none)])
def D.jc(d:D):Er×D:=
 if d.fails.1=true then(.file 9 [],d.fails.2) else(.ok,{d.fails.2 with safe:=d.moves.foldl H8 d.safe,moves:=[]})
structure D.Wf(d:D):Prop where
 now:∀p∈d.now,p.2∈d.ids
 safe:∀p∈d.safe,p.2∈d.ids
 moves:∀l∈d.moves,∀x∈l,∀f,x.2=some f->f∈d.ids
 part:∀x∈d.ids,(d.node x).safe<=(d.node x).data.length
 ids:d.ids.Nodup
theorem Xz{m:List (Nm×Nat)}{l:List Mv}{p:Nm×Nat}(h:p∈H8 m l):p∈m\/∃x∈l,x.2=some p.2:=by
 induction l generalizing m with
 | nil=>exact .inl h
 | cons x l b=>
  obtain h|⟨y,c,e⟩:=b (m:=match x.2 with|none=>qK m _|some f=>X4 m _ f) h
  cases a:x.2 with
  | none=>rw[a] at h;exact .inl<|vE h
  | some=>
   rw[a] at h;obtain rfl|h:=Jq h
   exact .inr ⟨x,aZ,a⟩
   grind
  exact .inr ⟨y,by simp[c],e⟩
theorem D.lW(d:D):d.fails.2.now=d.now/\d.fails.2.safe=d.safe/\d.fails.2.moves=d.moves/\d.fails.2.room=d.room/\d.fails.2.ids=d.ids/\d.fails.2.node=d.node:=by unfold D.fails;grind
theorem D.vO{d:D}(h:d.Wf){x:Nat}{y:Nd}(b:y.safe<=y.data.length):(d.setNode x y).Wf:=by
 refine⟨h.now,h.safe,h.moves,λz a=>?_,h.ids⟩;show(upd _ x y z).safe<=(upd _ x y z).data.length;unfold upd;split
 exact b
 exact h.part z a
end Dk
section
variable{α β:Type}{P:Program}{k:TypeId}{kf:α->Value}{vf:β->Value}{w:World}{r i:Nat}{l vis:List (α×β)}
theorem nodup_lt_length:∀(n:Nat)(a:List Nat),a.Nodup->(∀j∈a,j<n)->a.length<=n:=by
 intro n
 induction n with
 | zero=>
  intro a _ h
  cases a with
  | nil=>simp
  | cons j=>exact absurd (h j<|aZ)<|aj
 | succ n f=>
  intro a c h;by_cases d:n∈a
  have i:=f _ (c.erase n) fU
  rw[List.length_erase_of_mem d] at i;omega
  grind
def Y9(P:Program)(k:bT)(kf:α->Value)(vf:β->Value)(w:aB)(i r:Nat)(l vis:List (α×β)):Prop:=
 ∃(b:Array MapEntry)(a:Nat)(seen:Array Nat)(c:List Nat),w.heap[r]?=some (.map b a)/\w.heap[i]?=some (.mapIter (some r) a seen a)/\
  b.toList.map (λe=>(e.key,e.val))=l.map (λp=>(kf p.1,vf p.2))/\(∀e∈b.toList,e.born<a)/\(b.toList.map (·.born)).Nodup/\
  c.Nodup/\(∀j∈c,j<b.size)/\seen.toList=c.map (λj=>(b[j]?.map (·.born)).getD 0)/\vis.map some=c.map (λj=>l[j]?)
theorem Y9.lt(h:Y9 P k kf vf w i r l vis):i<w/\r<w/\i≠r:=by
 let⟨d,c,seen,e,b,a,_⟩:=h;refine⟨?_,?_,?_⟩
 obtain h|h:=bH i _
 exact h
 grind
 obtain h|h:=bH r _
 exact h
 grind
 grind
def Y9.block{w':aB}(h:Y9 P k kf vf w i r l vis)(g:w'.heap[i]?=w.heap[i]?)(c:w'.heap[r]?=w.heap[r]?):Y9 P k kf vf w' i r l vis:=have⟨e,a,seen,b,f,d,j⟩:=h;⟨e,a,seen,b,c.trans f,g.trans d,j⟩
theorem Y9.length(h:Y9 P k kf vf w i r l vis):vis.length<=l.length:=by
 let⟨d,a,seen,m,o,s,b,n,p,e,g,q,j⟩:=h;have c:=by simpa using congrArg List.length j
 have f:=by simpa using congrArg List.length b
 rw[c,<-f];exact nodup_lt_length _ _ e g
theorem Y9.mem(h:Y9 P k kf vf w i r l vis):∀p∈vis,p∈l:=by
 let⟨s,a,seen,f,u,o,m,n,v,g,q,t,e⟩:=h;intro p c;have:some p∈f.map (λj=>l[j]?):=by rw[<-e];exact aQ.2 ⟨p,c,rfl⟩
 let⟨j,_,d⟩:=aQ.1 this;exact aH d
def Zw(w:aB)(i:Nat):Nat:=match w.heap[i]? with|some (.mapIter _ _ seen _)=>seen.size|_=>0
theorem Y9.seen(h:Y9 P k kf vf w i r l vis):Zw w i=vis.length:=by
 let⟨p,a,seen,b,q,f,s,m,j,n,o,d,e⟩:=h;have g:=by simpa using congrArg List.length e
 have c:seen.size=b.length:=by rw[<-Array.length_toList,d,bV]
 unfold Zw;grind
theorem MapOf.range(h:MapOf P k kf vf w r l)(g:P.underlying t=some (.map k e)):
 ∃w',(Instr.range t (.map (some r))).run P w=.ok (.pointer (some w)) w'/\Y9 P k kf vf w' w r l []/\Ext w w'/\w'.heap.size=w+1:=by
 let⟨f,a,d,i,j,m,o,n⟩:=h;refine⟨_,run_range_map w t k e r f a g d,?_,(dh w).new _,aZ⟩;exact⟨f,a,#[],[],by rw[heap_alloc_old w _ h.lt];exact d,heap_alloc_new w _,i,j,m,Na,aZ,rfl,rfl⟩
theorem Y9.next(h:Y9 P k kf vf w i r l vis)(ty:bT):
 (∃p w',(Instr.next (.pointer (some i)) false ty).run P w=.ok (.tuple #[.bool true,kf p.1,vf p.2]) w'/\p∈l/\Y9 P k kf vf w' i r l (vis++[p])/\Off i w w'/\
   (Instr.entry (.pointer (some i))).run P w'=.ok (.tuple #[kf p.1,vf p.2]) w'/\vis.length<l.length) ∨
 ((Instr.next (.pointer (some i)) false ty).run P w=.ok (.tuple #[.bool false]) w/\vis.Perm l):=by
 have hl:=h.lt;obtain⟨es,clock,seen,js,h1,h2,h3,h4,h5,h6,h7,h8,h9⟩:=h;have gi:(getObj i).run P w=.ok (.mapIter (some r) clock seen clock) w:=by simp[getObj,Sem.run,h2]
 have gr:(getObj r).run P w=.ok (.map es clock) w:=MapKept.run_getObj_map h1;have Iy:(!seen.isEmpty&&!es.isEmpty&&es.all (λx=>decide (x.born ≥ clock)))=false:=next_test_false seen es clock clock h4 (ak _);have hold:((leftOf es seen).filter λx=>decide (x.born<clock))=leftOf es seen:=by rw[Array.filter_eq_self];intro x hx;have:=h4 x (mem_left (Array.mem_toList_iff.2 hx)).1;simpa using this
 have hnew:((leftOf es seen).filter λx=>decide (x.born ≥ clock))=#[]:=by rw[Array.filter_eq_empty_iff];intro x hx;have:=h4 x (mem_left (Array.mem_toList_iff.2 hx)).1;simp;omega
 have esz:es.size=l.length:=by simpa using congrArg List.length h3
 by_cases h0:(leftOf es seen).size=0
 ·refine .inr ⟨?_,?_⟩
  ·have he:leftOf es seen=#[]:=Array.eq_empty_of_size_eq_zero h0;have he':(es.filter λe=>!seen.contains e.born)=#[]:=he;simp only[Instr.next,Sem.run_bind,gi,gr,Result.andThen_ok,Iy,he'];simp[choose,Sem.run,Question.forced]
  ·have hall:=all_seen es seen h0;have hjs:js.Perm (List.range es.size):=by
    refine(jf h6 List.nodup_range).2 λj=>⟨λhj=>iH.2 (h7 j hj),λhj=>?_⟩;have hj':=iH.1 hj;have hm:es[j]∈es.toList:=aZ
    have hc:=hall es[j] hm;have hmem:es[j].born∈seen.toList:=by simpa using hc
    rw[h8] at hmem;obtain⟨j',hj1,hj2⟩:=aQ.1 hmem;have hj3:=h7 j' hj1;rw[dN hj3] at hj2;simp only[eP,aG] at hj2;have:j'=j:=by
     have e1:(es.toList.map (·.born))[j']?=some es[j].born:=by simp[hj3,hj2]
     have e2:(es.toList.map (·.born))[j]?=some es[j].born:=by simp[hj']
     exact(zG (by simpa using hj3) h5).1 (e1.trans e2.symm)
    exact this▸hj1
   have e1:(vis.map some).Perm ((List.range es.size).map λj=>l[j]?):=by rw[h9];exact hjs.map _
   have e2:(List.range es.size).map (λj=>l[j]?)=l.map some:=by
    rw[esz];apply jC;intro j;rw[dF,dF];by_cases hj:j<l.length
    ·rw[uO hj];simp[hj]
    ·rw[ji (by simpa using hj),ji aj];rfl
   rw[e2] at e1;have:=e1.filterMap id;simpa using this
 ·refine .inl ?_;generalize hL:leftOf es seen=L at *;have hL':(es.filter λe=>!seen.contains e.born)=L:=hL;have hch:∃(j:Nat)(w1:aB),j<L.size/\w1.heap=w.heap/\w1.os=w.os/\w1.tape=w.tape/\w1.output=w.output/\(choose (Question.mapNext L.size)).run P w=.ok j w1:=by
   by_cases hf:L.size<=1
   ·exact⟨0,w,aj,rfl,rfl,rfl,rfl,by simp[choose,Sem.run,Question.forced,hf]⟩
   ·exact⟨_,w.drew,MZ _ aj,rfl,rfl,rfl,rfl,by simp only[choose,Sem.run,Question.forced,bZ,hf,if_false,Question.cut];rfl⟩
  obtain⟨j,w1,hj,hh1,hh2,hh3,hh4,hrun⟩:=hch;have hne:L.isEmpty=false:=by simp[Array.isEmpty,h0]
  have hme:L[j]∈(leftOf es seen).toList:=by rw[hL];simp
  obtain⟨hmem,rV⟩:=mem_left hme;obtain⟨jj,hjj⟩:=fP.1 hmem;obtain⟨p,hp,hk,hv⟩:=sj h3 hjj;have hjlt:jj<es.size:=by have:=(aJ.1 hjj).1;simpa using this
  have Ue:es[jj]?=some L[j]:=by simpa using hjj
  have hnot:jj∉js:=by
   intro hin;have:L[j].born∈seen.toList:=by rw[h8];exact aQ.2 ⟨jj,hin,by rw[Ue];rfl⟩
   have:seen.contains L[j].born=true:=by simpa using this
   rw[this] at rV;cases rV
  have hl1:i<w1.heap.size:=by rw[hh1];exact hl.1
  have hset:∀o':Obj,(setObj i o').run P w1=.ok () {w1 with heap:=w1.heap.setIfInBounds i o'}:=λo'=>by
   have h2':w1.heap[i]?=some (.mapIter (some r) clock seen clock):=by rw[hh1];exact h2
   simp[setObj,Sem.run,h2']
  have Kt:(Instr.next (.pointer (some i)) false ty).run P w=.ok (.tuple #[.bool true,kf p.1,vf p.2]) {w1 with heap:=w1.heap.setIfInBounds i (.mapIter (some r) clock (seen.push L[j].born) clock)}:=by simp only[Instr.next,Sem.run_bind,gi,gr,Result.andThen_ok,Iy,hL',hold,hnew,hne,dY,if_false,oN,xw,Array.size_map,hrun,oL,dN hj,eP,hset];rw[<-hk,<-hv];rfl
  have hgi':({w1 with heap:=w1.heap.setIfInBounds i (.mapIter (some r) clock (seen.push L[j].born) clock)}:aB).heap[i]?=some (.mapIter (some r) clock (seen.push L[j].born) clock):=WU hl1 _;have Ui:({w1 with heap:=w1.heap.setIfInBounds i (.mapIter (some r) clock (seen.push L[j].born) clock)}:aB).heap[r]?=some (.map es clock):=by show(w1.heap.setIfInBounds i _)[r]?=_;rw[bf hl.2.2,hh1];exact h1
  have hlen:vis.length<l.length:=by
   have e1:vis.length=js.length:=by simpa using congrArg List.length h9
   have:=nodup_lt_length es.size (js++[jj]) (by
    rw[jB];exact⟨h6,aZ,λa ha b hb=>by simp at hb;subst hb;exactλe=>hnot (e▸ha)⟩) (by
    intro a ha;rcases aP.1 ha with h|h
    ·exact h7 a h
    ·simp at h;subst h;exact hjlt)
   simp at this;omega
  refine⟨p,_,Kt,aH hp,?_,?_,?_,hlen⟩
  ·refine⟨es,clock,seen.push L[j].born,js++[jj],Ui,hgi',h3,h4,h5,?_,?_,?_,?_⟩
   ·rw[jB];exact⟨h6,aZ,λa ha b hb=>by simp at hb;subst hb;exactλe=>hnot (e▸ha)⟩
   ·intro a ha;rcases aP.1 ha with h|h
    ·exact h7 a h
    ·simp at h;subst h;exact hjlt
   ·rw[zO,h8,aY,bD,dS,Ue];rfl
   ·rw[aY,aY,h9];simp[hp]
  ·refine⟨hh2,hh3,hh4,by simp[hh1],λq hq=>?_⟩;show(w1.heap.setIfInBounds i _)[q]?=_;rw[bf (dI hq),hh1]
  ·have hfind:es.find? (λe=>e.born==L[j].born)=some L[j]:=by have:=find_born L[j] es.toList h5 hmem;simpa using this
   simp only[Instr.entry,getObj,Sem.run_bind,Sem.run,hgi',Ui,Result.andThen,Array.back?_push,bne_self_eq_false,dY,if_false,hfind];rw[<-hk,<-hv];rfl
end
structure iq(F F':Nat->Prop)(w w':World):Prop where
 os:w'.os=w.os
 tape:w'.tape=w.tape
 output:w'.output=w.output
 size:w.heap.size<=w'
 block:∀b,b<w.heap.size->¬F b->w'.heap[b]?=w.heap[b]?
 grow:∀b,F' b->F b\/w.heap.size<=b
def iq.refl(F:tyP)(w:aB):iq F F w w:=⟨rfl,rfl,rfl,ak _,λ_ _ _=>rfl,λ_ h=>.inl h⟩
def iq.trans{F F' i:tyP}{a b c:aB}(h:iq F F' a b)(k:iq F' i b c):iq F i a c:=
 ⟨k.os.trans h.os,k.tape.trans h.tape,k.output.trans h.output,ay h.size k.size,
  λx d g=>(k.block x (aF d h.size) (λf=>(h.grow x f).elim g<|aj)).trans<|h.block x d g,
  λx d=>(k.grow x d).elim (h.grow x) (λe=>.inr<|ay h.size e)⟩
def iq.ext{F:tyP}{w w':aB}(h:Ext w w'):iq F F w w':=
 ⟨h.os,h.tape,h.output,h.size,λb a _=>h.block b a,λ_ h=>.inl h⟩
abbrev iV:=@iq.ext
def iq.off{w w':aB}(h:Off g w w')(c:F g):iq F F w w':=
 ⟨h.os,h.tape,h.output,fE h.size.symm,λb _ a=>h.block b (λe=>a<|e▸c),λ_ h=>.inl h⟩
def iq.toExt{F':tyP}{w w':aB}(h:iq F F' w w')(d:∀b,F b->w.heap.size<=b):Ext w w':=
 ⟨h.os,h.tape,h.output,h.size,λb c=>h.block b c fU⟩
def iq.below{F':tyP}{w w':aB}(h:iq F F' w w')(c:∀b,F b->B<=b)(e:B<=w):Below B w w':=
 ⟨h.os,h.tape,h.output,h.size,λb d=>h.block b aj fU⟩
def jH(S:tyP)(Φ:World->Prop)(w:aB):Prop:=∀a:aB,(∀b,S b->a.heap[b]?=w.heap[b]?)->Φ a
def Held(w:aB)(F:tyP)(Φ:World->Prop):Prop:=∃S:tyP,(∀b,S b->b<w.heap.size/\¬F b)/\jH S Φ w
def Held.get{w:aB}(h:Held w F Φ):Φ w:=let ⟨_,_,a⟩:=h;a w λ_ _=>rfl
def Held.mono{w:aB}(h:Held w F Φ)(k:∀w,Φ w->Ψ w):Held w F Ψ:=
 let ⟨S,d,c⟩:=h;⟨S,d,λa b=>k a<|c a b⟩
def Held.and{w:aB}(h:Held w F Φ)(k:Held w F Ψ):Held w F (λw=>Φ w/\Ψ w):=have⟨S,g,f⟩:=h;have⟨T,i,e⟩:=k;⟨λb=>S b\/T b,λb a=>a.elim (g b)<|i b,λd c=>⟨f d λb a=>c b<|.inl a,e d λb a=>c b<|.inr a⟩⟩
def Held.true(w:aB)(F:tyP):Held w F (λ_=>True):=⟨λ_=>False,λ_ h=>h.elim,λ_ _=>trivial⟩
theorem Held.step{w w':aB}{F':tyP}(h:Held w F Φ)(c:iq F F' w w'):Held w' F' Φ:=by
 let⟨S,d,g⟩:=h;refine⟨S,λb a=>⟨aF (d b a).1 c.size,λi=>?_⟩,λe f=>g e λb a=>(f b a).trans<|c.block b (d b a).1 (d b a).2⟩;obtain h|h:=c.grow b i
 exact(d b a).2 h
 grind
def Held.ext{w w':aB}{F:tyP}{Φ:World->Prop}(h:Held w F Φ)(a:Ext w w'):Held w' F Φ:=h.step<|.ext a
def Held.of{w:aB}(h:jH S Φ w)(a:∀b,S b->b<w.heap.size/\¬F b):Held w F Φ:=⟨S,a,h⟩
def Held.less{w:aB}(h:Held w F Φ)(d:∀b,G b->F b):Held w G Φ:=
 let ⟨S,a,e⟩:=h;⟨S,λb c=>⟨(a b c).1,λf=>(a b c).2<|d b f⟩,e⟩
def jH.box{w:aB}{cs:dU}(h:o6 w n t cs):jH (λb=>b=n) (λw=>o6 w n t cs) w:=
 λc a=>(a n rfl).trans h
def jH.map{α β:Type}{P:Program}{k:bT}{kf:α->Value}{vf:β->Value}{w:aB}{r:Nat}{l:List (α×β)}(h:MapOf P k kf vf w r l):jH (λb=>b=r) (λw=>MapOf P k kf vf w r l) w:=
 λc a=>h.block<|a r rfl
theorem jH.row{w:aB}{xs:jl}(h:w.ownsRow B e a v n xs):jH (λb=>v.ownBlock=some b) (λw=>w.ownsRow B e a v n xs) w:=by
 intro m i;let⟨k,d⟩:=h;refine⟨k,?_⟩;obtain d|⟨g,f,c,rfl,l,j,r⟩:=d
 exact .inl d
 exact .inr ⟨g,f,c,rfl,l,(i g rfl).trans j,r⟩
def jH.ownB{w:aB}{l:dV}(h:OwnB w B v l):jH (λb=>v.ownBlock=some b) (λw=>OwnB w B v l) w:=.row h
theorem jH.slice{w:aB}{xs:jl}(h:vF w v n xs):jH (λb=>xs≠[]/\∃a n c,v=.slice (some a) n c/\a.block=b) (λw=>vF w v n xs) w:=by
 intro p l;obtain⟨a,d,rfl,j,g,k⟩:=h;refine⟨a,d,rfl,j,g,λf=>?_⟩;obtain⟨b,rfl,o⟩:=k f;refine⟨b,rfl,λi x m=>?_⟩;have e:(b.add i).block=b.block:=by unfold Addr.add;split<;>rfl
 rw[<-o i x m];exact World.cell?_of_block<|fU
def o6.lt{w:aB}{cs:dU}(h:o6 w n t cs):n<w.heap.size:=lt_of_block h
def PZ{w:aB}{xs:jl}(h:w.ownsRow B e a v n xs)(c:v.ownBlock=some b):b<w.heap.size:=(h.lt b c).2
theorem Held.box{w:aB}{cs:dU}(h:o6 w n t cs)(a:¬F n):Held w F (λw=>o6 w n t cs):=
 .of (.box h) λb e=>by subst e;exact⟨h.lt,a⟩
def Held.ownB{w:aB}{l:dV}(h:OwnB w B v l)(a:∀b,v.ownBlock=some b->¬F b):Held w F (λw=>OwnB w B v l):=
 .of (.ownB h) λb e=>⟨PZ h e,a b e⟩
theorem Held.bytes{w:aB}{l:dV}(h:Bytes w v l)(p:∀a n c,v=.slice (some a) n c->¬F a.block):Held w F (λw=>Bytes w v l):=by
 refine .of (.slice h) λb⟨i,a,n,c,j,d⟩=>?_;subst d;refine⟨?_,p a n c j⟩;let⟨s,o,f,u,y,m⟩:=h;let⟨b,d,r⟩:=m i;rw[j] at f;injection f with q;rw[<-q] at d;injection d with d;subst d
 cases k:l.map eG with
 | nil=>trivial
 | cons x=>have:=World.block_lt_of_cell? w _ (r 0 x<|fU);trivial
def inRange(n:Int):Bool:=decide (1<=n)&&decide (n<=999999)
def Q7(l:fC):Bool:=decide (l.length<=60)&&(l.all inRange&&decide l.Nodup)
def LX:Keyed prog 3:=int_keyed underlying3
def tP(w:aB):(zeroValue 3).run prog w=.ok (.int .i64 0) w:=rfl
def seen{H:Type}(D:DataW H)(l:fC)(k:Nat):Prop:=∀x:Int,D.atKey (.int .i64 x) (.lit (.int .i64 0))=.lit (.int .i64 (if x∈l.take k then 1 else 0))
def LW(l:fC)(k:Nat):Prop:=(l.take k).all inRange=true/\(l.take k).Nodup
def wrap64_small{n:Int}(a:-1000<=n)(b:n<=1000):wrap64 n=n:=YT
theorem ov{D:DataW H}{l:fC}{k:Nat}{c g:Int}(i:IsMap D)(j:seen D l k)(e:D.atKey (.int .i64 x) (.lit (.int .i64 0))=.lit (.int .i64 c))
 (f:(D.put (.int .i64 x) (.lit (.int .i64 (wrap64 (c+1))))).atKey (.int .i64 x) (.lit (.int .i64 0))=.lit (.int .i64 g)):
 c=(if x∈l.take k then 1 else 0)/\g=c+1:=by
 have a:=(j x).symm.trans e;injection a with a;injection a with _ a;rw[atKey_put_same i qc] at f;injection f with d;injection d with _ d;refine⟨a.symm,?_⟩;rw[<-d];have:c=0\/c=1:=aj
 obtain rfl|rfl:=this
 exact wrap64_small aj<|aj
 exact wrap64_small aj<|aj
theorem b98{D:DataW H}{l:fC}{k:Nat}(c:IsMap D)(f:seen D l k)(g:k<l.length)(d:l[k]=x)(h:x∉l.take k):
 seen (D.put (.int .i64 x) (.lit (.int .i64 1))) l (k+1):=by
 intro y;rw[take_snoc l k g,d];by_cases b:y=x
 subst b;rw[atKey_put_same c qc];simp
 rw[atKey_put_other fU,f y];simp[b]
theorem PP{l:fC}{k:Nat}(d:LW l k)(f:k<l.length)(h:l[k]=x)(j:inRange x=true)(g:x∉l.take k):LW l (k+1):=by unfold LW at *;rw[take_snoc l k f,h];refine⟨fU,?_⟩;rw[jB];exact⟨d.2,aZ,λa i b c=>by simp at c;subst c;exactλe=>g<|e▸i⟩
theorem cJ{l:fC}{k:Nat}(b:k<l.length)(d:l[k]=x)(c:inRange x=false):Q7 l=false:=by
 have:l.all inRange=false:=by rw[List.all_eq_false];exact⟨x,d▸bQ b,by simp[c]⟩
 unfold Q7;rw[this];simp
theorem yz{l:fC}{k:Nat}(c:k<l.length)(d:l[k]=x)(f:x∈l.take k):Q7 l=false:=by
 have:¬l.Nodup:=by intro e;have a:(l.take<|k+1).Nodup:=e.sublist<|zF _ _;rw[take_snoc l k c,d,jB] at a;exact a.2.2 x f x aZ rfl
 unfold Q7;grind
theorem PM{H:Type}(v:aX)(l:fC)(w:aB)(h:Ints w v l)(U:∀n∈l,(Lit.int .i64 n).wf=true):
 Calls prog 149 #[v] w λe w'=>e=.returned (.bool (Q7 l))/\Ext w w':=by
 obtain⟨a,R,rfl,Y,Q,-⟩:=h.open;have K:=@run_makeMap prog;go_enter func149,ntmps149
 go_wp2;go_loopw [9] (λi wr=>∃k:Nat,k<=l.length/\i=.int .i64 k/\LW l k/\(∃D:DataW H,wr.ownsMap prog 3 (plainElem prog 3) w k D/\seen D l k)/\Ext w wr) (λi _=>l.length - (intOf i).toNat)
 case atStart=>exact⟨0,dD _,rfl,⟨rfl,Na⟩,⟨.map [],World.ownsMap_made _ _ _ _,λx=>by simp[DataW.atKey]⟩,(dh w).new _⟩
 case round=>
  obtain⟨k,hk,rfl,z,⟨D,f,O⟩,F⟩:=hrel;by_cases q:k<l.length
  obtain⟨b,rfl,hb⟩:∃b,a=some b/\wr.cell? (b.add k)=some (.int .i64 (l[k])):=by obtain⟨a',E,e,_,_,W⟩:=(h.ext F).open;injection e with u;subst u;exact W k q
  have L:=U _ (bQ q);have g:keyOf prog 3 (.int .i64 l[k])=some (.int .i64 l[k]):=keyOf_int_mk underlying3 L;generalize A:l[k]=x at *;obtain⟨c,X,V⟩:∃c:Int,(c=0\/c=1)/\c=(if x∈l.take k then 1 else 0):=⟨_,by split<;>simp,rfl⟩;by_cases M:1<=x/\x<=999999
  ·have T:¬x<1:=aj
   have J:¬999999<x:=aj
   go_wp2_with (first|(at_lookup;refine wpList_lookup_own_int _ rfl _ _ 312 rfl 3 3 .i64 LX underlying312 underlying3 (tP _) w _ _ rfl f _ _ rfl g ?_;intro E r C)|(at_mapUpdate;refine wpList_mapUpdate_own _ rfl _ _ _ 312 rfl 3 3 LX underlying312 _ w k _ rfl f lJ _ _ _ rfl rfl g _ [] (plainElem_int underlying3 (wrap64_wf _)) ?_;intro P m d;obtain⟨c2,I,UG,Z⟩:=m.lookup_int LX underlying312 underlying3 (tP _) g)|go_in)
   ·obtain⟨u,S⟩:=ov f.isMap O r UG;have p:x∈l.take k:=by
     by_cases G:x∈l.take k
     exact G
     rw[if_neg G] at u;omega
    go_ret;exact⟨by rw[yz q A p];rfl,F.grown d F.size (λj t=>by cases t;exact ak _)⟩
   obtain⟨u,S⟩:=ov f.isMap O r UG;have p:x∉l.take k:=by intro G;rw[if_pos G] at u;omega
   obtain rfl:E=0:=by rw[if_neg p] at u;exact u
   rw[show wrap64 (0+1)=1 from wrap64_small aj aj] at m;go_roundw
   case rel=>exact⟨k+1,aj,iE,PP z q A (by unfold inRange;rw[aN M.1,aN M.2];rfl) p,⟨_,m,b98 f.isMap O q A p⟩,F.grown d F.size (λj t=>by cases t;exact ak _)⟩
   case measure=>simp[intOf];omega
  ·have B:inRange x=false:=by unfold inRange;simp_all
   by_cases N:x<1
   go_wp2_with (first|(at_lookup;refine wpList_lookup_own_int _ rfl _ _ 312 rfl 3 3 .i64 LX underlying312 underlying3 (tP _) w _ _ rfl f _ _ rfl g ?_;intro E r C)|(at_mapUpdate;refine wpList_mapUpdate_own _ rfl _ _ _ 312 rfl 3 3 LX underlying312 _ w k _ rfl f lJ _ _ _ rfl rfl g _ [] (plainElem_int underlying3 (wrap64_wf _)) ?_;intro P m d)|go_in)
   go_ret;exact⟨by rw[cJ q A B];rfl,F.grown d F.size (λj t=>by cases t;exact ak _)⟩
   have h2:999999<x:=aj
   go_wp2_with (first|(at_lookup;intro E r C)|(at_mapUpdate;intro P m d)|go_in)
   go_ret;exact⟨by rw[cJ q A B];rfl,F.grown d F.size (λj t=>by cases t;exact ak _)⟩
  go_wp2;go_ret;obtain rfl:k=l.length:=aj
  unfold LW at z;rw[bK] at z;refine⟨?_,F⟩;unfold Q7;rw[z.1,aN z.2,Bool.and_self,Bool.and_true];simp;omega
def U3(l:fC):List UInt8:=l.flatMap λn=>be n.toNat 4
def U8(a:Nat)(l:fC):List UInt8:=be a 8++be l.length 2++U3 l
theorem VS(l:fC)(n:Int):U3 (l++[n])=U3 l++be n.toNat 4:=by simp[U3]
theorem U6(l:fC):(U3 l).length=4*l.length:=by
 induction l with
 | nil=>rfl
 | cons=>simp[U3,eY,aC,H7,dK] at *;omega
def c9L(a:Nat)(l:fC)(w:aB)(e:Ending)(w':aB):Prop:=
 ∃x y,e=.returned (.tuple #[x,y])/\Ext w w'/\
  ((Q7 l=true/\y=.nilIface/\OwnB w' w x (summed (U8 a l)))\/(Q7 l=false/\y=lK 4/\x=.slice none 0 0))
theorem b4c(f:Nat)(v:aX)(l:fC)(w:aB)(h:Ints w v l)(hw:∀n∈l,(Lit.int .i64 n).wf=true):
 Calls prog 141 #[.agg #[.int .u64 f,v]] w (c9L f l w):=by
 obtain⟨a,t,rfl,hc,hc',-⟩:=h.open;have HI:=ah h;clear h;have F:o6 (w.alloc (.cells #[.int .u64 f,.slice a l.length t] 125)) w 125 #[.int .u64 f,.slice a l.length t]:=jR _ _ rfl;have z:Ext w (w.alloc (.cells #[.int .u64 f,.slice a l.length t] 125)):=(dh w).new _;go_enter func141,ntmps141
 go_wp2_with fail
 refine(PM (H:=Unit) _ l _ (HI.out.ext z) hw).mono ?_;rintro e C ⟨rfl,m⟩;have X:=F.below m aZ;have u:=lI z m;clear F z m;have j:=ah X;have g:=ah u;clear X u
 cases o:Q7 l with
 | false=>
  go_wp2;go_ret2
  exact⟨_,_,rfl,g.out,Or.inr ⟨o,rfl,rfl⟩⟩
 | true=>
  have r:=lt_of_block j.out;have BZ:Dx (C.alloc (.cells #[.slice none 0 0] 309)) (w+1) C []:=
   ⟨_,heap_alloc_new C _,r,⟨rfl,Or.inl ⟨rfl,rfl⟩⟩⟩
  have m:Ext w (C.alloc (.cells #[.slice none 0 0] 309)):=g.out.new _;have E:o6 (C.alloc (.cells #[.slice none 0 0] 309)) w 125 #[.int .u64 f,.slice a l.length t]:=j.out.alloc _;have mH:l.length<=60:=by unfold Q7 at o;exact dJ (gY.1 o).1
  clear j g;have g:=ah m;have j:=ah E;clear m E;go_wp2_with fail
  refine(P7 _ _ [] 0 4 _ BZ aj aZ).mono ?_;rintro e w2 ⟨rfl,H,y⟩;have J:=j.out.below y aj;have K:Ext w w2:=Below.trans g.out (y.mono aj);clear j g BZ y;have g:=ah K;have j:=ah J;clear K J;have q:=j.out.cell 0;have G:=j.out.cell 1;go_wp2_with fail
  refine(P7 _ _ _ f 8 _ H aj Eb).mono ?_;rintro e w3 ⟨rfl,D,B⟩;have ZS:=j.out.below B aj;have jM:Ext w w3:=Below.trans g.out (B.mono aj);clear j g H B q G;have g:=ah jM;have j:=ah ZS;clear jM ZS;have q:=j.out.cell 0;have G:=j.out.cell 1;have hwl:IntKind.u64.wrap (l.length:Int)=(l.length:Int):=yT
  go_wp2_with fail
  refine(P7 _ _ _ l.length 2 _ D aj Eb).mono ?_;rintro e w4 ⟨rfl,Z1,A⟩;have ZD:=j.out.below A aj;have lH:Ext w w4:=Below.trans g.out (A.mono aj);clear j g D A q G;have g:=ah lH;have j:=ah ZD;clear lH ZD;have q:=j.out.cell 0;have G:=j.out.cell 1;have P:∀n∈l,inRange n=true:=by unfold Q7 at o;simp_all
  go_wp2;clear q G;go_loopw [6,25] (λ_ i wr=>∃k:Nat,k<=l.length/\i=.int .i64 k/\Dx wr (w+1) C ([]++be 0 4++be f 8++be l.length 2++U3 (l.take k))/\Ext w wr) (λ_ i _=>l.length - (intOf i).toNat)
  case atStart=>exact⟨0,dD _,rfl,by simpa [U3] using Z1,g.out⟩
  case round=>
   clear g j Z1;obtain⟨k,hk,rfl,I,u⟩:=hrel;have M:=U6 (l.take k);rw[dH] at M;by_cases r:k<l.length
   ·obtain⟨b,rfl,hb⟩:∃b,a=some b/\wr.cell? (b.add k)=some (.int .i64 (l[k])):=by obtain⟨a',c',e,_,_,hf⟩:=(HI.out.ext u).open;injection e with e1;subst e1;exact hf k r
    have s:=P _ (bQ r);unfold inRange at s;have hi1:=dJ (gY.1 s).1;have hi2:=dJ (gY.1 s).2;have L:U3 (l.take (k+1))=U3 (l.take k)++be (l[k]).toNat 4:=by rw[take_snoc l k r,VS]
    have HS:=ah L;clear L s;generalize l[k]=x at *;obtain⟨x,rfl⟩:=lD (show 0<=x by omega);have hwx:IntKind.u64.wrap (x:Int)=(x:Int):=yT
    have d:=P7 _ _ _ x 4 _ I aj (by simp[H7];omega);have g:=ah u;clear u I;go_wp2_with fail
    refine d.mono ?_;rintro e O ⟨rfl,hW5,p⟩;have c:Ext w O:=Below.trans g.out (p.mono aj);clear d p g;go_wp2;go_roundw
    case rel=>exact⟨k+1,aj,iE,by rw[HS.out];simpa using hW5,c⟩
    case measure=>simp[intOf];omega
   ·obtain rfl:k=l.length:=aj
    rw[bK] at I;have d:=C4 _ _ _ _ I Eb (by simp[H7,U6];omega);have g:=ah u;clear u I;go_wp2_with fail
    refine d.mono ?_;rintro e O ⟨x,rfl,N,p⟩;have c:Ext w O:=Below.trans g.out (p.mono aj);have hd:([]++be 0 4++be f 8++be l.length 2++U3 l).drop 4=U8 f l:=rfl
    rw[hd] at N;clear d p g;have HO:=ah N;clear N;go_wp2;go_ret2
    exact⟨_,_,rfl,c,Or.inl ⟨o,rfl,H6 HO.out aj⟩⟩
def cnt(l:dV):Nat:=num ((l.drop 12).take 2)
def zX(l:dV)(i:Nat):Nat:=num ((l.drop (14+4*i)).take 4)
def pz(l:dV)(k:Nat):List Int:=(List.range k).map λi=>(zX l i:Int)
def Am(l:dV):Bool:=
 decide (14<=l.length)&&(decide (l.length=14+4*cnt l)&&(decide (crc (l.drop 4)=num (l.take 4))&&Q7 (pz l (cnt l))))
def bF(l:dV):Option (Nat×List Int):=
 if Am l=true then some (num ((l.drop 4).take 8),pz l (cnt l)) else none
theorem Is(l:dV)(k:Nat):pz l (k+1)=pz l k++[(zX l k:Int)]:=by simp[pz,nM]
theorem cN(l:dV)(k:Nat):(pz l k).length=k:=by simp[pz]
def nf(l:dV)(k:Nat):zX l k<4294967296:=O3 _ 4
def cnt_lt(l:dV):cnt l<65536:=O3 _ 2
theorem b5V(l:dV)(k:Nat):∀n∈pz l k,0<=n/\n<4294967296:=by intro n a;obtain⟨i,_,rfl⟩:=aQ.1 a;have:=nf l i;omega
theorem ZU{n:Int}(h:0<=n/\n<4294967296):(Lit.int .i64 n).wf=true:=by
 simp[Lit.wf,aI,bZ];refine⟨?_,?_⟩
 show-9223372036854775808<=n;omega
 show n<=9223372036854775807;omega
theorem X8{l:dV}(h:Am l=false):bF l=none:=by unfold bF;grind
theorem Xv{l:dV}(h:l.length<14\/l.length≠14+4*cnt l):Am l=false:=by
 unfold Am;obtain h|h:=h
 rw[aK aj];rfl
 grind
theorem J'{l:dV}(h:crc (l.drop 4)≠num (l.take 4)):Am l=false:=by unfold Am;grind
theorem JS{l:dV}(h:Q7 (pz l (cnt l))=false):Am l=false:=by unfold Am;grind
theorem E9{l:dV}(a:14<=l.length)(d:l.length=14+4*cnt l)(b:crc (l.drop 4)=num (l.take 4))(c:Q7 (pz l (cnt l))=true):
 bF l=some (num ((l.drop 4).take 8),pz l (cnt l)):=by
 unfold bF Am;grind
theorem rd3{l:dV}{m:Nat}{e s2:List UInt8×Bool}(e1:(m,e)=nT (l,false) 4)(c:(g,s2)=nT e 8)(b:(n,d)=nT s2 2):
 n<65536/\((l.length<14/\n=0/\d.2=true)\/(14<=l.length/\d=(l.drop 14,false)/\m=num (l.take 4)/\g=num ((l.drop 4).take 8)/\n=cnt l)):=by
 by_cases h:l.length<4
 rw[Ho h] at e1;injection e1 with _ e1;subst e1;rw[zA] at c;injection c with _ c;subst c;rw[zA] at b;injection b with a b;subst b;subst a;exact⟨aj,.inl ⟨aj,rfl,rfl⟩⟩
 rw[GR aj] at e1;injection e1 with j e1;subst e1;by_cases i:l.length<12
 rw[Ho iw] at c;injection c with _ c;subst c;rw[zA] at b;injection b with a b;subst b;subst a;exact⟨aj,.inl ⟨aj,rfl,rfl⟩⟩
 rw[GR iw] at c;injection c with f c;subst c;by_cases k:l.length<14
 rw[Ho iw] at b;injection b with a b;subst b;subst a;exact⟨aj,.inl ⟨aj,rfl,rfl⟩⟩
 rw[GR fU] at b;injection b with a b;simp at *;refine⟨?_,.inr ⟨aj,b,j,f,a⟩⟩;rw[a];exact O3 _ 2
def Gx(l:dV)(k:Nat)(s:List UInt8×Bool)(L:fC):Prop:=
 (s=(l.drop (14+4*k),false)/\14+4*k<=l.length/\L=pz l k)\/(s.2=true/\(l.length<14\/l.length<14+4*cnt l))
theorem Gx.step{l:dV}{k x:Nat}{s':List UInt8×Bool}(h:Gx l k s L)(c:s.2=false)(d:k<cnt l)(e:(x,s')=nT s 4):x<4294967296/\Gx l (k+1) s' (L++[(x:Int)]):=by
 obtain⟨rfl,f,rfl⟩|⟨h,_⟩:=h
 by_cases g:l.length<14+4*k+4
 rw[Ho iw] at e;injection e with b a;subst b;subst a;exact⟨aj,.inr ⟨rfl,.inr<|aj⟩⟩
 rw[GR iw] at e;injection e with b a;subst b;subst a;refine⟨O3 _ 4,.inl ⟨?_,aj,?_⟩⟩
 rw[oK];congr 2
 rw[Is];rfl
 grind
theorem Gx.all{l:dV}(h:Gx l (cnt l) s L)(a:s.2=false):s.1=l.drop (14+4*cnt l)/\14+4*cnt l<=l.length/\L=pz l (cnt l):=by
 obtain⟨rfl,c,b⟩|⟨h,_⟩:=h
 exact⟨rfl,c,b⟩
 grind
theorem Gx.bad{l:dV}{k:Nat}(h:Gx l k s L)(a:s.2=true):Am l=false:=by
 obtain⟨rfl,_⟩|⟨_,h⟩:=h
 cases a
 exact Xv<|aj
def mx(b B:Nat)(l:dV)(w:aB)(e:Ending)(w':aB):Prop:=e=.returned (.slice none 0 0)/\J4 w' b B l true/\Off b w w'
def mr(b B n:Nat)(l:dV)(w:aB)(e:Ending)(w':aB):Prop:=∃v,e=.returned v/\rY w' B v (l.take n)/\J4 w' b B (l.drop n) false/\Off b w w'
theorem c4V(b B n:Nat)(l:dV)(c:Bool)(w:aB)(h:J4 w b B l c)(r:c=true\/l.length<n):
 Calls prog 166 #[.pointer (some b),.int .u64 n] w (mx b B l w):=by
 obtain⟨v,i,f,k⟩:=h;have d:mx b B l w (.returned (.slice none 0 0)) (w.setCell ⟨b,1,none⟩ (.bool true)):=have g:=(Off.refl b w).setCell 1 _;⟨rfl,⟨v,ti i,f,k.below (g.below f)⟩,g⟩
 obtain⟨q,A,C,t⟩:=Qp i;clear i;obtain⟨⟨a,z,rfl,D,j,y⟩,s⟩:=k;have x:IntKind.u64.wrap (l.length:Int)=(l.length:Int):=yT
 clear j y s;by_cases e:c=true
 ·subst e;go_enter func166,ntmps166
  go_wp2;go_ret;exact d
 obtain rfl:c=false:=by simpa using e
 have u:=by simpa using r
 go_enter func166,ntmps166
 go_wp2;go_ret;exact d
theorem c4W(b B n:Nat)(l:dV)(w:aB)(h:J4 w b B l false)(r:n<=l.length):
 Calls prog 166 #[.pointer (some b),.int .u64 n] w (mr b B n l w):=by
 obtain⟨v,k,f,p⟩:=h;obtain⟨⟨a,c,rfl,L,y,H⟩,A⟩:=id p;obtain⟨E,z,I,C⟩:=Qp k;have D:IntKind.u64.wrap (l.length:Int)=(l.length:Int):=yT
 have G:¬l.length<n:=aj
 clear y H A;have e:∀u,rY w B u (l.drop n)->mr b B n l w (.returned (.slice a n n)) (w.setCell b u):=by intro u K;have o:Off b w (w.setCell b u):=(Off.refl b w).setCell 0 _;exact⟨_,rfl,(p.head n r).below (o.below f),⟨u,tl k,f,K.below (o.below f)⟩,o⟩
 have g:=p.sliced n l.length r (ak _);rw[bK] at g;by_cases hcn:c=n
 ·subst hcn;have m:=ah (by simpa using g);go_enter func166,ntmps166
  go_wp2;go_ret;simp_all
 ·have m:=ah (by simpa [hcn] using g:rY w B _ (l.drop n));go_enter func166,ntmps166
  go_wp2;go_ret;exact e _ m.out
def yr(b B:Nat)(m:Nat)(l:dV)(a:Bool)(w:aB)(e:Ending)(w':aB):Prop:=e=.returned (.int .u64 m)/\J4 w' b B l a/\Off b w w'
theorem b5W(b B n:Nat)(l:dV)(a:Bool)(w:aB)(h:J4 w b B l a)(j:a=true\/l.length<n):
 Calls prog 126 #[.pointer (some b),.int .u64 n] w (yr b B 0 l true w):=by
 go_enter func126,ntmps126
 go_wp2_with fail
 apply(c4V b B n l a w h j).mono;rintro e k ⟨rfl,f,g⟩;go_wp2;apply wp_loop_rounds 1;rw[rounds_succ];go_wp2;go_ret;trivial
theorem b5X(b B n:Nat)(l:dV)(w:aB)(h:J4 w b B l false)(A:n<=l.length)(K:n<=8):
 Calls prog 126 #[.pointer (some b),.int .u64 n] w (yr b B (num (l.take n)) (l.drop n) false w):=by
 go_enter func126,ntmps126
 go_wp2_with fail
 refine(c4W b B n l w h A).mono ?_;rintro e J ⟨v,rfl,⟨D,_⟩,s,E⟩;have o:(l.take n).length<=8:=Ea
 generalize l.take n=m at *;obtain⟨a,u,rfl,F,t,d⟩:=D.open;go_wp2;go_loop [5,7,12] (λc _ i=>∃k:Nat,k<=m.length/\i=.int .i64 k/\c=.int .u64 (num (m.take k))) (λ_ _ i=>m.length - (intOf i).toNat)
 case atStart=>exact⟨0,dD _,rfl,rfl⟩
 case round=>
  obtain⟨k,I,rfl,rfl⟩:=hrel;by_cases f:k<m.length
  obtain⟨M,rfl,L⟩:=d k f;have y:Hid (num (m.take (k+1))=num (m.take k)*256+m[k].toNat):=by
   have e:num (m.take (k+1))=num (m.take k)*256+m[k].toNat:=by rw[take_snoc m k f,wh]
   exact e
  have q:num (m.take k)<256^7:=aF (PX _) (kF aj Ea);clear d;generalize num (m.take k)=C at *;have G:=LQ m[k];generalize m[k]=x at *;have g:=q;clear q;go_wp2;go_round
  case rel=>refine⟨k+1,aj,iE,?_⟩;rw[y.out,mm g]
  case measure=>simp[intOf];omega
  go_wp2;go_ret;obtain rfl:k=m.length:=aj
  exact⟨aZ,s,E⟩
theorem cM(b B n:Nat)(s:List UInt8×Bool)(w:aB)(h:J4 w b B s.1 s.2)(d:n<=8):
 Calls prog 126 #[.pointer (some b),.int .u64 n] w (yr b B (nT s n).1 (nT s n).2.1 (nT s n).2.2 w):=by
 unfold nT;by_cases a:s.2=true\/s.1.length<n
 rw[if_pos a];exact b5W b B n _ _ w h a
 rw[if_neg a];have c:s.2=false:=fU
 rw[c] at h;exact b5X b B n _ w h aj d
end Go.Proofs.YtgpbhjjajpbeeaaGreatDoor
