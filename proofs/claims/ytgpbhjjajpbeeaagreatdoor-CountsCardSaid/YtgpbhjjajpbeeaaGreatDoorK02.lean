/- A part of what the last file proves. -/
import Derived.Test.YtgpbhjjajpbeeaaGreatDoorK01
import Derived.Conc.CrowdStepC2
import Derived.Conc.Beside
set_option linter.all false
set_option maxRecDepth 100000
set_option maxHeartbeats 2000000
namespace Go.Proofs.YtgpbhjjajpbeeaaGreatDoor
section
open Go.RowKit Go.Lib Pl
def Z6:Value:=.agg #[.int .u64 0,.string ⟨#[]⟩,.string ⟨#[]⟩,.bool false]
def a1w:Option Rec->Value
 | none=>.tuple #[Z6,.int .i64 0,Q6 3]
 | some r=>.tuple #[.agg #[.int .u64 r.seq,.string ⟨r.key.toArray⟩,.string ⟨r.val.toArray⟩,.bool r.del],.int .i64 r.size,.nilIface]
def c4q(r:Option Rec)(w:World)(e:Ending)(w':World):Prop:=e=.returned (a1w r)/\Ext w w'
theorem j6.set{w:World}{n:Nat}{t:TypeId}{cs:Array Value}(h:j6 w n t cs)(i:Nat)(u:Value):j6 (w.setCell ⟨n,i,none⟩ u) n t (cs.setIfInBounds i u):=by
 unfold j6 at *;simp[World.setCell,Array.getElem?_modify,h]
theorem j6.setOther{w:World}{n:Nat}{t:TypeId}{cs:Array Value}(h:j6 w n t cs){a:Addr}(ha:a.block≠n)(u:Value):j6 (w.setCell a u) n t cs:=
 (Below.heap_setCell _ _ _ _ (Ne.symm ha)).trans h
theorem j6.free{w:World}{n:Nat}{t:TypeId}{cs:Array Value}(h:j6 w n t cs)(i:Nat):w.frozen? ⟨n,i,none⟩=false:=by
 unfold j6 at h;simp[World.frozen?,h]
theorem Ext.setN{w w':World}(h:Ext w w'){a:Addr}(ha:w.heap.size<=a.block){u:Value}:Ext w (w'.setCell a u):=h.setCell (p:=a) ha u
theorem b3z(v:Value)(l:List UInt8)(w:World)(h:Bytes w v l):
 Calls Tryz.prog 71 #[v] w (c4q (dec l) w):=by
 obtain⟨⟨m1,s1⟩,e1⟩:∃p,p=rdN (l,false) 4:=⟨_,rfl⟩;obtain⟨⟨m2,s2⟩,e2⟩:∃p,p=rdN s1 8:=⟨_,rfl⟩;obtain⟨⟨fl,s3⟩,e3⟩:∃p,p=rdN s2 1:=⟨_,rfl⟩;obtain⟨⟨k,s4⟩,e4⟩:∃p,p=rdN s3 1:=⟨_,rfl⟩;obtain⟨⟨vl,s5⟩,e5⟩:∃p,p=rdN s4 2:=⟨_,rfl⟩;obtain⟨⟨key,s6⟩,e6⟩:∃p,p=rdT s5 k:=⟨_,rfl⟩;obtain⟨⟨val,s7⟩,e7⟩:∃p,p=rdT s6 vl:=⟨_,rfl⟩;obtain⟨hk,hvl,hall⟩:=c3M e1 e2 e3 e4 e5 e6 e7;have HA:=Lib.hid hall;clear hall;have E1:=Lib.hid e1;have E2:=Lib.hid e2;have E3:=Lib.hid e3;have E4:=Lib.hid e4;have E5:=Lib.hid e5;have E6:=Lib.hid e6;have E7:=Lib.hid e7;clear e1 e2 e3 e4 e5 e6 e7;obtain⟨a,cap,rfl,h1,h2,h3⟩:=id h;have HL:=Lib.hid (O3.of h);clear h h2 h3;go_enter Tryz.func71,Tryz.ntmps71
 go_wp2_with fail
 have x0:j6 (w.alloc (.cells #[.int .u64 0,.string ⟨#[]⟩,.string ⟨#[]⟩,.bool false] 111)) w.heap.size 111 #[.int .u64 0,.string ⟨#[]⟩,.string ⟨#[]⟩,.bool false]:=heap_alloc_new w _;have y0:j6 ((w.alloc (.cells #[.int .u64 0,.string ⟨#[]⟩,.string ⟨#[]⟩,.bool false] 111)).alloc (.cells #[.int .u64 0,.string ⟨#[]⟩,.string ⟨#[]⟩,.bool false] 111)) (w.heap.size+1) 111 #[.int .u64 0,.string ⟨#[]⟩,.string ⟨#[]⟩,.bool false]:=j6.new _ _ (by simp);have X:=(x0.alloc (.cells #[.int .u64 0,.string ⟨#[]⟩,.string ⟨#[]⟩,.bool false] 111)).alloc (.cells #[.slice a l.length cap,.bool false] 241);have Y:=y0.alloc (.cells #[.slice a l.length cap,.bool false] 241);have hEx:Ext w (((w.alloc (.cells #[.int .u64 0,.string ⟨#[]⟩,.string ⟨#[]⟩,.bool false] 111)).alloc (.cells #[.int .u64 0,.string ⟨#[]⟩,.string ⟨#[]⟩,.bool false] 111)).alloc (.cells #[.slice a l.length cap,.bool false] 241)):=(((Ext.refl w).new _).new _).new _;have hR:G9 (((w.alloc (.cells #[.int .u64 0,.string ⟨#[]⟩,.string ⟨#[]⟩,.bool false] 111)).alloc (.cells #[.int .u64 0,.string ⟨#[]⟩,.string ⟨#[]⟩,.bool false] 111)).alloc (.cells #[.slice a l.length cap,.bool false] 241)) (w.heap.size+1+1) w.heap.size l false:=by
  refine⟨.slice a l.length cap,?_,by omega,HL.out.below hEx⟩;exact j6.new _ _ (by simp)
 clear x0 y0;have c1:=a04 (w.heap.size+1+1) w.heap.size 4 (l,false) _ hR (by omega);rw[<-E1.out] at c1;refine c1.mono ?_;clear c1 hR;rintro e w1 ⟨rfl,hR,hb⟩;replace hEx:=Below.trans hEx (hb.mono (by omega));replace X:=X.below hb (by omega);replace Y:=Y.below hb (by omega);clear hb;go_wp2_with fail
 have c2:=a04 (w.heap.size+1+1) w.heap.size 8 s1 _ hR (by omega);rw[<-E2.out] at c2;refine c2.mono ?_;clear c2 hR;rintro e w2 ⟨rfl,hR,hb⟩;replace hEx:=Below.trans hEx (hb.mono (by omega));replace X:=X.below hb (by omega);replace Y:=Y.below hb (by omega);clear hb;have yc:w2.cell? ⟨w.heap.size+1,0,none⟩=some (.int .u64 0):=Y.cell 0;have yf:=Y.free 0;go_wp2_with fail
 clear yc yf;replace hR:=hR.set (a:=⟨w.heap.size+1,0,none⟩) (by simp) (by simp) (.int .u64 m2);replace X:=X.setOther (a:=⟨w.heap.size+1,0,none⟩) (by simp) (.int .u64 m2);replace Y:=Y.set 0 (.int .u64 m2);replace hEx:=hEx.setCell (p:=⟨w.heap.size+1,0,none⟩) (by simp) (.int .u64 m2);have c3:=a04 (w.heap.size+1+1) w.heap.size 1 s2 _ hR (by omega);rw[<-E3.out] at c3;refine c3.mono ?_;clear c3 hR;rintro e w3 ⟨rfl,hR,hb⟩;replace hEx:=Below.trans hEx (hb.mono (by omega));replace X:=X.below hb (by omega);replace Y:=Y.below hb (by omega);clear hb;go_wp2_with fail
 have c4:=a04 (w.heap.size+1+1) w.heap.size 1 s3 _ hR (by omega);rw[<-E4.out] at c4;refine c4.mono ?_;clear c4 hR;rintro e w4 ⟨rfl,hR,hb⟩;replace hEx:=Below.trans hEx (hb.mono (by omega));replace X:=X.below hb (by omega);replace Y:=Y.below hb (by omega);clear hb;go_wp2_with fail
 have c5:=a04 (w.heap.size+1+1) w.heap.size 2 s4 _ hR (by omega);rw[<-E5.out] at c5;refine c5.mono ?_;clear c5 hR;rintro e w5 ⟨rfl,hR,hb⟩;replace hEx:=Below.trans hEx (hb.mono (by omega));replace X:=X.below hb (by omega);replace Y:=Y.below hb (by omega);clear hb;go_wp2_with fail
 have c6:=b0f (w.heap.size+1+1) w.heap.size k s5 _ hR;rw[<-E6.out] at c6;refine c6.mono ?_;clear c6 hR;rintro e w6 ⟨rfl,hR,hb⟩;replace hEx:=Below.trans hEx (hb.mono (by omega));replace X:=X.below hb (by omega);replace Y:=Y.below hb (by omega);clear hb;go_wp2_with fail
 have c7:=b0f (w.heap.size+1+1) w.heap.size vl s6 _ hR;rw[<-E7.out] at c7;refine c7.mono ?_;clear c7 hR;rintro e w7 ⟨rfl,hR,hb⟩;replace hEx:=Below.trans hEx (hb.mono (by omega));replace X:=X.below hb (by omega);replace Y:=Y.below hb (by omega);clear hb;have yc1:w7.cell? ⟨w.heap.size+1,1,none⟩=some (.string ⟨#[]⟩):=Y.cell 1;have yc2:w7.cell? ⟨w.heap.size+1,2,none⟩=some (.string ⟨#[]⟩):=Y.cell 2;have yc3:w7.cell? ⟨w.heap.size+1,3,none⟩=some (.bool false):=Y.cell 3;have yf1:=Y.free 1;have yf2:=Y.free 2;have yf3:=Y.free 3;have xc0:w7.cell? ⟨w.heap.size,0,none⟩=some (.int .u64 0):=X.cell 0;have xc1:w7.cell? ⟨w.heap.size,1,none⟩=some (.string ⟨#[]⟩):=X.cell 1;have xc2:w7.cell? ⟨w.heap.size,2,none⟩=some (.string ⟨#[]⟩):=X.cell 2;have xc3:w7.cell? ⟨w.heap.size,3,none⟩=some (.bool false):=X.cell 3;have xf0:=X.free 0;have xf1:=X.free 1;have xf2:=X.free 2;have xf3:=X.free 3;have hwk:IntKind.i64.wrap (k:Int)=(k:Int):=IntWalk.i64_in _ (by omega);have hwv:IntKind.i64.wrap (vl:Int)=(vl:Int):=IntWalk.i64_in _ (by omega);obtain⟨rv,hr1,hr2,hr3⟩:=hR;obtain⟨rc0,rc1,rf0,rf1⟩:=a1q hr1;clear hr1 hr2 hr3 rf0 rf1 rc0;by_cases hbad:s7.2=true
 ·have hd:dec l=none:=by
   rcases HA.out with⟨_,h⟩|⟨h,_⟩
   ·unfold dec good;rw[decide_eq_false (by omega)];rfl
   ·rw[hbad] at h;cases h
  rw[hbad] at rc1;go_wp2;refine bodyPost_ret (v:=a1w none) ?_ rfl ⟨by rw[hd],?_⟩
  ·simp[results,Tryz.results71,go_sem,xc0,xc1,xc2,xc3,a1w,Z6,Q6]
  ·repeat' refine Ext.setN ?_ (by simp)
   exact hEx
 replace hbad:s7.2=false:=Bool.eq_false_iff.2 hbad;rw[hbad] at rc1;obtain⟨hlen,rfl,rfl,rfl,rfl,rfl,rfl,rfl⟩:16+p9 l+D6 l<=l.length/\m1=num (List.take 4 l)/\m2=num (List.take 8 (List.drop 4 l))/\fl=K3 l/\k=p9 l/\vl=D6 l/\key=List.take k (List.drop 16 l)/\val=List.take vl (List.drop (16+k) l):=by
  rcases HA.out with⟨h,_⟩|⟨_,h⟩
  ·rw[hbad] at h;cases h
  ·exact h
 have HD:good l=false->dec l=none:=by intro h;unfold dec;rw[h];rfl
 by_cases c1:1<K3 l
 ·have hd:dec l=none:=HD (by unfold good;rw[show decide (K3 l<=1)=false from decide_eq_false (by omega)];simp);go_wp2;refine bodyPost_ret (v:=a1w none) ?_ rfl ⟨by rw[hd],?_⟩
  ·simp[results,Tryz.results71,go_sem,xc0,xc1,xc2,xc3,a1w,Z6,Q6]
  ·repeat' refine Ext.setN ?_ (by simp)
   exact hEx
 by_cases c2:p9 l<1
 ·have hd:dec l=none:=HD (by unfold good;rw[show decide (1<=p9 l)=false from decide_eq_false (by omega)];simp);go_wp2;refine bodyPost_ret (v:=a1w none) ?_ rfl ⟨by rw[hd],?_⟩
  ·simp[results,Tryz.results71,go_sem,xc0,xc1,xc2,xc3,a1w,Z6,Q6]
  ·repeat' refine Ext.setN ?_ (by simp)
   exact hEx
 by_cases c3:16<p9 l
 ·have hd:dec l=none:=HD (by unfold good;rw[show decide (p9 l<=16)=false from decide_eq_false (by omega)];simp);go_wp2;refine bodyPost_ret (v:=a1w none) ?_ rfl ⟨by rw[hd],?_⟩
  ·simp[results,Tryz.results71,go_sem,xc0,xc1,xc2,xc3,a1w,Z6,Q6]
  ·repeat' refine Ext.setN ?_ (by simp)
   exact hEx
 by_cases c4:64<D6 l
 ·have hd:dec l=none:=HD (by unfold good;rw[show decide (D6 l<=64)=false from decide_eq_false (by omega)];simp);go_wp2;refine bodyPost_ret (v:=a1w none) ?_ rfl ⟨by rw[hd],?_⟩
  ·simp[results,Tryz.results71,go_sem,xc0,xc1,xc2,xc3,a1w,Z6,Q6]
  ·repeat' refine Ext.setN ?_ (by simp)
   exact hEx
 by_cases c5:K3 l=1/\0<D6 l
 ·have hd:dec l=none:=HD (by unfold good;rw[show decide (K3 l=1)=true from decide_eq_true (by omega),show decide (0<D6 l)=true from decide_eq_true (by omega)];simp);have hv0:=c5.2;have hf1:((K3 l:Int)==1)=true:=beq_iff_eq.2 (by omega);go_wp2;refine bodyPost_ret (v:=a1w none) ?_ rfl ⟨by rw[hd],?_⟩
  ·simp[results,Tryz.results71,go_sem,xc0,xc1,xc2,xc3,a1w,Z6,Q6]
  ·repeat' refine Ext.setN ?_ (by simp)
   exact hEx
 by_cases hf:K3 l=1
 ·have hv0:¬0<D6 l:=fun h=>c5 ⟨hf,h⟩;have hf1:((K3 l:Int)==1)=true:=beq_iff_eq.2 (by omega);have hsl:∀W:World,Below w.heap.size w W->Bytes W (.slice (a.map (fun x=>⟨x.block,x.off+4,none⟩)) (16+p9 l+D6 l - 4) (cap - 4)) ((l.take (16+p9 l+D6 l)).drop 4):=by
   intro W hW;have:=((HL.out.below hW).sliced 4 (16+p9 l+D6 l) (by omega) (by omega)).1;rw[if_neg (by omega)] at this;exact this
  have HS:=Lib.hid hsl;clear hsl;have hcap:16+p9 l+D6 l<=cap:=by omega
  have hm1:num (l.take 4)<4294967296:=I9 l 4;have hEx':Ext w (((w7.setCell ⟨w.heap.size+1,1,none⟩ (.string ⟨(List.take (p9 l) (List.drop 16 l)).toArray⟩)).setCell ⟨w.heap.size+1,2,none⟩ (.string ⟨(List.take (D6 l) (List.drop (16+p9 l) l)).toArray⟩)).setCell ⟨w.heap.size+1,3,none⟩ (.bool true)):=by
   repeat' refine Ext.setN ?_ (by simp)
   exact hEx
  have X':j6 (((w7.setCell ⟨w.heap.size+1,1,none⟩ (.string ⟨(List.take (p9 l) (List.drop 16 l)).toArray⟩)).setCell ⟨w.heap.size+1,2,none⟩ (.string ⟨(List.take (D6 l) (List.drop (16+p9 l) l)).toArray⟩)).setCell ⟨w.heap.size+1,3,none⟩ (.bool true)) w.heap.size 111 #[.int .u64 0,.string ⟨#[]⟩,.string ⟨#[]⟩,.bool false]:=by
   repeat' refine j6.setOther ?_ (by simp) _
   exact X
  have Y':j6 (((w7.setCell ⟨w.heap.size+1,1,none⟩ (.string ⟨(List.take (p9 l) (List.drop 16 l)).toArray⟩)).setCell ⟨w.heap.size+1,2,none⟩ (.string ⟨(List.take (D6 l) (List.drop (16+p9 l) l)).toArray⟩)).setCell ⟨w.heap.size+1,3,none⟩ (.bool true)) (w.heap.size+1) 111 #[.int .u64 (num ((l.drop 4).take 8)),.string ⟨(List.take (p9 l) (List.drop 16 l)).toArray⟩,.string ⟨(List.take (D6 l) (List.drop (16+p9 l) l)).toArray⟩,.bool true]:=
   ((Y.set 1 _).set 2 _).set 3 _
  go_wp2_with fail
  refine(b1v _ _ _ (HS.out _ hEx')).mono ?_;rintro e w8 ⟨rfl,hw⟩;rw[hw] at X' Y' hEx';clear hw X Y hEx;clear xc0 xc1 xc2 xc3 xf0 xf1 xf2 xf3 yc1 yc2 yc3 yf1 yf2 yf3;have xc0:=X'.cell 0;have xc1:=X'.cell 1;have xc2:=X'.cell 2;have xc3:=X'.cell 3;have xf0:=X'.free 0;have xf1:=X'.free 1;have xf2:=X'.free 2;have xf3:=X'.free 3;have yc0:=Y'.cell 0;have yc1:=Y'.cell 1;have yc2:=Y'.cell 2;have yc3:=Y'.cell 3;have hwc:IntKind.u64.wrap (crc ((l.take (16+p9 l+D6 l)).drop 4):Int)=(crc ((l.take (16+p9 l+D6 l)).drop 4):Int):=by
   have:=a3B ((l.take (16+p9 l+D6 l)).drop 4);rw[IntKind.wrap_u64];omega
  by_cases hcr:crc ((l.take (16+p9 l+D6 l)).drop 4)=num (l.take 4)
  ·have hcr':((crc ((l.take (16+p9 l+D6 l)).drop 4):Int) != (num (l.take 4):Int))=false:=by rw[bne,beq_iff_eq.2 (by omega)];rfl
   go_wp2;refine bodyPost_ret (v:=a1w (some ⟨num ((l.drop 4).take 8),(l.drop 16).take (p9 l),(l.drop (16+p9 l)).take (D6 l),true,16+p9 l+D6 l⟩)) ?_ rfl ⟨?_,?_⟩
   ·simp[results,Tryz.results71,go_sem,xc0,xc1,xc2,xc3,a1w,Z6,Q6]
   ·unfold dec;rw[if_pos (by unfold good;rw[decide_eq_true hlen,decide_eq_true hcr,decide_eq_true (show K3 l<=1 by omega),decide_eq_true (show 1<=p9 l by omega),decide_eq_true (show p9 l<=16 by omega),decide_eq_true (show D6 l<=64 by omega),decide_eq_false (show ¬0<D6 l by omega),Bool.and_false];rfl)];simp[hf]
   ·repeat' refine Ext.setN ?_ (by simp)
    exact hEx'
  ·have hcr':((crc ((l.take (16+p9 l+D6 l)).drop 4):Int) != (num (l.take 4):Int))=true:=by rw[bne,beq_eq_false_iff_ne.2 (by omega)];rfl
   have hd:dec l=none:=HD (by unfold good;rw[decide_eq_false hcr];simp);go_wp2;refine bodyPost_ret (v:=a1w none) ?_ rfl ⟨by rw[hd],?_⟩
   ·simp[results,Tryz.results71,go_sem,xc0,xc1,xc2,xc3,a1w,Z6,Q6]
   ·repeat' refine Ext.setN ?_ (by simp)
    exact hEx'
 ·have hf1:((K3 l:Int)==1)=false:=beq_eq_false_iff_ne.2 (by omega);have hsl:∀W:World,Below w.heap.size w W->Bytes W (.slice (a.map (fun x=>⟨x.block,x.off+4,none⟩)) (16+p9 l+D6 l - 4) (cap - 4)) ((l.take (16+p9 l+D6 l)).drop 4):=by
   intro W hW;have:=((HL.out.below hW).sliced 4 (16+p9 l+D6 l) (by omega) (by omega)).1;rw[if_neg (by omega)] at this;exact this
  have HS:=Lib.hid hsl;clear hsl;have hcap:16+p9 l+D6 l<=cap:=by omega
  have hm1:num (l.take 4)<4294967296:=I9 l 4;have hEx':Ext w (((w7.setCell ⟨w.heap.size+1,1,none⟩ (.string ⟨(List.take (p9 l) (List.drop 16 l)).toArray⟩)).setCell ⟨w.heap.size+1,2,none⟩ (.string ⟨(List.take (D6 l) (List.drop (16+p9 l) l)).toArray⟩)).setCell ⟨w.heap.size+1,3,none⟩ (.bool false)):=by
   repeat' refine Ext.setN ?_ (by simp)
   exact hEx
  have X':j6 (((w7.setCell ⟨w.heap.size+1,1,none⟩ (.string ⟨(List.take (p9 l) (List.drop 16 l)).toArray⟩)).setCell ⟨w.heap.size+1,2,none⟩ (.string ⟨(List.take (D6 l) (List.drop (16+p9 l) l)).toArray⟩)).setCell ⟨w.heap.size+1,3,none⟩ (.bool false)) w.heap.size 111 #[.int .u64 0,.string ⟨#[]⟩,.string ⟨#[]⟩,.bool false]:=by
   repeat' refine j6.setOther ?_ (by simp) _
   exact X
  have Y':j6 (((w7.setCell ⟨w.heap.size+1,1,none⟩ (.string ⟨(List.take (p9 l) (List.drop 16 l)).toArray⟩)).setCell ⟨w.heap.size+1,2,none⟩ (.string ⟨(List.take (D6 l) (List.drop (16+p9 l) l)).toArray⟩)).setCell ⟨w.heap.size+1,3,none⟩ (.bool false)) (w.heap.size+1) 111 #[.int .u64 (num ((l.drop 4).take 8)),.string ⟨(List.take (p9 l) (List.drop 16 l)).toArray⟩,.string ⟨(List.take (D6 l) (List.drop (16+p9 l) l)).toArray⟩,.bool false]:=
   ((Y.set 1 _).set 2 _).set 3 _
  go_wp2_with fail
  refine(b1v _ _ _ (HS.out _ hEx')).mono ?_;rintro e w8 ⟨rfl,hw⟩;rw[hw] at X' Y' hEx';clear hw X Y hEx;clear xc0 xc1 xc2 xc3 xf0 xf1 xf2 xf3 yc1 yc2 yc3 yf1 yf2 yf3;have xc0:=X'.cell 0;have xc1:=X'.cell 1;have xc2:=X'.cell 2;have xc3:=X'.cell 3;have xf0:=X'.free 0;have xf1:=X'.free 1;have xf2:=X'.free 2;have xf3:=X'.free 3;have yc0:=Y'.cell 0;have yc1:=Y'.cell 1;have yc2:=Y'.cell 2;have yc3:=Y'.cell 3;have hwc:IntKind.u64.wrap (crc ((l.take (16+p9 l+D6 l)).drop 4):Int)=(crc ((l.take (16+p9 l+D6 l)).drop 4):Int):=by
   have:=a3B ((l.take (16+p9 l+D6 l)).drop 4);rw[IntKind.wrap_u64];omega
  by_cases hcr:crc ((l.take (16+p9 l+D6 l)).drop 4)=num (l.take 4)
  ·have hcr':((crc ((l.take (16+p9 l+D6 l)).drop 4):Int) != (num (l.take 4):Int))=false:=by rw[bne,beq_iff_eq.2 (by omega)];rfl
   go_wp2;refine bodyPost_ret (v:=a1w (some ⟨num ((l.drop 4).take 8),(l.drop 16).take (p9 l),(l.drop (16+p9 l)).take (D6 l),false,16+p9 l+D6 l⟩)) ?_ rfl ⟨?_,?_⟩
   ·simp[results,Tryz.results71,go_sem,xc0,xc1,xc2,xc3,a1w,Z6,Q6]
   ·unfold dec;rw[if_pos (by unfold good;rw[decide_eq_true hlen,decide_eq_true hcr,decide_eq_true (show K3 l<=1 by omega),decide_eq_true (show 1<=p9 l by omega),decide_eq_true (show p9 l<=16 by omega),decide_eq_true (show D6 l<=64 by omega),decide_eq_false hf];rfl)];simp[hf]
   ·repeat' refine Ext.setN ?_ (by simp)
    exact hEx'
  ·have hcr':((crc ((l.take (16+p9 l+D6 l)).drop 4):Int) != (num (l.take 4):Int))=true:=by rw[bne,beq_eq_false_iff_ne.2 (by omega)];rfl
   have hd:dec l=none:=HD (by unfold good;rw[decide_eq_false hcr];simp);go_wp2;refine bodyPost_ret (v:=a1w none) ?_ rfl ⟨by rw[hd],?_⟩
   ·simp[results,Tryz.results71,go_sem,xc0,xc1,xc2,xc3,a1w,Z6,Q6]
   ·repeat' refine Ext.setN ?_ (by simp)
    exact hEx'
end
section
open Go.RowKit Go.Lib Pl
structure Off(g:Nat)(w w':World):Prop where
 os:w'.os=w.os
 tape:w'.tape=w.tape
 output:w'.output=w.output
 size:w'.heap.size=w.heap.size
 block:∀k,k≠g->w'.heap[k]?=w.heap[k]?
theorem Off.refl(g:Nat)(w:World):Off g w w:=⟨rfl,rfl,rfl,rfl,fun _ _=>rfl⟩
theorem Off.trans{g:Nat}{a b c:World}(h:Off g a b)(k:Off g b c):Off g a c:=
 ⟨k.os.trans h.os,k.tape.trans h.tape,k.output.trans h.output,k.size.trans h.size,fun i hi=>(k.block i hi).trans (h.block i hi)⟩
theorem Off.setCell{g:Nat}{w w':World}(h:Off g w w')(i:Nat)(u:Value):Off g w (w'.setCell ⟨g,i,none⟩ u):=by
 refine h.trans ⟨rfl,rfl,rfl,by simp[World.setCell],fun k hk=>?_⟩;simp[World.setCell,Array.getElem?_modify,Ne.symm hk]
theorem Off.below{g B:Nat}{w w':World}(h:Off g w w')(hB:B<=g):Below B w w':=
 ⟨h.os,h.tape,h.output,Nat.le_of_eq h.size.symm,fun k hk=>h.block k (by omega)⟩
theorem Off.box{g n:Nat}{w w':World}(h:Off g w w'){t:TypeId}{cs:Array Value}(hb:j6 w n t cs)(hn:n≠g):j6 w' n t cs:=(h.block n hn).trans hb
end
end Go.Proofs.YtgpbhjjajpbeeaaGreatDoor
namespace Go.Mc
section
open Go.Conc
inductive Tr:Type where
 | leaf:Tr
 | node (f:World->Tr):Tr
inductive a2I:Tr->Tr->Prop
 | mk (f:World->Tr) (w:World):a2I (f w) (.node f)
theorem a2I.wf:WellFounded a2I:=⟨fun T=>by
 induction T with
 | leaf=>exact⟨_,fun y h=>by cases h⟩
 | node f ih=>exact⟨_,fun y h=>by cases h with|mk _ w=>exact ih w⟩⟩
def a6x(n:Nat)(T' T:Nat->Tr):Prop:=∃i,i<n/\a2I (T' i) (T i)/\∀k,k≠i->T' k=T k
theorem a6x.acc(n:Nat):∀T:Nat->Tr,Acc (a6x n) T:=by
 induction n with
 | zero=>exact fun T=>⟨_,fun y h=>by obtain⟨i,hi,_⟩:=h;omega⟩
 | succ n ih=>
  have key:∀(x:Tr),Acc a2I x->∀T:Nat->Tr,Acc (a6x n) T->T n=x->Acc (a6x (n+1)) T:=by
   intro x hx
   induction hx with
   | intro x _ ihx=>
    intro T hT
    induction hT with
    | intro T _ ihT=>
     intro e;refine⟨_,fun T' h=>?_⟩;obtain⟨i,hi,hlt,hk⟩:=h;by_cases hin:i=n
     ·subst hin;exact ihx (T' i) (e▸hlt) T' (ih T') rfl
     ·exact ihT T' ⟨i,by omega,hlt,hk⟩ ((hk n (Ne.symm hin)).trans e)
  exact fun T=>key (T n) (a2I.wf.apply _) T (ih T) rfl
structure Mu where
 S:Nat
 T:Nat->Tr
 T0:Tr
 e:Nat
inductive a3g(n:Nat):Mu->Mu->Prop
 | stage (a b:Mu) (h:a.S<b.S):a3g n a b
 | worker (a b:Mu) (h:a.S=b.S) (hT:a6x n a.T b.T):a3g n a b
 | starter (a b:Mu) (h:a.S=b.S) (hT:a.T=b.T) (h0:a2I a.T0 b.T0):a3g n a b
 | blocks (a b:Mu) (h:a.S=b.S) (hT:a.T=b.T) (h0:a.T0=b.T0) (he:a.e<b.e):a3g n a b
theorem a3g.wf(n:Nat):WellFounded (a3g n):=⟨by
 have key:∀(s:Nat),∀(T:Nat->Tr),Acc (a6x n) T->∀(x:Tr),Acc a2I x->∀e:Nat,Acc (a3g n) ⟨s,T,x,e⟩:=by
  intro s
  induction s using Nat.strongRecOn with
  | _ s ihs=>
   intro T hT
   induction hT with
   | intro T _ ihT=>
    intro x hx
    induction hx with
    | intro x _ ihx=>
     intro e
     induction e using Nat.strongRecOn with
     | _ e ihe=>
      refine⟨_,fun y h=>?_⟩;obtain⟨s',T',x',e'⟩:=y
      cases h with
      | stage h=>exact ihs s' h T' (a6x.acc n T') x' (a2I.wf.apply _) e'
      | worker h hT'=>
       dsimp only at h;subst h
       exact ihT T' hT' x' (a2I.wf.apply _) e'
      | starter h hT' h0=>
       dsimp only at h hT' h0;subst h;subst hT'
       exact ihx x' h0 e'
      | blocks h hT' h0 he=>
       dsimp only at h hT' h0 he;subst h;subst hT';subst h0;exact ihe e' he
 exact fun⟨s,T,x,e⟩=>key s T (a6x.acc n T) x (a2I.wf.apply _) e⟩
section
variable{γ:Type}(P:Program)(main:Bool)(R:γ->World->World->Prop)(D:γ->γ->World->World->Array Event->Prop)(Stop:γ->Goroutine->World->Prop)
def Wk:Tr->γ->Goroutine->World->Prop
 | .leaf,x,g,w=>∀w₁,R x w w₁->Stop x g w₁
 | .node f,x,g,w=>(∀w₁,R x w w₁->Stop x g w₁)\/(g.status=.running/\∀w₁,R x w w₁->∃g' w' es x',stepG P main g w₁=.go g' w' es/\D x x' w₁ w' es/\Wk (f w₁) x' g' w')
end
section
variable{γ:Type}{P:Program}{main:Bool}{R:γ->World->World->Prop}{D:γ->γ->World->World->Array Event->Prop}{Stop:γ->Goroutine->World->Prop}
theorem Wk.stop{T:Tr}{x:γ}{g:Goroutine}{w:World}(h:∀w₁,R x w w₁->Stop x g w₁):Wk P main R D Stop T x g w:=by
 cases T with
 | leaf=>exact h
 | node f=>exact .inl h
theorem Wk.rely(tr:∀x a b c,R x a b->R x b c->R x a c){T:Tr}{x:γ}{g:Goroutine}{w w₁:World}(h:Wk P main R D Stop T x g w)(hr:R x w w₁):Wk P main R D Stop T x g w₁:=by
 cases T with
 | leaf=>exact fun w₂ h₂=>h w₂ (tr _ _ _ _ hr h₂)
 | node f=>
  rcases h with h|⟨hs,h⟩
  ·exact .inl fun w₂ h₂=>h w₂ (tr _ _ _ _ hr h₂)
  ·exact .inr ⟨hs,fun w₂ h₂=>h w₂ (tr _ _ _ _ hr h₂)⟩
theorem Wk.running(hst:∀x g w,Stop x g w->g.status=.running){T:Tr}{x:γ}{g:Goroutine}{w:World}(hr:R x w w)(h:Wk P main R D Stop T x g w):g.status=.running:=by
 cases T with
 | leaf=>exact hst _ _ _ (h w hr)
 | node f=>exact h.elim (fun h=>hst _ _ _ (h w hr)) (·.1)
theorem Wk.cases{T:Tr}{x:γ}{g:Goroutine}{w:World}(h:Wk P main R D Stop T x g w):
 (∀w₁,R x w w₁->Stop x g w₁)\/∀w₁,R x w w₁->∃T' g' w' es x',a2I T' T/\stepG P main g w₁=.go g' w' es/\D x x' w₁ w' es/\Wk P main R D Stop T' x' g' w':=by
 cases T with
 | leaf=>exact .inl h
 | node f=>
  refine h.imp id fun h w₁ hr=>?_;obtain⟨g',w',es,x',h1,h2,h3⟩:=h.2 w₁ hr;exact⟨f w₁,g',w',es,x',.mk f w₁,h1,h2,h3⟩
theorem Wk.step{x:γ}{g:Goroutine}{w:World}(hs:g.status=.running)(h:∀w₁,R x w w₁->∃g' w' es x' T,stepG P main g w₁=.go g' w' es/\D x x' w₁ w' es/\Wk P main R D Stop T x' g' w'):∃T,Wk P main R D Stop T x g w:=by
 classical
 have:∀w₁,∃T,R x w w₁->∃g' w' es x',stepG P main g w₁=.go g' w' es/\D x x' w₁ w' es/\Wk P main R D Stop T x' g' w':=fun w₁=>by
  by_cases hr:R x w w₁
  ·obtain⟨g',w',es,x',T,h1⟩:=h w₁ hr;exact⟨T,fun _=>⟨g',w',es,x',h1⟩⟩
  ·exact⟨.leaf,fun h=>absurd h hr⟩
 refine⟨.node fun w₁=>Classical.choose (this w₁),.inr ⟨hs,fun w₁ hr=>Classical.choose_spec (this w₁) hr⟩⟩
theorem Wk.bind{Stop':γ->Goroutine->World->Prop}(hR:∀x w,R x w w)(tr:∀x a b c,R x a b->R x b c->R x a c){T:Tr}:∀{x:γ}{g:Goroutine}{w:World},Wk P main R D Stop T x g w->
 (∀x g w,Stop x g w->∃T',Wk P main R D Stop' T' x g w)->∃T',Wk P main R D Stop' T' x g w:=by
 induction T with
 | leaf=>exact fun h k=>k _ _ _ (h _ (hR _ _))
 | node f ih=>
  intro x g w h k;rcases h with h|⟨hs,h⟩
  ·exact k _ _ _ (h _ (hR _ _))
  ·refine Wk.step hs fun w₁ hr=>?_;obtain⟨g',w',es,x',h1,h2,h3⟩:=h w₁ hr;obtain⟨T',h4⟩:=ih w₁ h3 k;exact⟨g',w',es,x',T',h1,h2,h4⟩
theorem Wk.ofGoes{R0:World->World->Prop}{D0:World->World->Array Event->Prop}{Stop0:Goroutine->World->Prop}(x:γ)(hRR:∀w w',R x w w'->R0 w w')(hDD:∀w w' es,D0 w w' es->D x x w w' es)(hS:∀g w,Stop0 g w->Stop x g w):
 ∀{n:Nat}{g:Goroutine}{w:World},Goes P main R0 D0 Stop0 n g w->∃T,Wk P main R D Stop T x g w
 | 0,g,w,h=>⟨.leaf,fun w₁ hr=>hS _ _ (h w₁ (hRR _ _ hr))⟩
 | n+1,g,w,h=>by
  rcases h with h|⟨hs,h⟩
  ·exact⟨.leaf,fun w₁ hr=>hS _ _ (h w₁ (hRR _ _ hr))⟩
  ·refine Wk.step hs fun w₁ hr=>?_;obtain⟨g',w',es,e,hd,hn⟩:=goes_elim (h w₁ (hRR _ _ hr));obtain⟨T,hT⟩:=Wk.ofGoes x hRR hDD hS hn;exact⟨g',w',es,x,T,e,hDD _ _ _ hd,hT⟩
end
end
section
open Go.Conc Go.ConcN
section
variable(c:Nat)(Sh Old:Loc->Prop)(Own Rd:Nat->Loc->Prop)
structure Apart:Prop where
 own:∀i k l,Own i l->Own k l->i=k
 ownRd:∀i k l,Own i l->¬Rd k l
 ownSh:∀i l,Own i l->¬Sh l
 rdSh:∀i l,Rd i l->¬Sh l
 ownOld:∀i l,Own i l->¬Old l
 rdOld:∀i l,Rd i l->¬Old l
 shOld:∀l,Sh l->¬Old l
structure CT(t:Trace)(j:Nat):Prop where
 quiet:Quiet Sh t
 own:∀i,i<j->∀l,Own i l->Perm t (c+i) l
 rd:∀i,i<j->∀l,Rd i l->PermW t (c+i) l
 free:∀l,¬Sh l->¬Old l->(∀i,i<j->¬Own i l/\¬Rd i l)->Perm t 0 l
 mine:∀l,¬Sh l->¬Old l->(∀i,i<j->¬Own i l)->PermW t 0 l
 nr:∀said,¬Race said t
 gs:∀(i:Nat)(op:MemOp),t[i]?=some op->op.g<c+j
def Ok0(j:Nat)(op:MemOp):Prop:=
 op.g=0/\∀x,op.act.touch?=some x->(Sh x.loc/\x.kind≠.plain)\/(¬Sh x.loc/\¬Old x.loc/\(∀i,i<j->¬Own i x.loc)/\(x.write=true->∀i,i<j->¬Rd i x.loc))
def OkW(i:Nat)(op:MemOp):Prop:=
 op.g=c+i/\∀x,op.act.touch?=some x->(Sh x.loc/\x.kind≠.plain/\x.kind≠.said)\/Own i x.loc\/(Rd i x.loc/\x.write=false)
end
section
variable{c:Nat}{Sh Old:Loc->Prop}{Own Rd:Nat->Loc->Prop}{t u:Trace}{j:Nat}
theorem CT.app0(hc:0<c)(A:Apart Sh Old Own Rd)(h:CT c Sh Old Own Rd t j)(hu:∀op∈u,Ok0 Sh Old Own Rd j op):CT c Sh Old Own Rd (t++u) j:=by
 refine⟨h.quiet.app fun op hop x hx hs=>?_,fun i ij l hl=>(h.own i ij l hl).app fun op hop b hb e=>?_,fun i ij l hl=>(h.rd i ij l hl).app fun op hop b hb e hw=>?_,
  fun l hs ho hl=>(h.free l hs ho hl).app fun op hop _ _ _=>(hu op hop).1,fun l hs ho hl=>(h.mine l hs ho hl).app fun op hop _ _ _ _=>(hu op hop).1,fun said=>?_,fun i op hi=>?_⟩
 ·rcases(hu op hop).2 x hx with⟨_,hk⟩|⟨hn,_⟩
  ·exact⟨hk,fun _=>(hu op hop).1⟩
  ·exact absurd hs hn
 ·rcases(hu op hop).2 b hb with⟨hs,_⟩|⟨_,_,hn,_⟩
  ·exact absurd (e▸hs) (A.ownSh i l hl)
  ·exact absurd (e▸hl) (hn i ij)
 ·rcases(hu op hop).2 b hb with⟨hs,_⟩|⟨_,_,_,hn⟩
  ·exact absurd (e▸hs) (A.rdSh i l hl)
  ·exact absurd (e▸hl) (hn hw i ij)
 ·refine noRace_append (h.nr said) (fun op hop=>(hu op hop).1) (fun i a ha op hop b hb hc=>?_);rcases(hu op hop).2 b hb with⟨hs,hk⟩|⟨hs,ho,hno,hnr⟩
  ·exact h.quiet.known hs hk (fun _=>rfl) i a ha hc
  ·cases hbw:b.write with
   | true=>exact h.free b.loc hs ho (fun k kj=>⟨hno k kj,hnr hbw k kj⟩) i a ha hc.1
   | false=>exact h.mine b.loc hs ho hno i a ha hc.1 (hc.2.2.1.resolve_right (by simp[hbw]))
 ·rcases getElem?_append_cases hi with⟨_,hi'⟩|⟨_,hiu⟩
  ·exact h.gs i op hi'
  ·rw[(hu op hiu).1];omega
theorem CT.appW(A:Apart Sh Old Own Rd)(h:CT c Sh Old Own Rd t j){i:Nat}(ij:i<j)(hu:∀op∈u,OkW c Sh Own Rd i op):CT c Sh Old Own Rd (t++u) j:=by
 refine⟨h.quiet.app fun op hop x hx hs=>?_,fun i' ij' l hl=>(h.own i' ij' l hl).app fun op hop b hb e=>?_,fun i' ij' l hl=>(h.rd i' ij' l hl).app fun op hop b hb e hw=>?_,
  fun l hs ho hl=>(h.free l hs ho hl).app fun op hop b hb e=>?_,fun l hs ho hl=>(h.mine l hs ho hl).app fun op hop b hb e hw=>?_,fun said=>?_,fun k op hi=>?_⟩
 ·rcases(hu op hop).2 x hx with⟨_,hk,hn⟩|ho|⟨hr,_⟩
  ·exact⟨hk,fun e=>absurd e hn⟩
  ·exact absurd hs (A.ownSh i _ ho)
  ·exact absurd hs (A.rdSh i _ hr)
 ·rcases(hu op hop).2 b hb with⟨hs,_⟩|ho|⟨hr,_⟩
  ·exact absurd (e▸hs) (A.ownSh i' l hl)
  ·rw[(hu op hop).1,A.own i i' l (e▸ho) hl]
  ·exact absurd (e▸hr) (A.ownRd i' i l hl)
 ·rcases(hu op hop).2 b hb with⟨hs,_⟩|ho|⟨_,hr⟩
  ·exact absurd (e▸hs) (A.rdSh i' l hl)
  ·exact absurd hl (A.ownRd i i' l (e▸ho))
  ·rw[hr] at hw;cases hw
 ·rcases(hu op hop).2 b hb with⟨hs',_⟩|ho|⟨hr,_⟩
  ·exact absurd (e▸hs') hs
  ·exact absurd (e▸ho) (hl i ij).1
  ·exact absurd (e▸hr) (hl i ij).2
 ·rcases(hu op hop).2 b hb with⟨hs',_⟩|ho|⟨_,hr⟩
  ·exact absurd (e▸hs') hs
  ·exact absurd (e▸ho) (hl i ij)
  ·rw[hr] at hw;cases hw
 ·refine noRace_append (h.nr said) (fun op hop=>(hu op hop).1) (fun k a ha op hop b hb hc=>?_);rcases(hu op hop).2 b hb with⟨hs,hk,hn⟩|ho|⟨hr,hbw⟩
  ·exact h.quiet.known hs hk (fun e=>absurd e hn) k a ha hc
  ·exact h.own i ij b.loc ho k a ha hc.1
  ·exact h.rd i ij b.loc hr k a ha hc.1 (hc.2.2.1.resolve_right (by simp[hbw]))
 ·rcases getElem?_append_cases hi with⟨_,hi'⟩|⟨_,hiu⟩
  ·exact h.gs k op hi'
  ·rw[(hu op hiu).1];omega
theorem CT.appMute(h:CT c Sh Old Own Rd t j){g:Nat}(hg:g<c+j)(hu:∀op∈u,op.g=g)(hn:∀op∈u,op.act.touch?=none):CT c Sh Old Own Rd (t++u) j:=by
 have no:∀{op:MemOp}{b:Touch}{p:Prop},op∈u->op.act.touch?=some b->p:=fun hop hb=>by rw[hn _ hop] at hb;cases hb
 refine⟨h.quiet.app fun op hop x hx hs=>no hop hx,fun i ij l hl=>(h.own i ij l hl).app fun op hop b hb e=>no hop hb,fun i ij l hl=>(h.rd i ij l hl).app fun op hop b hb e hw=>no hop hb,
  fun l hs ho hl=>(h.free l hs ho hl).app fun op hop _ hb _=>no hop hb,fun l hs ho hl=>(h.mine l hs ho hl).app fun op hop _ hb _ _=>no hop hb,fun said=>?_,fun i op hi=>?_⟩
 ·exact noRace_append (h.nr said) hu (fun i a ha op hop b hb hc=>no hop hb)
 ·rcases getElem?_append_cases hi with⟨_,hi'⟩|⟨_,hiu⟩
  ·exact h.gs i op hi'
  ·rw[hu op hiu];exact hg
theorem CT.grow{Own':Nat->Loc->Prop}(h:CT c Sh Old Own Rd t j)(hm:∀i l,Own i l->Own' i l)(hn:∀i l,Own' i l->Own i l\/∀k a,touchAt t k=some a->a.loc≠l):CT c Sh Old Own' Rd t j:=by
 refine⟨h.quiet,fun i ij l hl=>?_,h.rd,fun l hs ho hl=>h.free l hs ho fun i ij=>⟨fun x=>(hl i ij).1 (hm i l x),(hl i ij).2⟩,fun l hs ho hl=>h.mine l hs ho fun i ij x=>hl i ij (hm i l x),h.nr,h.gs⟩;rcases hn i l hl with h1|h1
 ·exact h.own i ij l h1
 ·exact fun k a ha e=>absurd e (h1 k a ha)
theorem CT.fork(hc:0<c)(A:Apart Sh Old Own Rd)(h:CT c Sh Old Own Rd t j){x y:MemOp}(hx:x.g=0/\x.act=.go (c+j))(hy:y.g=c+j/\y.act=.start)(h0:Deaf t 0=0):CT c Sh Old Own Rd (t++#[x,y]) (j+1):=by
 have hk:Deaf t (c+j)=0:=Deaf_absent fun i op hi e=>by have:=h.gs i op hi;omega
 have hnt:∀op∈#[x,y],∀b,op.act.touch?=some b->False:=by
  intro op hop b hb;simp only[List.mem_toArray,List.mem_cons,List.not_mem_nil,or_false] at hop;rcases hop with rfl|rfl
  ·rw[hx.2] at hb;cases hb
  ·rw[hy.2] at hb;cases hb
 have old:∀{i:Nat}{a:Touch},touchAt (t++#[x,y]) i=some a->touchAt t i=some a:=by
  intro i a ha;obtain⟨z,hz,hza⟩:=touch_of ha;rcases getElem?_append_cases hz with⟨_,hz'⟩|⟨_,hzu⟩
  ·rw[touchAt_of hz'];exact hza
  ·exact(hnt z hzu a hza).elim
 refine⟨h.quiet.app fun op hop b hb _=>(hnt op hop b hb).elim,fun k kj l hl=>?_,fun k kj l hl=>?_,
  fun l hs ho hl=>(h.free l hs ho fun k kj=>hl k (by omega)).app fun op hop b hb _=>(hnt op hop b hb).elim,fun l hs ho hl=>(h.mine l hs ho fun k kj=>hl k (by omega)).app fun op hop b hb _ _=>(hnt op hop b hb).elim,fun said=>?_,fun i op hi=>?_⟩
 ·rcases Nat.lt_or_ge k j with hlt|hge
  ·exact(h.own k hlt l hl).app fun op hop b hb _=>(hnt op hop b hb).elim
  ·obtain rfl:k=j:=by omega
   exact fun i a ha e=>fork_knows hx hy h0 hk (h.free l (A.ownSh _ l hl) (A.ownOld _ l hl) (fun k' k'j=>⟨fun ho=>by have:=A.own _ _ l ho hl;omega,A.ownRd _ _ l hl⟩) i a (old ha) e)
 ·rcases Nat.lt_or_ge k j with hlt|hge
  ·exact(h.rd k hlt l hl).app fun op hop b hb _ _=>(hnt op hop b hb).elim
  ·obtain rfl:k=j:=by omega
   exact fun i a ha e hw=>fork_knows hx hy h0 hk (h.mine l (A.rdSh _ l hl) (A.rdOld _ l hl) (fun k' _ ho=>A.ownRd _ _ l ho hl) i a (old ha) e hw)
 ·have e:t++#[x,y]=(t++#[x])++#[y]:=by apply Array.ext';simp
  rw[e];refine noRace_append (g:=c+j) (noRace_append (g:=0) (h.nr said) (fun op hop=>by simp at hop;rw[hop];exact hx.1) (fun i a _ op hop b hb _=>(hnt op (by simp at hop⊢;exact .inl hop) b hb).elim))
   (fun op hop=>by simp at hop;rw[hop];exact hy.1) (fun i a _ op hop b hb _=>(hnt op (by simp at hop⊢;exact .inr hop) b hb).elim)
 ·rcases getElem?_append_cases hi with⟨_,hi'⟩|⟨_,hiu⟩
  ·have:=h.gs i op hi';omega
  ·simp only[List.mem_toArray,List.mem_cons,List.not_mem_nil,or_false] at hiu;rcases hiu with rfl|rfl
   ·rw[hx.1];omega
   ·rw[hy.1];omega
theorem a96{B:Nat}{act:MemAct}{x:Touch}(h:act.low B)(hx:act.touch?=some x):x.loc.low B:=by
 cases act with
 | access e=>simp only[MemAct.touch?,Option.some.injEq] at hx;subst hx;exact h
 | mark m=>
  cases m<;>simp only[MemAct.touch?] at hx<;>cases hx<;>exact h
 | _=>simp only[MemAct.touch?] at hx;cases hx
theorem CT.init{Shun:Loc->Prop}{B:Nat}(hc:0<c)(h:Past Shun B t)(hO:∀l,¬Old l->¬Shun l/\l.isMemory=true)(hS:∀l,Sh l->¬l.low B)(hg:∀(i:Nat)(op:MemOp),t[i]?=some op->op.g<c):CT c Sh Old Own Rd t 0:=by
 have kn:∀l,¬Old l->∀i a,touchAt t i=some a->a.loc=l->Knows t 0 i:=fun l hl i a ha e=>by
  rcases h.known i a ha (by rw[e];exact(hO l hl).2) with hk|⟨hk,_⟩
  ·exact hk
  ·exact absurd (e▸hk) (hO l hl).1
 refine⟨fun i op x hi hx hs=>?_,fun i ij=>by omega,fun i ij=>by omega,fun l _ ho _=>kn l ho,fun l _ ho _ i a ha e _=>kn l ho i a ha e,h.clean,fun i op hi=>by have:=hg i op hi;omega⟩;exfalso;refine hS _ hs ?_;have hlow:=h.seen op (Array.mem_of_getElem? hi);exact a96 hlow hx
structure Rel(Wg:Nat)(t:Trace)(k r:Nat):Prop extends RelBy (Go.ConcR.stA Wg) t k r where
 only:∀i a,r<i->t.g? i=some k->touchAt t i=some a->ShN Wg a.loc/\a.kind=.atomic
theorem Rel.appNot{Wg k r:Nat}(h:Rel Wg t k r)(hu:∀op∈u,op.g≠k):Rel Wg (t++u) k r:=by
 refine⟨h.toRelBy.appNot hu,fun i a hi hg ha=>?_⟩;obtain⟨op,ho,hog⟩:=Option.map_eq_some_iff.1 hg;rcases getElem?_append_cases ho with⟨hlt,_⟩|⟨_,hou⟩
 ·exact h.only i a hi (by rw[<-g?_old (u:=u) hlt];exact hg) (by rw[<-touchAt_old (u:=u) hlt];exact ha)
 ·exact absurd hog (hu op hou)
theorem Rel.new{Wg k:Nat}(hd:Deaf t k=0)(fn:FuncId)(pos:String):Rel Wg (t++MemOp.ofEvents k fn pos #[Go.ConcR.mk (.releaseMerge (Go.ConcR.stA Wg))]) k t.size:=by
 refine⟨RelBy.new hd fn pos,fun i a hi hg _=>?_⟩;obtain⟨op,ho,_⟩:=Option.map_eq_some_iff.1 hg;have:=lt_size_of_getElem? ho;rw[ofEvents_eq] at this;simp at this;omega
theorem Rel.book{Wg k r d:Nat}(h:Rel Wg t k r)(hdk:Deaf t k=d)(fn:FuncId)(pos:String){es:Array Event}(hes:∀e∈es,Go.ConcR.Bk Wg e)
 (hd:∀j e,es[j]?=some e->(MemAct.ofEvent e).touch?=none\/0<deafBehind d (es.extract 0 j)):Rel Wg (t++MemOp.ofEvents k fn pos es) k r:=by
 refine⟨h.toRelBy.book hdk fn pos hes hd,fun i a hi hg ha=>?_⟩;obtain⟨op,ho,hog⟩:=Option.map_eq_some_iff.1 hg;rcases getElem?_append_cases ho with⟨hlt,_⟩|⟨_,hou⟩
 ·exact h.only i a hi (by rw[<-g?_old (u:=MemOp.ofEvents k fn pos es) hlt];exact hg) (by rw[<-touchAt_old (u:=MemOp.ofEvents k fn pos es) hlt];exact ha)
 ·obtain⟨e,he,rfl⟩:=Go.Conc.mem_ofEvents hou;rw[touchAt_of ho] at ha;rcases hes e he with h1|h1|⟨ad,wr,rfl,hb⟩
  ·rw[Go.ConcR.ofEvent_loc_mark h1] at ha;cases ha
  ·rw[Go.ConcR.ofEvent_loc_mark h1] at ha;cases ha
  ·rw[Go.ConcR.ofEvent_cell] at ha;simp only[MemAct.touch?,Option.some.injEq] at ha;subst ha;exact⟨⟨ad,rfl,hb⟩,rfl⟩
end
theorem b9p{c j:Nat}{Sh Old:Loc->Prop}{Own Rd:Nat->Loc->Prop}{Wg B B':Nat}{Shun:Loc->Prop}{t0 u:Trace}(h0:Past Shun B t0)(hB:B<=B')(h:CT c Sh Old Own Rd (t0++u) j){q:Nat}
 (hu:∀op∈u,op.g=0\/op.act.touch?=none\/∃i,i<j/\op.g=c+i)(hn:NoRelease (Go.ConcR.stA Wg) (t0++u))(hq:(t0++u).act? q=some (.mark (.acquire (Go.ConcR.stA Wg))))(hg:(t0++u).g? q=some 0)(hh:(t0++u).heard q)
 (hr:∀i,i<j->∃r,Rel Wg (t0++u) (c+i) r/\r<q)(hd:Deaf (t0++u) 0=0)(hl:∀op∈u,op.act.low B'):Past (fun l=>Shun l\/ShN Wg l) B' (t0++u):=by
 have edge:∀i,i<j->∃r,Rel Wg (t0++u) (c+i) r/\HappensBefore (t0++u) r q:=fun i hi=>by
  obtain⟨r,hr,hrq⟩:=hr i hi;exact⟨r,hr,.single (.inr ⟨.marked hrq (.inr hr.act) hq (fun k _ _=>hn k),hr.heard,hh⟩)⟩
 obtain⟨zq,hzq,hzg⟩:=Option.map_eq_some_iff.1 hg;refine⟨h.nr,fun i a ha hm=>?_,fun i g hgi hne hc=>?_,hd,seen_app (fun op hop=>MemAct.low_mono hB (h0.seen op hop)) hl⟩
 ·obtain⟨x,hx,hxa⟩:=touch_of ha;rcases getElem?_append_cases hx with⟨hi,hx'⟩|⟨_,hxu⟩
  ·exact(h0.known i a (by rw[touchAt_of hx'];exact hxa) hm).imp (·.app u) fun y=>⟨.inl y.1,y.2⟩
  ·rcases hu x hxu with h1|h1|⟨k,hk,h1⟩
   ·have:=knows_own hx;rw[h1] at this;exact .inl this
   ·rw[h1] at hxa;cases hxa
   ·obtain⟨r,hr,he⟩:=edge k hk;have hgx:(t0++u).g? i=some (c+k):=by simp[Trace.g?,hx,h1]
    rcases Nat.lt_or_ge r i with hlt|hge
    ·obtain⟨h2,h3⟩:=hr.only i a hlt hgx ha;exact .inr ⟨.inr h2,h3⟩
    ·refine .inl ⟨q,zq,hzq,hzg,.inr ?_⟩;rcases Nat.lt_or_ge i r with h2|h2
     ·exact .trans (.single (.inl ⟨h2,c+k,hgx,hr.g⟩)) he
     ·obtain rfl:i=r:=by omega
      exact he
 ·obtain⟨x,hx,hxm⟩:=hc;obtain⟨op,hop,hox⟩:=touch_of hx;rcases getElem?_append_cases hop with⟨hi,hop'⟩|⟨_,hopu⟩
  ·obtain⟨p,hp,hb⟩:=h0.over i g (by simpa [Trace.g?,getElem?_append_old hi] using hgi) hne ((counts_old hi).1 ⟨x,hx,hxm⟩);have hpl:p<t0.size:=by
    unfold Trace.g? at hp;obtain⟨z,hz,_⟩:=Option.map_eq_some_iff.1 hp;exact lt_size_of_getElem? hz
   exact⟨p,by simpa [Trace.g?,getElem?_append_old hpl] using hp,hb_app u hb⟩
  ·have hgo:op.g=g:=by simpa [Trace.g?,hop] using hgi
   rcases hu op hopu with h1|h1|⟨k,hk,h1⟩
   ·exact absurd (hgo.symm.trans h1) hne
   ·rw[h1] at hox;cases hox
   ·obtain⟨r,hr,he⟩:=edge k hk;have hgx:(t0++u).g? i=some (c+k):=by rw[hgi,<-hgo,h1]
    rcases Nat.lt_or_ge r i with hlt|hge
    ·exact absurd ⟨x,hx,hxm⟩ (hr.after i hlt hgx)
    ·refine⟨q,hg,?_⟩;rcases Nat.lt_or_ge i r with h2|h2
     ·exact .trans (.single (.inl ⟨h2,c+k,hgx,hr.g⟩)) he
     ·obtain rfl:i=r:=by omega
      exact he
end
end Go.Mc
