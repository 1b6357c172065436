/- A part of what the last file proves. -/
import Derived.Test.YtgpbhjjajpbeeaaGreatDoorA16
import Derived.BigRegion
set_option linter.all false
set_option maxRecDepth 100000
set_option maxHeartbeats 2000000
open Go.Proofs.Tryz
namespace Go.Proofs.YtgpbhjjajpbeeaaGreatDoor
open Go.RowKit Go.Lib Pl Dk Go.Maps
variable{l:List Nat}{c f g k m r:Nat}{α β:Type}{v:aX}{T:dU}{n:Nm}{t:bT}
def yj:Value:=.agg #[.int .u64 0,.string ⟨#[]⟩,.string ⟨#[]⟩,.bool false,.int .i64 0]
def O5:Option Rec->Value
 | none=>.tuple #[yj,.bool false]
 | some r=>.tuple #[.agg #[.int .u64 r.seq,.string ⟨r.key.toArray⟩,.string ⟨r.val.toArray⟩,.bool r.del,.int .i64 r.size],.bool true]
def c42(r:Option Rec)(w:aB)(e:Ending)(w':aB):Prop:=e=.returned (O5 r)/\Ext w w'
theorem c6Y(b:UInt8):num [b]=b.toNat:=by simp[num]
theorem c8O{l:dV}(h:k<l.length):(l.drop k).take 1=[l[k]]:=by rw[gy h];rfl
theorem Bytes.at{w:aB}{ad:Addr}{cap:Nat}{l:dV}(h:Bytes w (.slice (some ad) l.length cap) l)(k:Nat)(hk:k<l.length):w.cell? (ad.add k)=some (.int .u8 (num ((l.drop k).take 1))):=by obtain⟨a',c,hv,h1,h2,h3⟩:=h;injection hv with ha;obtain⟨b,hb,hc⟩:=h3 (by intro e;simp at e;subst e;simp at hk);rw[hb] at ha;injection ha with ha;subst ha;rw[c8O hk,c6Y];exact hc k _ (by rw[dF,au hk];rfl)
theorem b1Y(v:aX)(l:dV)(w:aB)(h:Bytes w v l):
 Calls prog 125 #[v] w (c42 (dec l) w):=by
 have HD:good l=false->dec l=none:=by intro h;unfold dec;rw[h];rfl
 obtain⟨a,cap,rfl,h1,h2,h3⟩:=id h;clear h3;by_cases c0:l.length<16
 ·have hd:dec l=none:=HD (by unfold good;rw[aK aj];rfl);clear h;go_enter func125,ntmps125
  go_wp2;refine bodyPost_ret (v:=O5 none) ?_ rfl ⟨by first|rfl|rw[hd],?_⟩
  ·simp[results,results125,go_sem,O5,yj]
  ·exact((dh w).new _).new _
 obtain⟨ad,rfl⟩:∃ad,a=some ad:=by
  cases a with
  | none=>have:=h2.2 rfl;omega
  | some ad=>exact⟨ad,rfl⟩
 have hc12:w.cell? ⟨ad.block,ad.off+12,none⟩=some (.int .u8 (L6 l)):=h.at 12 aj;have hc13:w.cell? ⟨ad.block,ad.off+13,none⟩=some (.int .u8 (F5 l)):=h.at 13 aj;have HB:=ah h;clear h;have h16:16<=l.length:=aj
 have W6:F5 l<256:=O3 (l.drop 13) 1;have X2:L6 l<256:=O3 (l.drop 12) 1;have Wa:H9 l<65536:=O3 (l.drop 14) 2;have hm1:num (l.take 4)<4294967296:=O3 l 4;have hwk:IntKind.i64.wrap (F5 l:Int)=(F5 l:Int):=IntWalk.i64_in _ aj;have hwv:IntKind.i64.wrap (H9 l:Int)=(H9 l:Int):=IntWalk.i64_in _ aj;have hsl:∀W:aB,Ext w W->∀i j,0<i->i<=j->j<=l.length->i<cap->Bytes W (.slice (some ⟨ad.block,ad.off+i,none⟩) (j - i) (cap - i)) ((l.take j).drop i):=by
  intro W hW i j h0 hij hj hc;have:=(HB.out.ext hW).sliced i j hij hj;rw[if_neg aj] at this;have e:(some ad).map (·.add i)=some ⟨ad.block,ad.off+i,none⟩:=by show some (ad.add i)=_;unfold Addr.add;rw[if_neg aj]
  rw[e] at this;exact this
 have HS:=ah hsl;clear hsl;have hE0:Ext w ((w.alloc (.cells #[.int .u64 0,.string ⟨#[]⟩,.string ⟨#[]⟩,.bool false,.int .i64 0] 116)).alloc (.cells #[.int .u64 0,.string ⟨#[]⟩,.string ⟨#[]⟩,.bool false,.int .i64 0] 116)):=((dh w).new _).new _;have X:o6 ((w.alloc (.cells #[.int .u64 0,.string ⟨#[]⟩,.string ⟨#[]⟩,.bool false,.int .i64 0] 116)).alloc (.cells #[.int .u64 0,.string ⟨#[]⟩,.string ⟨#[]⟩,.bool false,.int .i64 0] 116)) w 116 #[.int .u64 0,.string ⟨#[]⟩,.string ⟨#[]⟩,.bool false,.int .i64 0]:=(jR _ _ rfl).alloc _;have Y:o6 ((w.alloc (.cells #[.int .u64 0,.string ⟨#[]⟩,.string ⟨#[]⟩,.bool false,.int .i64 0] 116)).alloc (.cells #[.int .u64 0,.string ⟨#[]⟩,.string ⟨#[]⟩,.bool false,.int .i64 0] 116)) (w+1) 116 #[.int .u64 0,.string ⟨#[]⟩,.string ⟨#[]⟩,.bool false,.int .i64 0]:=jR _ _ aZ;have nL:=hE0.cell hc12;have nF:=hE0.cell hc13;go_enter func125,ntmps125
 go_wp2_with fail
 refine(Y2 _ ((l.take 16).drop 14) _ (HS.out _ hE0 14 16 aj aj aj aj) iw).mono ?_;rintro e W ⟨rfl,hw⟩;rw[hw] at hE0 X Y nL nF;clear hw;have ev:num ((l.take 16).drop 14)=H9 l:=by unfold H9;rw[fZ]
 rw[ev];clear ev;have Qf:=Y.cell 0;have Q_:=Y.cell 1;have QZ:=Y.cell 2;have QY:=Y.cell 3;have yc4:=Y.cell 4;have xc0:=X.cell 0;have xf0:=X.free 0;have ny:=X.cell 1;have xf1:=X.free 1;have o_:=X.cell 2;have Rh:=X.free 2;have pY:=X.cell 3;have Rf:=X.free 3;have AV:=X.cell 4;have xf4:=X.free 4;by_cases c1:l.length<16+F5 l+H9 l
 ·have hd:dec l=none:=HD (by unfold good;rw[aK aj];rfl);go_wp2;refine bodyPost_ret (v:=O5 none) ?_ rfl ⟨by first|rfl|rw[hd],?_⟩
  ·simp[results,results125,go_sem,O5,yj,xc0,ny,o_,pY,AV]
  ·repeat' refine jP ?_ aZ
   exact hE0
 have hcap:16+F5 l+H9 l<=cap:=aj
 go_wp2_with fail
 refine(Xh _ ((l.take (16+F5 l+H9 l)).drop 4) _ (HS.out _ hE0 4 (16+F5 l+H9 l) aj aj aj aj)).mono ?_;rintro e W' ⟨rfl,rfl⟩;have hq:Bytes W (.slice (some ad) 4 cap) (l.take 4):=by have:=(HB.out.ext hE0).sliced 0 4 aj aj;rw[if_neg aj] at this;exact this
 go_wp2_with fail
 refine(Y2 _ (l.take 4) _ hq iw).mono ?_;rintro e W' ⟨rfl,rfl⟩;have hwc:IntKind.u64.wrap (crc ((l.take (16+F5 l+H9 l)).drop 4):Int)=(crc ((l.take (16+F5 l+H9 l)).drop 4):Int):=by have:=Ep ((l.take (16+F5 l+H9 l)).drop 4);rw[IntKind.wrap_u64];omega
 by_cases hcr:crc ((l.take (16+F5 l+H9 l)).drop 4)=num (l.take 4)
 case neg=>
  have rF:((num (l.take 4):Int) != (crc ((l.take (16+F5 l+H9 l)).drop 4):Int))=true:=IW
  have hd:dec l=none:=HD (by unfold good;rw[aK hcr];simp);go_wp2;refine bodyPost_ret (v:=O5 none) ?_ rfl ⟨by first|rfl|rw[hd],?_⟩
  ·simp[results,results125,go_sem,O5,yj,xc0,ny,o_,pY,AV]
  ·repeat' refine jP ?_ aZ
   exact hE0
 have rF:((num (l.take 4):Int) != (crc ((l.take (16+F5 l+H9 l)).drop 4):Int))=false:=IV
 by_cases c2:1<L6 l
 ·have hd:dec l=none:=HD (by unfold good;rw[show decide (L6 l<=1)=false from aK aj];simp);go_wp2;refine bodyPost_ret (v:=O5 none) ?_ rfl ⟨by first|rfl|rw[hd],?_⟩
  ·simp[results,results125,go_sem,O5,yj,xc0,ny,o_,pY,AV]
  ·repeat' refine jP ?_ aZ
   exact hE0
 by_cases c3:F5 l<1
 ·have hd:dec l=none:=HD (by unfold good;rw[show decide (1<=F5 l)=false from aK aj];simp);have hk0:((F5 l:Int)==0)=true:=fO.2 aj;go_wp2;refine bodyPost_ret (v:=O5 none) ?_ rfl ⟨by first|rfl|rw[hd],?_⟩
  ·simp[results,results125,go_sem,O5,yj,xc0,ny,o_,pY,AV]
  ·repeat' refine jP ?_ aZ
   exact hE0
 have hk0:((F5 l:Int)==0)=false:=bG.2 aj;by_cases c4:16<F5 l
 ·have hd:dec l=none:=HD (by unfold good;rw[show decide (F5 l<=16)=false from aK aj];simp);go_wp2;refine bodyPost_ret (v:=O5 none) ?_ rfl ⟨by first|rfl|rw[hd],?_⟩
  ·simp[results,results125,go_sem,O5,yj,xc0,ny,o_,pY,AV]
  ·repeat' refine jP ?_ aZ
   exact hE0
 by_cases c5:64<H9 l
 ·have hd:dec l=none:=HD (by unfold good;rw[show decide (H9 l<=64)=false from aK aj];simp);go_wp2;refine bodyPost_ret (v:=O5 none) ?_ rfl ⟨by first|rfl|rw[hd],?_⟩
  ·simp[results,results125,go_sem,O5,yj,xc0,ny,o_,pY,AV]
  ·repeat' refine jP ?_ aZ
   exact hE0
 by_cases c6:L6 l=1/\0<H9 l
 ·have hd:dec l=none:=HD (by unfold good;rw[show decide (L6 l=1)=true from aN c6.1,show decide (0<H9 l)=true from aN c6.2];simp);have hf1:((L6 l:Int)==1)=true:=fO.2 aj;have hv0:=c6.2;go_wp2;refine bodyPost_ret (v:=O5 none) ?_ rfl ⟨by first|rfl|rw[hd],?_⟩
  ·simp[results,results125,go_sem,O5,yj,xc0,ny,o_,pY,AV]
  ·repeat' refine jP ?_ aZ
   exact hE0
 by_cases hf:L6 l=1
 ·have hv0:¬0<H9 l:=λh=>c6 ⟨hf,h⟩;have hf1:((L6 l:Int)==1)=true:=fO.2 aj;have hdec:dec l=some ⟨num ((l.drop 4).take 8),(l.drop 16).take (F5 l),(l.drop (16+F5 l)).take (H9 l),true,16+F5 l+H9 l⟩:=by unfold dec;rw[if_pos (by unfold good;rw[aN (show 16+F5 l+H9 l<=l.length by omega),aN hcr,aN (show L6 l<=1 by omega),aN (show 1<=F5 l by omega),aN (show F5 l<=16 by omega),aN (show H9 l<=64 by omega),aK (show ¬0<H9 l by omega),NT];rfl)];simp[hf]
  go_wp2_with fail
  refine(Y2 _ ((l.take 12).drop 4) _ (HS.out _ hE0 4 12 aj aj aj aj) iw).mono ?_;rintro e W' ⟨rfl,rfl⟩;go_wp2_with fail
  have hE1:Ext w W.drew:=lI hE0 (gZ W 1);have hq1:=U5 (HS.out _ hE1 16 (16+F5 l) aj aj aj aj);have hq1':=U5 (HS.out _ hE1 16 (16+F5 l) aj aj aj aj);rw[show 16+F5 l - 16=F5 l by omega] at hq1;have hq2:=U5 ((HB.out.ext hE1).sliced (16+F5 l) (16+F5 l+H9 l) aj aj);by_cases hcc:cap=16+F5 l
  ·rw[if_pos hcc] at hq2;have vY:=hq2;rw[show 16+F5 l+H9 l - (16+F5 l)=H9 l by omega] at vY;have hcT:(cap=16+F5 l)=True:=eq_true hcc;clear hcc;go_region
   go_wp2;all_goals
    refine bodyPost_ret (v:=O5 (some ⟨num ((l.drop 4).take 8),(l.drop 16).take (F5 l),(l.drop (16+F5 l)).take (H9 l),true,16+F5 l+H9 l⟩)) ?_ rfl ⟨?_,?_⟩
    ·simp[results,results125,go_sem,O5,yj,xc0,ny,o_,pY,AV,fZ]
    ·first|rfl|rw[hdec]
    ·refine lI ?_ (gZ _ 1);repeat' refine jP ?_ aZ
     exact hE0
  ·rw[if_neg hcc] at hq2;have e:(some ad).map (·.add (16+F5 l))=some (ad.add (16+F5 l)):=rfl;rw[e] at hq2;have vY:=hq2;rw[show 16+F5 l+H9 l - (16+F5 l)=H9 l by omega] at vY;go_region
   go_wp2;all_goals
    refine bodyPost_ret (v:=O5 (some ⟨num ((l.drop 4).take 8),(l.drop 16).take (F5 l),(l.drop (16+F5 l)).take (H9 l),true,16+F5 l+H9 l⟩)) ?_ rfl ⟨?_,?_⟩
    ·simp[results,results125,go_sem,O5,yj,xc0,ny,o_,pY,AV,fZ]
    ·first|rfl|rw[hdec]
    ·refine lI ?_ (gZ _ 1);repeat' refine jP ?_ aZ
     exact hE0
 ·have hf1:((L6 l:Int)==1)=false:=bG.2 aj;have hdec:dec l=some ⟨num ((l.drop 4).take 8),(l.drop 16).take (F5 l),(l.drop (16+F5 l)).take (H9 l),false,16+F5 l+H9 l⟩:=by unfold dec;rw[if_pos (by unfold good;rw[aN (show 16+F5 l+H9 l<=l.length by omega),aN hcr,aN (show L6 l<=1 by omega),aN (show 1<=F5 l by omega),aN (show F5 l<=16 by omega),aN (show H9 l<=64 by omega),aK hf];rfl)];simp[hf]
  go_wp2_with fail
  refine(Y2 _ ((l.take 12).drop 4) _ (HS.out _ hE0 4 12 aj aj aj aj) iw).mono ?_;rintro e W' ⟨rfl,rfl⟩;go_wp2_with fail
  have hE1:Ext w W.drew:=lI hE0 (gZ W 1);have hq1:=U5 (HS.out _ hE1 16 (16+F5 l) aj aj aj aj);have hq1':=U5 (HS.out _ hE1 16 (16+F5 l) aj aj aj aj);rw[show 16+F5 l - 16=F5 l by omega] at hq1;have hq2:=U5 ((HB.out.ext hE1).sliced (16+F5 l) (16+F5 l+H9 l) aj aj);by_cases hcc:cap=16+F5 l
  ·rw[if_pos hcc] at hq2;have vY:=hq2;rw[show 16+F5 l+H9 l - (16+F5 l)=H9 l by omega] at vY;have hcT:(cap=16+F5 l)=True:=eq_true hcc;clear hcc;go_region
   go_wp2;all_goals
    refine bodyPost_ret (v:=O5 (some ⟨num ((l.drop 4).take 8),(l.drop 16).take (F5 l),(l.drop (16+F5 l)).take (H9 l),false,16+F5 l+H9 l⟩)) ?_ rfl ⟨?_,?_⟩
    ·simp[results,results125,go_sem,O5,yj,xc0,ny,o_,pY,AV,fZ]
    ·first|rfl|rw[hdec]
    ·refine lI ?_ (gZ _ 1);repeat' refine jP ?_ aZ
     exact hE0
  ·rw[if_neg hcc] at hq2;have e:(some ad).map (·.add (16+F5 l))=some (ad.add (16+F5 l)):=rfl;rw[e] at hq2;have vY:=hq2;rw[show 16+F5 l+H9 l - (16+F5 l)=H9 l by omega] at vY;go_region
   go_wp2;all_goals
    refine bodyPost_ret (v:=O5 (some ⟨num ((l.drop 4).take 8),(l.drop 16).take (F5 l),(l.drop (16+F5 l)).take (H9 l),false,16+F5 l+H9 l⟩)) ?_ rfl ⟨?_,?_⟩
    ·simp[results,results125,go_sem,O5,yj,xc0,ny,o_,pY,AV,fZ]
    ·first|rfl|rw[hdec]
    ·refine lI ?_ (gZ _ 1);repeat' refine jP ?_ aZ
     exact hE0
def jb(b:Bool)(w:aB)(e:Ending)(w':aB):Prop:=e=.returned (.bool b)/\∃n,w'=w.drewN n
theorem drewN_drewN(w:aB)(a b:Nat):(w.drewN a).drewN b=w.drewN (a+b):=by
 induction b with
 | zero=>rfl
 | succ b ih=>show((w.drewN a).drewN b).drew=(w.drewN (a+b)).drew;rw[ih]
theorem rq{l m:List α}(hk:k<l.length)(hm:k<m.length)(h:l[k]≠m[k]):l≠m:=by rintro rfl;exact h rfl
theorem If{l m:List α}(h:l.take k=m.take k)(hk:k<l.length)(hm:k<m.length)(e:l[k]=m[k]):l.take (k+1)=m.take (k+1):=by rw[take_snoc l k hk,take_snoc m k hm,h,e]
theorem c3V(v u:aX)(l m:dV)(w:aB)(h:Bytes w v l)(h':Bytes w u m):
 Calls prog 29 #[v,u] w (jb (decide (l=m)) w):=by
 obtain⟨a,cap,rfl,hc,hc',-⟩:=h.open;obtain⟨a2,cap2,rfl,hd,hd',-⟩:=h'.open;have H:=ah h;have H':=ah h';clear h h';by_cases hl:l.length=m.length
 ·have hl':((l.length:Int) != (m.length:Int))=false:=IV
  go_enter func29,ntmps29
  go_wp2;go_loopw [5] (λi w'=>∃k:Nat,k<=l.length/\i=.int .i64 k/\l.take k=m.take k/\∃n,w'=w.drewN n) (λi _=>l.length - (intOf i).toNat)
  case atStart=>exact⟨0,dD _,rfl,rfl,0,rfl⟩
  case round=>
   obtain⟨k,hk,rfl,ht,n,rfl⟩:=hrel;by_cases hlt:k<l.length
   ·have hx:=H.out.ext (gZ w n);have hy:=H'.out.ext (gZ w n);obtain⟨b,rfl,hb⟩:∃b,a=some b/\(w.drewN n).cell? (b.add k)=some (.int .u8 (l[k]).toNat):=by obtain⟨a',c',e,_,_,hf⟩:=hx.open;injection e with e1;subst e1;exact hf k hlt
    obtain⟨b2,rfl,hb2⟩:∃b,a2=some b/\(w.drewN n).cell? (b.add k)=some (.int .u8 (m[k]' aj).toNat):=by obtain⟨a',c',e,_,_,hf⟩:=hy.open;injection e with e1;subst e1;exact hf k aj
    clear hx hy;have hkm:k<m.length:=aj
    have Ht:=ah ht;clear ht;by_cases he:l[k]=m[k]
    ·have he':(((l[k]).toNat:Int) != ((m[k]).toNat:Int))=false:=by rw[bne,fO.2 (by rw[he])];rfl
     have Hn:Hid (l.take (k+1)=m.take (k+1)):=If Ht.out hlt hkm he;clear he;generalize hwn:w.drewN n=wn at *;go_wp2;go_quiet (fail)
     go_wp2;go_roundw
     case rel=>exact⟨k+1,aj,iE,Hn.out,n+nq,by rw[<-hwn,drewN_drewN]⟩
     case measure=>simp[intOf];omega
    ·have hne:((l[k]).toNat:Int)≠((m[k]).toNat:Int):=λe=>he (UInt8.toNat_inj.1 aj);have he':(((l[k]).toNat:Int) != ((m[k]).toNat:Int))=true:=by rw[bne,bG.2 hne];rfl
     clear hne;have Hd:Hid (l≠m):=rq hlt hkm he;clear he;generalize hwn:w.drewN n=wn at *;go_wp2;go_quiet (fail)
     go_wp2;go_ret;exact⟨by rw[aK Hd.out];rfl,n+nq,by rw[<-hwn,drewN_drewN]⟩
   ·go_wp2;go_ret;have:l=m:=by have h1:=bU (l:=l) (i:=k) aj;have h2:=bU (l:=m) (i:=k) aj;rw[<-h1,<-h2];exact ht
    exact⟨by rw[aN this];rfl,n,rfl⟩
 ·have hl':((l.length:Int) != (m.length:Int))=true:=IW
  go_enter func29,ntmps29
  go_wp2;go_ret;exact⟨by rw[aK (by rintro rfl;exact hl rfl)];rfl,0,rfl⟩
theorem a9u(v u:aX)(l m:fC)(w:aB)(h:Ints w v l)(h':Ints w u m):
 Calls prog 27 #[v,u] w (jb (decide (l=m)) w):=by
 obtain⟨a,cap,rfl,hc,hc',-⟩:=h.open;obtain⟨a2,cap2,rfl,hd,hd',-⟩:=h'.open;have H:=ah h;have H':=ah h';clear h h';by_cases hl:l.length=m.length
 ·have hl':((l.length:Int) != (m.length:Int))=false:=IV
  go_enter func27,ntmps27
  go_wp2;go_loopw [5] (λi w'=>∃k:Nat,k<=l.length/\i=.int .i64 k/\l.take k=m.take k/\∃n,w'=w.drewN n) (λi _=>l.length - (intOf i).toNat)
  case atStart=>exact⟨0,dD _,rfl,rfl,0,rfl⟩
  case round=>
   obtain⟨k,hk,rfl,ht,n,rfl⟩:=hrel;by_cases hlt:k<l.length
   ·have hx:=H.out.ext (gZ w n);have hy:=H'.out.ext (gZ w n);obtain⟨b,rfl,hb⟩:∃b,a=some b/\(w.drewN n).cell? (b.add k)=some (.int .i64 (l[k])):=by obtain⟨a',c',e,_,_,hf⟩:=hx.open;injection e with e1;subst e1;exact hf k hlt
    obtain⟨b2,rfl,hb2⟩:∃b,a2=some b/\(w.drewN n).cell? (b.add k)=some (.int .i64 (m[k]' aj)):=by obtain⟨a',c',e,_,_,hf⟩:=hy.open;injection e with e1;subst e1;exact hf k aj
    clear hx hy;have hkm:k<m.length:=aj
    have Ht:=ah ht;clear ht;by_cases he:l[k]=m[k]
    ·have he':(l[k] != m[k])=false:=by rw[bne,fO.2 he];rfl
     have Hn:Hid (l.take (k+1)=m.take (k+1)):=If Ht.out hlt hkm he;clear he;generalize hwn:w.drewN n=wn at *;go_wp2;go_quiet (fail)
     go_wp2;go_roundw
     case rel=>exact⟨k+1,aj,iE,Hn.out,n+nq,by rw[<-hwn,drewN_drewN]⟩
     case measure=>simp[intOf];omega
    ·have hne:l[k]≠m[k]:=he;have he':(l[k] != m[k])=true:=by rw[bne,bG.2 hne];rfl
     clear hne;have Hd:Hid (l≠m):=rq hlt hkm he;clear he;generalize hwn:w.drewN n=wn at *;go_wp2;go_quiet (fail)
     go_wp2;go_ret;exact⟨by rw[aK Hd.out];rfl,n+nq,by rw[<-hwn,drewN_drewN]⟩
   ·go_wp2;go_ret;have:l=m:=by have h1:=bU (l:=l) (i:=k) aj;have h2:=bU (l:=m) (i:=k) aj;rw[<-h1,<-h2];exact ht
    exact⟨by rw[aN this];rfl,n,rfl⟩
 ·have hl':((l.length:Int) != (m.length:Int))=true:=IW
  go_enter func27,ntmps27
  go_wp2;go_ret;exact⟨by rw[aK (by rintro rfl;exact hl rfl)];rfl,0,rfl⟩
theorem p_(n:Int)(w:aB):Calls prog 18 #[.int .i64 n] w λe w'=>e=.returned (.int .i64 n)/\w=w':=by
 go_enter func18,ntmps18
 go_wp2;go_ret;exact⟨rfl,rfl⟩
theorem b7h(seq:Nat)(k v:ByteArray)(d:Bool)(w:aB):
 Calls prog 48 #[PI seq k v d] w λe w'=>e=.returned (z_ seq k v d 0)/\Ext w w':=by
 unfold PI;go_enter func48,ntmps48
 go_wp2;refine bodyPost_ret (v:=z_ seq k v d 0) (by simp[results,results48,go_sem,z_]) rfl ⟨rfl,((dh w).new _).new _⟩
def zh(x:Nat->Value):Array Value:=#[x 0,x 1,x 2,x 3,x 4,x 5,x 6,x 7,x 8,x 9,x 10,x 11,x 12,x 13,x 14,x 15,x 16,x 17,x 18,x 19,x 20,x 21,x 22,x 23,x 24,x 25,x 26,x 27,x 28,x 29,x 30,x 31,x 32,x 33,x 34,x 35,x 36,x 37,x 38,x 39,x 40,x 41,x 42,x 43,x 44,x 45,x 46,x 47,x 48,x 49,x 50,x 51,x 52,x 53,x 54,x 55,x 56,x 57,x 58,x 59,x 60,x 61,x 62,x 63,x 64,x 65,x 66,x 67,x 68,x 69,x 70,x 71,x 72,x 73,x 74,x 75,x 76,x 77,x 78,x 79,x 80,x 81,x 82,x 83,x 84,x 85,x 86,x 87,x 88,x 89,x 90,x 91,x 92,x 93,x 94,x 95,x 96,x 97,x 98,x 99,x 100,x 101,x 102,x 103,x 104,x 105,x 106,x 107,x 108,x 109,x 110,x 111,x 112,x 113,x 114,x 115,x 116,x 117]
def up(x:Nat->Value)(k:Nat)(v:aX)(j:Nat):Value:=if j=k then v else x j
theorem c6c{x:Nat->Value}(h:x k=v):up x k v=x:=by unfold up;grind
theorem O8{A:(Nat->Value)->Array Value}{x:Nat->Value}(e:T=A x)(h:x k=v):T=A (up x k v):=by rw[c6c h];exact e
theorem I7(h:T[k]?=some v):T.getD k undef=v:=by simp_all
theorem ZP{A:(Nat->Value)->Array Value}{n:Nat}(a:∀x,A x=((List.range n).map x).toArray)(T:dU)(b:T.size=n):T=A (λk=>T.getD k undef):=by
 rw[a];apply Array.ext
 simp[b]
 simp_all
def c2K(x:Nat->Value):zh x=((List.range 118).map x).toArray:=rfl
def Dc(T:dU)(a:T.size=118):T=zh (λk=>T.getD k undef):=ZP c2K T a
def Dk.D.dR:List Int->D->List (List UInt8)->List (List UInt8)×Er×D
 | [],d,a=>(a,.ok,d)
 | id::c,d,a=>match d.whole (y7 D6 id.toNat) with
  | (b,.ok,f)=>D.dR c f (a++[b])
  | (_,e,f)=>(a,if e.code=11 then .file 7 (y7 D6 id.toNat) else e,f)
theorem EA{id:Int}{c:fC}{d d1:D}{a:fJ}{b:dV}(h:d.whole (y7 D6 id.toNat)=(b,.ok,d1)):D.dR (id::c) d a=D.dR c d1 (a++[b]):=by show(match d.whole _ with|(b,.ok,d1)=>D.dR c _ _|(_,e,d1)=>(a,if e.code=11 then .file 7 _ else e,d1))=_;rw[h]
theorem cQ{id:Int}{c:fC}{d d1:D}{a:fJ}{b:dV}{e:Er}(h:d.whole (y7 D6 id.toNat)=(b,e,d1))(f:e≠.ok):D.dR (id::c) d a=(a,if e.code=11 then .file 7 (y7 D6 id.toNat) else e,d1):=by show(match d.whole _ with|(b,.ok,d1)=>D.dR c _ _|(_,e,d1)=>(a,if e.code=11 then .file 7 _ else e,d1))=_;grind
structure xY(d d':D):Prop where
 now:d'.now=d.now
 safe:d'.safe=d.safe
 moves:d'.moves=d.moves
 room:d'.room=d.room
 ids:d'.ids=d.ids
 node:d'.node=d.node
def xY.refl(d:D):xY d d:=⟨rfl,rfl,rfl,rfl,rfl,rfl⟩
def xY.trans{a b c:D}(h:xY a b)(k:xY b c):xY a c:=⟨k.now.trans h.now,k.safe.trans h.safe,k.moves.trans h.moves,k.room.trans h.room,k.ids.trans h.ids,k.node.trans h.node⟩
def Dk.D.oC(d:D):xY d d.fails.2:=let ⟨f,e,c,b,g,a⟩:=d.lW;⟨f,e,c,b,g,a⟩
theorem Dk.D.rX(d:D)(n:Nm):xY d (d.find n).2.2:=by
 unfold D.find;split
 exact d.oC
 cases A7 _ n<;>exact d.oC
theorem Dk.D.rP(d:D)(n:Nm):xY d (d.size n).2.2:=by have h:=d.rX n;unfold D.size;grind
theorem Dk.D.uq(d:D)(n:Nm)(i k:Int):xY d (d.jF n i k).2.2:=by have h:=d.rX n;unfold D.jF;grind
theorem Dk.D.nY(d:D)(n:Nm):xY d (d.whole n).2.2:=by
 have h:=d.rP n;unfold D.whole;let⟨⟨k,e,a⟩,b⟩:∃r,d.size n=r:=⟨_,rfl⟩;rw[b] at h⊢
 cases e with
 | ok=>exact h.trans<|a.uq n 0 k
 | _=>exact h
theorem Dk.D.oU(d:D):xY d d.bF.2.2:=by have h:=d.nY y8;unfold D.bF;grind
theorem xj(w:aB)(a b:Nat):(w.drewN a).drewN b=w.drewN (a+b):=by simp
theorem Ints.at{w w':aB}{a:Option Addr}{cap:Nat}{l:fC}(h:Ints w (.slice a l.length cap) l)(c:Ext w w')(g:k<l.length):∃b,a=some b/\w'.cell? (b.add k)=some (.int .i64 (l[k])):=by let⟨j,i,e,_,_,d⟩:=(h.ext c).open;grind
theorem S3(v:aX)(l:fC)(w:aB)(h:Ints w v l):
 Calls prog 77 #[v] w λe w'=>e=.returned (.bool (Q7 l))/\∃n,w'=w.drewN n:=by
 obtain⟨a,M,rfl,hc,H,-⟩:=h.open;have B:=ah h;clear h;by_cases L:60<l.length
 ·have E:Q7 l=false:=by unfold Q7;rw[aK aj];rfl
  go_enter func77,ntmps77
  go_wp2;go_ret;exact⟨by first|rfl|(rw[E];rfl),0,rfl⟩
 have I:Hid (l.length<=60):=by
  have:l.length<=60:=aj
  exact this
 go_enter func77,ntmps77
 go_wp2;go_loopw [3,4] (λi _ z=>∃k:Nat,k<=l.length/\i=.int .i64 k/\LW l k/\∃n,z=w.drewN n) (λi _ _=>l.length - (intOf i).toNat)
 case atStart=>exact⟨0,dD _,rfl,⟨rfl,Na⟩,0,rfl⟩
 case round=>
  obtain⟨k,hk,rfl,hg,n,rfl⟩:=hrel;by_cases c:k<l.length
  ·obtain⟨b,rfl,D⟩:=B.out.at (gZ w n) c;have HG:=ah hg;clear hg;by_cases h1:l[k]<1
   ·have t:=cJ (x:=l[k]) c rfl (by unfold inRange;rw[aK aj];rfl);go_wp2;go_ret;exact⟨by first|rfl|(rw[t];rfl),n,rfl⟩
   by_cases h2:999999<l[k]
   ·have t:=cJ (x:=l[k]) c rfl (by unfold inRange;rw[aK (show ¬l[k]<=999999 by omega)];simp);go_wp2;go_ret;exact⟨by first|rfl|(rw[t];rfl),n,rfl⟩
   go_wp2;go_loopw [4] (λj z=>∃m:Nat,m<=k/\j=.int .i64 m/\l[k]∉l.take m/\∃n,z=w.drewN n) (λj _=>k - (intOf j).toNat)
   case atStart=>exact⟨0,dD _,rfl,aZ,n,rfl⟩
   case round=>
    obtain⟨m,hm,rfl,d,p,rfl⟩:=hrel;by_cases F:m<k
    ·obtain⟨K,eb,G⟩:=B.out.at (gZ w p) (k:=m) aj;injection eb with eb;subst eb;obtain⟨K,eb,hb2⟩:=B.out.at (gZ w p) c;injection eb with eb;subst eb;have C:=ah d;clear d;clear D;generalize s:w.drewN p=wn at *;have A:m<l.length:=aj
     by_cases o:l[m]=l[k]
     ·have he':((l[m]:Int)==l[k])=true:=fO.2 o;have t:=yz (x:=l[k]) c rfl (by rw[<-o];exact List.mem_take_iff_getElem.2 ⟨m,aj,rfl⟩);clear o;go_wp2;go_quiet (fail)
      go_wp2;go_ret;exact⟨by first|rfl|(rw[t];rfl),p+nq,by rw[<-s,xj]⟩
     ·have he':((l[m]:Int)==l[k])=false:=bG.2 o;have J:Hid (l[k]∉l.take (m+1)):=by
       have:l[k]∉l.take (m+1):=by
        rw[take_snoc l m A,aP];rintro(h|h)
        ·exact C.out h
        ·simp at h;exact o h.symm
       exact this
      clear o;go_wp2;go_quiet (fail)
      go_wp2;go_roundw
      case rel=>exact⟨m+1,aj,iE,J.out,p+nq,by rw[<-s,xj]⟩
      case measure=>simp[intOf];omega
    ·obtain rfl:m=k:=aj
     have C:=ah d;clear d;go_wp2;go_roundw
     case rel=>exact⟨m+1,aj,iE,PP HG.out c rfl (by unfold inRange;simp_all) C.out,p,rfl⟩
     case measure=>simp[intOf];omega
  ·go_wp2;go_ret;obtain rfl:k=l.length:=aj
   unfold LW at hg;rw[bK] at hg;refine⟨?_,n,rfl⟩;unfold Q7;simp_all
namespace Dk
variable{d:D}{a:fC}
def Ej(a:fC):List (Nm×Int):=a.foldl (λl k=>X4 l (y7 D6 k.toNat) 1) [(y8,1)]
theorem Eg(a:fC)(x:Int):Ej (a++[x])=X4 (Ej a) (y7 D6 x.toNat) 1:=by unfold Ej;simp
theorem b1I(a:fC)(x:Int)(n:Nm):X6 (a++[x]) n=(X6 a n||decide (y7 D6 x.toNat=n)):=by unfold X6;simp
theorem c6w{p:List α->Prop}(h0:p [])(h1:∀l x,p l->p (l++[x]))(l:List α):p l:=by
 have:∀k:List α,p k.reverse:=by
  intro k
  induction k with
  | nil=>exact h0
  | cons x k ih=>rw[List.reverse_cons];exact h1 _ _ ih
 have:=this l.reverse;rwa [List.reverse_reverse] at this
theorem b7b(a:fC)(n:Nm):A7 (Ej a) n=if (decide (n=y8)||X6 a n)=true then some 1 else none:=by
 induction a using c6w with
 | h0=>
  show A7 [(y8,1)] n=_;rw[Y5,AK];by_cases h:n=y8
  subst h;simp
  rw[if_neg (dI h),aK h];simp[X6]
 | h1 l x b=>
  rw[Eg,MN,b,b1I];by_cases h:n=y7 D6 x.toNat
  rw[if_pos h,aN h.symm];simp
  rw[if_neg h,aK<|dI h,Yt]
def D.kJ(d:D)(a:fC)(k:Nat):D:=(d.removeAll ((d.list.take k).filter λn=>!Z7 a n)).2
def D.vN(d:D)(a:fC):d.kJ a 0=d:=rfl
structure Sw(d:D)(ids:List Int)(k:Nat):Prop where
 ok:d.removeAll ((d.list.take k).filter λn=>!Z7 ids n)=(.ok,d.kJ ids k)
 now:(d.kJ ids k).now=H8 d.now (((d.list.take k).filter λn=>!Z7 ids n).map λn=>(n,none))
 moves:(d.kJ ids k).moves=d.moves++((d.list.take k).filter λn=>!Z7 ids n).map λn=>[(n,none)]
 calm:(d.kJ ids k).Calm
theorem D.Calm.sw(h:d.Calm)(g:(d.now.map (·.1)).Nodup)(a:fC)(k:Nat):Sw d a k:=by
 have c:=h.removeAll ((d.list.take k).filter λn=>!Z7 a n) (((BW g).sublist<|zF _ _).filter _) (λn f=>by have:=List.mem_of_mem_take (dQ.1 f).1;rwa [zu] at this)
 have e:d.kJ a k={d with now:=H8 d.now<|((d.list.take k).filter λn=>!Z7 a n).map λn=>(n,none),moves:=d.moves++((d.list.take k).filter λn=>!Z7 a n).map λn=>[(n,none)]}:=by unfold D.kJ;rw[c]
 exact⟨by rw[c,e],by rw[e],by rw[e],by rw[e];exact h⟩
theorem b0y(d:D)(l:List Nm)(n:Nm)(h:(d.removeAll l).1=.ok):d.removeAll (l++[n])=match (d.removeAll l).2.remove n with|(.ok,d1)=>(.ok,d1)|(e,d1)=>(e,d1):=by
 induction l generalizing d with
 | nil=>
  show d.removeAll [n]=match d.remove n with|(.ok,d1)=>(.ok,d1)|(e,d1)=>(e,d1)
  unfold D.removeAll;rcases d.remove n with⟨e,d1⟩
  cases e<;>rfl
 | cons m l b=>
  have a:∀(d:D)(k:List Nm),d.removeAll (m::k)=match d.remove m with|(.ok,d1)=>d1.removeAll k|(e,d1)=>(e,d1):=λ_ _=>rfl
  rw[List.cons_append,a,a];rw[a] at h;rcases c:d.remove m with⟨e,d1⟩
  rw[c] at h
  cases e with
  | ok=>exact b d1 h
  | num _=>cases h
  | file _ _=>cases h
theorem DD(c:d.list[k]?=some n)(b:Z7 a n=true):d.kJ a (k+1)=d.kJ a k:=by unfold D.kJ;rw[cO];grind
theorem b7c(h:d.Calm)(c:(d.now.map (·.1)).Nodup)(g:d.list[k]?=some n)(j:Z7 a n=false):(d.kJ a k).remove n=(.ok,d.kJ a (k+1)):=by
 have f:=h.sw c a k;have e:(d.list.take<|k+1).filter (λn=>!Z7 a n)=(d.list.take k).filter (λn=>!Z7 a n)++[n]:=by rw[cO,g];grind
 have b:=(h.sw c a<|k+1).ok;rw[e,b0y _ _ _<|by rw[f.ok],f.ok] at b;grind
theorem c0u(h:d.Calm)(b:(d.now.map (·.1)).Nodup)(a:fC):d.sweep a=(d.kJ a d.list.length).jc:=by have c:=(h.sw b a d.list.length).ok;rw[bK] at c;unfold D.sweep;rw[c]
end Dk
namespace Dk
theorem av[DecidableEq α](l:List (α×β))(x:α)(y:β):(X4 l x y).length<=l.length+1:=by unfold X4;grind
theorem D.Calm.append{d:D}(h:d.Calm)(n:Nm)(b:dV):d.append n b=match A7 d.now n with|none=>(.file 11 n,d)|some x=>if d.room - d.used<b.length then(.file 10 n,d) else(.ok,d.setNode x {d.node x with data:=(d.node x).data++b}):=by unfold D.append;rw[h.find];cases A7 d.now n<;>rfl
theorem D.Calm.sync{d:D}(h:d.Calm)(n:Nm):d.sync n=match A7 d.now n with|none=>(.file 11 n,d)|some x=>(.ok,d.setNode x {d.node x with safe:=(d.node x).data.length}):=by unfold D.sync;rw[h.find];cases A7 _ n<;>rfl
def D.wrote(d:D)(nm:Nm)(b:dV)(x:Nat):D:={d with ids:=d.ids++[x],now:=X4 d.now nm x,moves:=d.moves++[[(nm,some x)]],node:=upd d.node x ⟨b,b.length⟩}
structure D.Syn(d:D):Prop where
 calm:d.Calm
 nodup:(d.now.map (·.1)).Nodup
 n_:(d.safe.map (·.1)).Nodup
 same:Jl (d.moves.foldl H8 d.safe) d.now
 synced:∀x∈d.ids,(d.node x).safe=(d.node x).data.length
 named:∀p∈d.now,p.2∈d.ids
theorem a4Y(l:List (Nm×Nat))(n:Nm)(x:Nat):A7 (X4 l n x) n=some x:=by rw[MN,if_pos rfl]
section
variable{d:D}{nm:Nm}{b:List UInt8}{x:Nat}
theorem D.Syn.xC(h:d.Syn)(b:x∉d.ids)(y:Nd){p:Nm×Nat}(a:p∈d.now):upd d.node x y p.2=d.node p.2:=by unfold upd;rw[if_neg (show ¬p.2=x from λe=>b<|e▸h.named p a)]
theorem D.Syn.write(h:d.Syn)(k:A7 d.now nm=none)(t:x∉d.ids)(y:(b.length:Int)<=d.room - d.used):
 ∃d1 c,d.create nm x=(.ok,d1)/\d1.append nm b=(.ok,c)/\c.sync nm=(.ok,d.wrote nm b x):=by
 let⟨d1,a⟩:∃d1,({d with ids:=d.ids++[x],node:=upd d.node x ⟨[],0⟩}:D).mv [(nm,some x)]=d1:=⟨_,rfl⟩;have f:d1.Calm:=by rw[<-a];exact h.calm
 have g:A7 d1.now nm=some x:=by rw[<-a];exact a4Y d.now nm x
 have o:d1.used=d.used:=by
  rw[<-a];show((X4 d.now nm x).map λp=>(upd d.node x _ p.2).data.length).sum=(d.now.map _).sum;have e:X4 d.now nm x=d.now++[(nm,x)]:=by unfold X4;rw[if_neg (G8.1 k)]
  rw[e,aY];have:(d.now.map λp=>(upd _ x ⟨[],0⟩ p.2).data.length)=d.now.map _:=nO λp l=>by rw[h.xC t _ l]
  rw[this];simp[upd]
 have s:d1.room=d.room:=by rw[<-a];rfl
 have q:d1.node x=⟨[],0⟩:=by rw[<-a];show upd _ x _ x=_;unfold upd;simp
 have v:d1.append nm b=(.ok,d1.setNode x ⟨b,0⟩):=by rw[f.append,g];simp_all
 have w:(d1.setNode x ⟨b,0⟩).Calm:=f;refine⟨_,_,by unfold D.create;rw[h.calm.fails];simp_all,v,?_⟩;rw[w.sync,show A7 (d1.setNode x _).now nm=some x from g];dsimp;have r:(d1.setNode x ⟨b,0⟩).node x=⟨b,0⟩:=by show upd _ x _ x=_;unfold upd;simp
 rw[r,<-a];unfold D.mv D.setNode;dsimp;congr 2
 unfold upd;grind
theorem D.Syn.wrote(h:d.Syn)(e:x∉d.ids):(d.wrote nm b x).Syn:=by
 refine⟨h.calm,XF [(nm,some x)] h.nodup,h.n_,?_,λy a=>?_,λp c=>?_⟩
 show Jl ((d.moves++[[(nm,some x)]]).foldl H8 _) _;rw[lN];exact GO _ h.same
 show(upd _ x _ y).safe=(upd _ x _ y).data.length;unfold upd;split
 rfl
 obtain a|a:=aP.1 a
 exact h.synced y a
 grind
 obtain rfl|c:=Jq c
 exact aP.2 aZ
 exact aP.2 (.inl<|h.named p c)
theorem D.Syn.kX(h:d.Syn)(f:x∉d.ids)(n:Nm):(d.wrote nm b x).file n=if n=nm then some b else d.file n:=by
 unfold D.file D.wrote;dsimp;rw[MN];by_cases e:n=nm
 rw[if_pos e,if_pos e,eP];unfold upd;rw[if_pos rfl]
 rw[if_neg e,if_neg e]
 cases c:A7 _ n with
 | none=>rfl
 | some=>have:=h.xC f ⟨b,b.length⟩<|Y4 c;grind
end
theorem D.Syn.xQ{d:D}(h:d.Syn):∃e:D,d.jc=(.ok,e)/\e.Safe/\e.now=d.now/\e.ids=d.ids/\e.node=d.node/\e.room=d.room:=by refine⟨_,h.calm.jc,⟨h.calm,rfl,h.same,h.nodup,a4I _ h.n_,λp b=>?_⟩,rfl,rfl,rfl,rfl⟩;have a:=FA (a4I _ h.n_) b;rw[h.same] at a;exact h.synced _ (h.named _<|Y4 a)
theorem D.Safe.syn{d:D}(h:d.Safe)(b:d.Wf)(a:∀x∈d.ids,(d.node x).safe=(d.node x).data.length):d.Syn:=
 ⟨h.calm,h.nodup,h.n_,by rw[h.moves];exact h.same,a,b.now⟩
structure D.Built(d:D)(k:Nat):Prop extends d.Syn where
 safe:d.safe=[]
 bound:∀x∈d.ids,(d.node x).data.length<=1048576
 room:d.room=1099511627776
 names:∀p∈d.now,p.1.length<=1000000
 len:d.now.length<=k
 Bh:d.moves.length<=k
 og:∀l∈d.moves,l.length<=1000000/\∀m∈l,m.1.length<=1000000
def D.Built.empty:(⟨[],[],[],1099511627776,0,0,[],λ_=>⟨[],0⟩⟩:D).Built 0:=
 ⟨⟨⟨rfl,rfl⟩,aZ,aZ,λ_=>rfl,aZ,aZ⟩,rfl,aZ,rfl,aZ,aZ,aZ,aZ⟩
def D.Built.more{d:D}(h:d.Built k)(a:k<=m):d.Built m:=
 {h with len:=ay h.len a,Bh:=ay h.Bh a}
theorem c8f{f:α->Nat}:∀{l:List α},(∀p∈l,f p<=c)->(l.map f).sum<=l.length*c:=by
 intro l
 induction l with
 | nil=>simp
 | cons q l b=>intro h;have e:=b λp a=>h p<|eX _ a;have d:=h q<|gQ ..;rw[bD,mV,dK,jw];omega
def D.Syn.xB{d:D}(h:d.Syn)(b:∀x∈d.ids,(d.node x).data.length<=c):d.used<=d.now.length*c:=c8f λp a=>b _<|h.named p a
theorem D.Syn.oD{d:D}{nm:Nm}{b:dV}{x:Nat}(g:∀x∈d.ids,(d.node x).data.length<=c)(f:b.length<=c):∀y∈(d.wrote nm b x).ids,((d.wrote nm b x).node y).data.length<=c:=λy a=>by
 show(upd _ x _ y).data.length<=c;unfold upd;split
 exact f
 obtain a|a:=aP.1 a
 exact g y a
 grind
theorem D.Built.fits{d:D}(h:d.Built k)(a:k<=1000){b:dV}(c:b.length<=1048576):(b.length:Int)<=d.room - d.used:=by have e:=h.xB h.bound;have f:=fH 1048576<|ay h.len a;rw[h.room];omega
theorem D.Built.wrote{d:D}(h:d.Built k){b:dV}{x:Nat}(g:x∉d.ids)(f:n.length<=1000000)(i:b.length<=1048576):(d.wrote n b x).Built (k+1):=by
 refine⟨h.toSyn.wrote g,h.safe,D.Syn.oD h.bound i,h.room,λp c=>?_,?_,?_,λl a=>?_⟩
 obtain rfl|c:=Jq kT
 exact f
 exact h.names p c
 have:=av d.now n x;have:=h.len;show(X4 _ n x).length<=k+1;omega
 show(d.moves++[[(n,some x)]]).length<=k+1;have:=h.Bh;simp;omega
 obtain a|a:=aP.1 kT
 exact h.og l a
 grind
end Dk
theorem WZ(a:Er)(v:aX)(w:aB)(h:ErrAt w v a)(d:Laid w):
 Calls prog 15 #[v] w λe w'=>e=.returned (.tuple #[.int .i64 a.code,bJ a.name])/\Ext w w':=by
 cases a with
 | ok=>subst h;exact uR w
 | num n=>subst h;exact c5d n w d
 | file n=>obtain⟨b,rfl,c⟩:=h;exact c1z _ _ n w d ((c.cell 0).trans rfl)<|(c.cell 1).trans rfl
def IY(n:Int):Nat:=1+(IntKind.u64.wrap (wrap64 (n - 1))%999999).toNat
theorem c0E{n:Int}(c:1<=n)(b:n<=999999):(IY n:Int)=n:=by
 unfold IY;have e:IntKind.u64.wrap (wrap64<|n - 1)=n - 1:=by
  have:wrap64 (n - 1)=n - 1:=YT
  rw[this];show(n - 1)%18446744073709551616=n - 1;omega
 omega
theorem jn(n:Int)(w:aB):Calls prog 47 #[.int .i64 n] w λe w'=>∃k:Nat,e=.returned (.int .i64 k)/\1<=k/\k<=999999/\w'=w/\k=IY n:=by
 obtain⟨i,g⟩:∃i,IY n=i:=⟨_,rfl⟩;have a:=g;unfold IY at a;go_enter func47,ntmps47
 go_wp2;obtain⟨m,d⟩:∃m,IntKind.u64.wrap (wrap64 (n - 1))=m:=⟨_,rfl⟩;have l:0<=m%999999:=Int.emod_nonneg _ dA;have o:m%999999<999999:=Int.emod_lt_of_pos _ dA;have j:wrap64 (m%999999)=m%999999:=YT
 have h:wrap64 (1+m%999999)=((1+(m%999999).toNat:Nat):Int):=YT
 rw[d] at a;rw[d,(Int.tmod_eq_emod_of_nonneg (by rw[<-d];exact Int.emod_nonneg _ dA)),j,h,a];go_ret;exact⟨i,rfl,aj,aj,rfl,g.symm⟩
def Zt(F:tyP)(a:Nat)(k:Nat)(E:D)(nm:Nm)(b:dV)(w:aB)(e:Ending)(w':aB):Prop:=
 e=.returned (.tuple #[])/\∃c d,o7 w' c a d/\d.Built k/\(∀n,d.file n=if n=nm/\E.file nm=none then some b else E.file n)/\iq F c w w'/\∀b,F b->c b
def yk{d:D}:d.file n=none<->A7 d.now n=none:=gq
theorem ZY(F:tyP)(a:Nat)(d:D)(k:Nat)(name:Nm)(u:aX)(l:dV)(w:aB)(h:o7 w F a d)(G:d.Built k)(hk:k<=1000)(hn:name.length<=1000000)
 (V:Held w F (λW=>Bytes W u l))(hl:l.length<=1048576)(Y:Held w F Laid):
 Calls prog 50 #[l9 a,bJ name,u] w (Zt F a (k+1) d name l w):=by
 obtain⟨ua,uc,rfl,huc,FZ,-⟩:=V.get.open;have Gh:d.now.length<=32000:=by have:=G.len;omega
 have S:=ah (Ha F a d name w h lJ (by have:=G.Bh;omega));have Z:=ah Y;clear Y h;unfold l9 bJ at *;go_enter func50,ntmps50
 go_wp2_with fail
 refine S.out.mono ?_;rintro e w1 ⟨x,p,I,v1,rfl,t,j,E,m⟩;have A:=Z.out.step E;have z:=WZ _ v1 w1 t.get A.get;unfold bJ at z;have JB:=ah (V.step E)
 cases r:A7 d.now name with
 | some y=>
  have C:d.create name x=(.file 12 name,d):=by unfold D.create;rw[G.calm.fails];simp_all
  rw[C] at z j;have f:∀s,Ext w1 s->Zt F a (k+1) d name l w (.returned (.tuple #[])) s:=λs H=>⟨rfl,I,d,j.ext H,G.more (EC k),λn=>by rw[if_neg (λh=>by rw[yk.1 h.2] at r;cases r)],E.trans (iV H),m⟩
  have M:=ah z;have c:=ah f;clear z f t j E m p r C A S Z;unfold Er.code Er.name at M;go_wp2_with fail
  refine M.out.mono ?_;rintro e s ⟨rfl,g⟩;have HE:=ah (c.out s g);clear g;go_wp2;go_end0
  exact HE.out
 | none=>
  obtain⟨U,d2,C,e2,e3⟩:=G.toSyn.write (b:=l) r p (G.fits hk hl);rw[C] at z j;have L:U=(d.create name x).2:=by rw[C]
  have B:=G.wrote (b:=[]) p hn aZ;have O:U=d.wrote name [] x:=by rw[L];unfold D.create;rw[G.calm.fails];dsimp only;rw[if_neg aZ,r,if_neg aZ];rfl
  rw[<-O] at B;have i:=FO I a U name (.slice ua l.length uc) l;rw[e2] at i;have P:∀n,(d.wrote name l x).file n=if n=name/\d.file name=none then some l else d.file n:=λn=>by
   rw[G.toSyn.kX p];have:=yk.2 r;by_cases h:n=name
   ·rw[if_pos h,if_pos ⟨h,this⟩]
   ·rw[if_neg h,if_neg λq=>h q.1]
  have M:=ah z;have HAP:=ah i;have HW:=ah (G.wrote (b:=l) p hn hl);clear z i C e2 O L t p r A S Z;unfold Er.code Er.name at M;go_wp2_with fail
  refine M.out.mono ?_;rintro e s ⟨rfl,g⟩;have R:=ah (HAP.out s (j.ext g) (JB.out.ext g) lJ aj (λx p=>by have:=B.bound x p;omega) (by have:=B.len;omega));have o:=ah (E.trans (iV g));clear g HAP;unfold l9 bJ at R;go_wp2_with fail
  refine R.out.mono ?_;rintro e w3 ⟨F3,v3,rfl,X,J,nD,N⟩;have v:=sn F3 a d2 name w3 J lJ;rw[e3] at v;have JC:=ah v;have tH:=ah (o.out.trans nD);have T:=ah λq hq=>N q (m q hq);clear v nD N X J R;unfold l9 bJ at JC;go_wp2_with fail
  apply JC.out.mono;rintro e w4 ⟨F4,v4,rfl,Q,K,Vj,OZ⟩;have f:Zt F a (k+1) d name l w _ w4:=⟨rfl,F4,_,K,HW.out,P,tH.out.trans Vj,λb G=>OZ b (T.out b G)⟩;have c:=ah f;clear f K Vj OZ Q;go_wp2;go_end0
  exact c.out
theorem a9z(a:Nat)(k v:dV)(d:Bool)(b:k.length<=16)(c:v.length<=64):(summed (body a k v d)).length<=200:=by unfold summed body;simp[H7];omega
def c6Z(w:aB)(e:Ending)(w':aB):Prop:=
 ∃(x:aX)(n:Int)(l:dV),e=.returned (.tuple #[x,.int .i64 n])/\Ext w w'/\OwnB w' w x l/\l.length<=200
def Jp(w:aB)(B:Nat):OwnB w B (.slice none 0 0) []:=⟨rfl,.inl ⟨rfl,rfl⟩⟩
theorem b8c(a:Nat)(k v:ByteArray)(d:Bool)(sz:Int)(w:aB):
 Calls prog 49 #[z_ a k v d sz] w (c6Z w):=by
 by_cases g:k.size<1\/16<k.size
 apply(b1Z a k v d sz w g).mono;rintro e c ⟨rfl,b⟩;exact⟨_,_,[],rfl,b,Jp _ _,aZ⟩
 by_cases f:64<v.size\/v.size<=64/\d=true/\0<v.size
 apply(b2a a k v d sz w aj aj f).mono;rintro e c ⟨rfl,b⟩;exact⟨_,_,[],rfl,b,Jp _ _,aZ⟩
 refine(b4C a k v d sz w aj aj aj ?_).mono ?_
 cases d
 exact .inl rfl
 grind
 rintro e c ⟨x,rfl,i,b⟩;exact⟨_,_,_,rfl,b,i,a9z _ _ _ _ iL<|iL⟩
def c44(a:Nat)(l:fC)(w:aB)(e:Ending)(w':aB):Prop:=
 ∃x,e=.returned (.tuple #[x,.int .i64 (if Q7 l=true then 0 else 4)])/\Ext w w'/\
  ((Q7 l=true/\OwnB w' w x (summed (U8 a l)))\/(Q7 l=false/\x=.slice none 0 0))
theorem a9B(c:Nat)(v:aX)(l:fC)(w:aB)(h:Ints w v l):
 Calls prog 52 #[.int .u64 c,v] w (c44 c l w):=by
 obtain⟨a,cap,rfl,hc,hc',-⟩:=h.open;obtain⟨i0,hi,O,Q,g⟩:=info_parts Dq;have HI:=ah h;clear h;go_enter func52,ntmps52
 go_wp2_with fail
 refine(S3 _ l w HI.out).mono ?_;rintro e T ⟨rfl,q,hq⟩;have p:Ext w T:=by rw[hq];exact gZ w q
 clear hq
 cases f:Q7 l with
 | false=>
  go_wp2;go_ret2
  exact⟨_,by rw[f];rfl,p,Or.inr ⟨f,rfl⟩⟩
 | true=>
  have mH:l.length<=60:=by have:=f;unfold Q7 at this;exact dJ (gY.1 this).1
  go_wp2_with fail
  refine(Z4 _ w [] c 8 T (⟨rfl,Or.inl ⟨rfl,rfl⟩⟩:OwnB T w (.slice none 0 0) []) aj aZ p.size).mono ?_;rintro e w2 ⟨v2,rfl,M,J⟩;have z:=Below.trans p J;clear p J;have hwl:IntKind.u64.wrap (l.length:Int)=(l.length:Int):=yT
  go_wp2_with fail
  refine(Z4 _ w _ l.length 2 w2 M aj Eb z.size).mono ?_;rintro e w3 ⟨v3,rfl,F,G⟩;have X:=Below.trans z G;clear z G M;have R:∀n∈l,inRange n=true:=by have:=f;unfold Q7 at this;exact aU.1 (gY.1 (gY.1 this).2).1
  go_wp2;go_loopw [7,8] (λu i wr=>∃k:Nat,k<=l.length/\i=.int .i64 k/\OwnB wr w u ([]++be c 8++be l.length 2++U3 (l.take k))/\Ext w wr) (λ_ i _=>l.length - (intOf i).toNat)
  case atStart=>exact⟨0,dD _,rfl,by simpa [U3] using F,X⟩
  case round=>
   clear F X;obtain⟨k,hk,rfl,E,s⟩:=hrel;have S:=U6 (l.take k);rw[dH] at S;by_cases B:k<l.length
   ·obtain⟨b,rfl,hb⟩:∃b,a=some b/\wr.cell? (b.add k)=some (.int .i64 (l[k])):=by obtain⟨a',c',e,_,_,hf⟩:=(HI.out.ext s).open;injection e with d;subst d;exact hf k B
    have t:=R _ (bQ B);unfold inRange at t;have hi1:=dJ (gY.1 t).1;have hi2:=dJ (gY.1 t).2;have L:U3 (l.take (k+1))=U3 (l.take k)++be (l[k]).toNat 4:=by rw[take_snoc l k B,VS]
    have HS:=ah L;clear L t;generalize l[k]=x at *;obtain⟨x,rfl⟩:=lD (show 0<=x by omega);have hwx:IntKind.u64.wrap (x:Int)=(x:Int):=yT
    have o:=Z4 _ w _ x 4 _ E aj (by simp[H7];omega) s.size;have j:=ah s;clear s E;go_wp2_with fail
    refine o.mono ?_;rintro e w5 ⟨v5,rfl,xM,H⟩;have kE:Ext w w5:=Below.trans j.out H;clear o H j;go_wp2;go_roundw
    case rel=>exact⟨k+1,aj,iE,by rw[HS.out];simpa using xM,kE⟩
    case measure=>simp[intOf];omega
   obtain rfl:k=l.length:=aj
   rw[bK] at E;have W:[]++be c 8++be l.length 2++U3 l=U8 c l:=by unfold U8;simp
   rw[W] at E;have hml:(U8 c l).length<=300:=by unfold U8;simp[H7,U6];omega
   have D:∃m,m=U8 c l:=⟨_,rfl⟩;have j:=ah s;have K:=ah E;clear s E W D;go_wp2_with fail
   refine(Xh _ (U8 c l) _ K.out.bytes).mono ?_;rintro e w5 ⟨rfl,rfl⟩;have y:=K.out;have s:Ext w wr:=j.out;clear K j;generalize hI:U8 c l=I at *;have hwc:IntKind.u64.wrap ((crc I:Nat):Int)=((crc I:Nat):Int):=by rw[IntKind.wrap_u64];have:=Ep I;omega
   have K:=ah y;have j:=ah s;clear y s;go_wp2_with fail
   refine(Z4 _ wr [] (crc I) 4 _ (World.ownsRow_nil _ _ _ _) aj aZ (ak _)).mono ?_;rintro e w9 ⟨v9,rfl,A,N⟩;rw[eF] at A;generalize P:be (crc I) 4=C at *;have Y:C.length=4:=by rw[<-P,H7]
   have HC:=ah P;clear P;have Z:=ah Y;clear Y;clear hwc;go_wp2_with (at_builtin;go_must (refine A8 rfl _ _ 25 rfl wr 5 i0 (.int .u8 0) 1 1 underlying25 hi O Q g rfl aj v9 C.length _ rfl A u7 I.length (I.map eG) rfl (K.out.bytes.ext N) aZ (Dv _) (by rw[Z.out];unfold maxLen;omega) (by rw[Z.out];omega) N.size ?_);intro b10 c10 w10 mJ lG qJ;clear qJ)
   go_ret2
   refine⟨_,by rw[if_pos f];rfl,?_,Or.inl ⟨f,?_⟩⟩
   ·exact(Below.trans j.out (N.mono j.out.size)).grown lG (ay j.out.size N.size) (λr hr=>by have:=(A.lt r hr).1;have:=j.out.size;omega)
   ·have d:(summed I).map eG=C.map eG++I.map eG:=by rw[<-aY,summed,HC.out]
    have e2:(summed I).length=C.length+I.length:=by rw[summed,HC.out,aC]
    unfold OwnB;rw[hI,d,e2];exact H6 mJ j.out.size
theorem b7i:∀(l:fC)(i:Nat)(h:i<l.length),((U3 l).drop (4*i)).take 4=be l[i].toNat 4:=by
 intro l
 induction l with
 | nil=>trivial
 | cons x l a=>
  intro i h;cases i with
  | zero=>rfl
  | succ i=>exact a i<|fU
theorem U'{l:fC}(h:Q7 l=true):bF (summed (U8 g l))=some (g%18446744073709551616,l):=by
 have o:l.length<=60/\∀x∈l,1<=x/\x<=999999:=by unfold Q7 inRange at h;simp_all
 let⟨B,k⟩:∃B,U8 g l=B:=⟨_,rfl⟩;have b:B=be g 8++(be l.length 2++U3 l):=by rw[<-k];rfl
 have q:B.length=10+4*l.length:=by rw[b];simp[aC,H7,U6];omega
 rw[k];have j:(summed B).drop 4=B:=Hy<|H7 _ _;have n:(summed B).take 4=be _ 4:=List.take_left'<|H7 _ _;have m:B.drop 8=be l.length 2++U3 l:=by rw[b];rfl
 have c:(summed B).drop 12=be _ 2++U3 l:=kT
 have e:(summed B).drop 14=U3 l:=by rw[show 14=12+2 from rfl,<-oK,c];rfl
 have f:cnt (summed B)=l.length:=by unfold cnt;rw[c];exact Zq _ 2<|aj
 have d:pz (summed B) l.length=l:=by unfold pz;refine List.ext_getElem aZ λi r a=>?_;have p:=o.2 _<|bQ a;rw[List.getElem_map,List.getElem_range];unfold zX;rw[<-oK,e,b7i l i a,Zq _ 4<|aj];omega
 rw[E9,f,d]
 rw[j,show B.take 8=be g 8 by rw[b];rfl,sC g 8 8<|ak _,Zq _ 8 aj]
 unfold summed;rw[aC,H7];omega
 rw[f];unfold summed;rw[aC,H7];omega
 rw[j,n,Zq _ 4<|Ep B]
 grind
namespace Dk
structure D.Fit(d:D):Prop where
 data:∀x∈d.ids,(d.node x).data.length<=1099511627776
 len:d.now.length<=10000
 names:∀p∈d.now,p.1.length<=1000000
theorem D.Safe.stepped{d:D}(h:d.Safe)(dir:Nat):d.stepped dir=d.safe:=by unfold D.stepped;rw[h.moves];simp
end Dk
theorem Qv{a b:Nat}(h:digit a=digit b):a%10=b%10:=by unfold digit at h;have c:=congrArg UInt8.toNat h;simp at c;omega
theorem cK{d:Nm}{a b:Nat}(m:a<=999999)(l:b<=999999)(h:y7 d a=y7 d b):a=b:=by unfold y7 at h;have c:=List.append_cancel_left h;injection c with j c;injection c with g c;injection c with i c;injection c with e c;injection c with f c;injection c with k c;have:=Qv j;have:=Qv g;have:=Qv i;have:=Qv e;have:=Qv f;have:=Qv k;omega
structure Nx(L:List Nm)(f r:Nat):Prop where
 le:f<=r
 full:∀j,f<=j->j<r->y7 D6 j∈L
 free:r<=999999->y7 D6 r∉L
theorem Nx.bound{L:List Nm}(h:Nx L f r)(o:r<=1000000):r<=f+L.length:=by
 have i:((List.range' f (r - f)).map (y7 D6)).Nodup:=by refine eu.2 ((eI).imp_of_mem λ{a b}m g l e=>?_);rw[pI] at m g;have:=cK aj aj e;omega
 have k:=i.length_le_of_subset λn c=>by obtain⟨j,d,rfl⟩:=aQ.1 c;rw[pI] at d;exact h.full j d.1 aj
 rw[bV,List.length_range'] at k;omega
inductive Gv(L:List Nm):Nat->List Nat->Nat->Prop
 | nil (f:Nat):Gv L f [] f
 | snoc {f g r:Nat} {l:List Nat} (h:Gv L f l g) (hn:Nx L g r) (hr:r<=999999):Gv L f (l++[r]) (r+1)
theorem Gv.le{L:List Nm}(h:Gv L f l g):f<=g/\(∀r∈l,f<=r/\r<g/\r<=999999/\y7 D6 r∉L)/\l.Pairwise (· < ·)/\(g=f\/g<=1000000)/\∀j,f<=j->j<g->y7 D6 j∈L\/j∈l:=by
 induction h with
 | nil=>exact⟨ak _,(λ_ h=>by cases h),.nil,.inl rfl,λj u i=>absurd i aj⟩
 | @snoc g r l h m n s=>
  obtain⟨u,i,v,-,o⟩:=s;have:=m.le;refine⟨aj,λq e=>?_,List.pairwise_append.2 ⟨v,List.pairwise_singleton ..,λa p b w=>?_⟩,.inr aj,λj t x=>?_⟩
  obtain e|e:=aP.1 e
  have:=i q e;exact⟨this.1,aj,this.2.2⟩
  obtain rfl:=dB.1 e;exact⟨aj,aj,n,m.free n⟩
  obtain rfl:=dB.1 w;have:=i a p;omega
  obtain k|k:=bH j g
  obtain h|h:=o j t k
  grind
  grind
  obtain c|c:=bH j r
  exact .inl (m.full j k c)
  obtain rfl:j=r:=aj
  simp
theorem Gv.bound{L:List Nm}(h:Gv L f l g):g<=f+L.length+l.length:=by
 let⟨s,t,u,d,k⟩:=h.le;obtain d|d:=d
 omega
 have o:((List.range' f (g - f)).map (y7 D6)).Nodup:=by refine eu.2 ((eI).imp_of_mem λ{a b}r q m e=>?_);rw[pI] at r q;have:=cK aj aj e;omega
 have p:=o.length_le_of_subset (l₂:=L++l.map _) λn c=>by
  obtain⟨j,i,rfl⟩:=aQ.1 c;rw[pI] at i;obtain h|h:=k j i.1 aj
  grind
  exact aP.2 (.inr (aQ.2 ⟨j,h,rfl⟩))
 rw[bV,List.length_range',aC,bV] at p;omega
def c1x(r:Option (Nat×List Int))(w:aB)(e:Ending)(w':aB):Prop:=
 ∃g v b,e=.returned (.tuple #[.int .u64 g,v,.bool b])/\Ext w w'/\
  ((r=none/\g=0/\v=.slice none 0 0/\b=false)\/(∃c a,r=some (c,a)/\g=(c:Int)/\b=true/\jd w' w v a))
theorem b09(v:aX)(l:dV)(w:aB)(h:Bytes w v l):
 Calls prog 32 #[v] w (c1x (bF l) w):=by
 obtain⟨i0,hi,O,U,P⟩:=info_parts WY;obtain⟨a,b,rfl,h1,h2,h3⟩:=id h;clear h3;by_cases c0:l.length<14
 ·have m:bF l=none:=X8 (Xv aj);clear h;go_enter func32,ntmps32
  go_wp2;go_ret3
  exact⟨0,_,_,rfl,dh w,Or.inl ⟨m,rfl,rfl,rfl⟩⟩
 obtain⟨g,rfl⟩:∃g,a=some g:=by
  cases a with
  | none=>have:=h2.2 rfl;omega
  | some g=>exact⟨g,rfl⟩
 have X:=ah h;clear h;have h14:14<=l.length:=aj
 have T:=cnt_lt l;have hwn:IntKind.i64.wrap (cnt l:Int)=(cnt l:Int):=IntWalk.i64_in _ aj;have C:∀W:aB,Ext w W->∀i j,0<i->i<=j->j<=l.length->i<b->Bytes W (.slice (some ⟨g.block,g.off+i,none⟩) (j - i) (b - i)) ((l.take j).drop i):=by
  intro W hW i j h0 S hj hc;have:=(X.out.ext hW).sliced i j S hj;rw[if_neg aj] at this;have e:(some g).map (·.add i)=some ⟨g.block,g.off+i,none⟩:=by show some (g.add i)=_;unfold Addr.add;rw[if_neg aj]
  rw[e] at this;exact this
 have N:=ah C;clear C;have e12:num ((l.take 14).drop 12)=cnt l:=by unfold cnt;rw[fZ]
 have hcap:14<=b:=aj
 have Z:=Y2 _ ((l.take 14).drop 12) w (N.out _ (dh w) 12 14 aj aj aj aj) iw;rw[e12] at Z;have Yp:=ah Z;clear Z e12;go_enter func32,ntmps32
 go_wp2_with fail
 refine Yp.out.mono ?_;rintro e W ⟨rfl,hw⟩;subst hw;have c2:=Xh _ (l.drop 4) w (by have:=N.out _ (dh w) 4 l.length aj aj (ak _) aj;rw[bK] at this;exact this)
 have L:=ah c2;clear c2;have hw4:IntKind.i64.wrap (4*(cnt l:Int))=4*(cnt l:Int):=IntWalk.i64_in _ aj;have qa7:IntKind.i64.wrap (14+4*(cnt l:Int))=14+4*(cnt l:Int):=IntWalk.i64_in _ aj;go_wp2_with fail
 refine L.out.mono ?_;rintro e W ⟨rfl,hw⟩;subst hw;by_cases c3:l.length=14+4*cnt l
 case neg=>
  have m:bF l=none:=X8 (Xv aj);have hne:((l.length:Int) != 14+4*(cnt l:Int))=true:=IW
  go_wp2;go_ret3
  exact⟨0,_,_,rfl,dh w,Or.inl ⟨m,rfl,rfl,rfl⟩⟩
 have M:((l.length:Int) != 14+4*(cnt l:Int))=false:=IV
 have HL:=ah c3;clear c3;have c4:=Y2 _ (l.take 4) w (by have:=(X.out).sliced 0 4 aj aj;rw[if_neg aj] at this;exact this) iw
 have QX:=ah c4;clear c4;have hm1:num (l.take 4)<4294967296:=O3 l 4;go_wp2_with fail
 refine QX.out.mono ?_;rintro e W ⟨rfl,hw⟩;subst hw;have hwc:IntKind.u64.wrap (crc (l.drop 4):Int)=(crc (l.drop 4):Int):=by have:=Ep (l.drop 4);rw[IntKind.wrap_u64];omega
 by_cases d:crc (l.drop 4)=num (l.take 4)
 case neg=>
  have rF:((num (l.take 4):Int) != (crc (l.drop 4):Int))=true:=IW
  have m:bF l=none:=X8 (J' d);go_wp2;go_ret3
  exact⟨0,_,_,rfl,dh w,Or.inl ⟨m,rfl,rfl,rfl⟩⟩
 have rF:((num (l.take 4):Int) != (crc (l.drop 4):Int))=false:=IV
 have HCR:=ah d;clear d;go_wp2;go_loopw [7,8] (λu i wr=>∃k:Nat,k<=cnt l/\i=.int .i64 k/\jd wr w u (pz l k)/\Ext w wr) (λ_ i _=>cnt l - (intOf i).toNat)
 case atStart=>exact⟨0,dD _,rfl,⟨rfl,Or.inl ⟨rfl,rfl⟩⟩,dh w⟩
 case round=>
  obtain⟨k,hk,rfl,D,hE⟩:=hrel;by_cases hlt:k<cnt l
  ·have hl:=HL.out;have e4:num ((l.take (18+4*k)).drop (14+4*k))=zX l k:=by unfold zX;rw[fZ];congr 2;omega
   have R:=Y2 (.slice (some (g.add (14+4*k))) (18+4*k - (14+4*k)) (b - (14+4*k))) ((l.take (18+4*k)).drop (14+4*k)) wr (by have:=(X.out.ext hE).sliced (14+4*k) (18+4*k) aj aj;rw[if_neg aj] at this;exact this) iw
   rw[e4] at R;have JK:=ah R;have E:=ah D;have G:=ah hE;have hix:=nf l k;have hwx:IntKind.i64.wrap (zX l k:Int)=(zX l k:Int):=IntWalk.i64_in _ aj;have F:(pz l (k+1)).map (Value.int .i64)=(pz l k).map (Value.int .i64)++[Value.int .i64 (zX l k)]:=by rw[Is,aY];rfl
   have DJ:=ah F;have hk4:IntKind.i64.wrap (4*(k:Int))=4*(k:Int):=IntWalk.i64_in _ aj;have qc7:IntKind.i64.wrap (14+4*(k:Int))=14+4*(k:Int):=IntWalk.i64_in _ aj;have qc0:IntKind.i64.wrap (18+4*(k:Int))=18+4*(k:Int):=IntWalk.i64_in _ aj;have hlc:18+4*k<=b:=aj
   have hcl:cnt l<65536:=T;clear R D hE e4 F hl M rF;have hsz:=G.out.size;obtain⟨ua,uc,rfl⟩:=ownsRow_form E.out;go_wp2_with fail
   refine JK.out.mono ?_;rintro e W5 ⟨rfl,Q⟩;subst Q;go_wp2_with (at_builtin;go_must (refine A8 rfl _ _ 69 rfl w 3 i0 (.int .i64 0) 1 8 underlying69 hi O U P rfl aj (.slice ua (pz l k).length uc) (pz l k).length _ rfl (E.out.alloc (.cells #[.int .i64 (zX l k)] 3)) (.slice (some ⟨wr,0,none⟩) 1 1) 1 [.int .i64 (zX l k)] rfl ⟨_,_,rfl,aj,⟨aj,λh=>by cases h⟩,λ_=>⟨_,rfl,World.news_of_block (cs:=#[.int .i64 (zX l k)]) (t:=3) (fr:=(0,0)) (heap_alloc_new wr _)⟩⟩ rfl qV (by rw[cN];unfold maxLen;omega) (by rw[cN];omega) iw ?_);intro b6 c6 w6 hown6 c kZ;clear kZ)
   have mY:Ext w w6:=Below.grown (G.out.new _) c iw (λr hr=>(E.out.lt r hr).1);go_roundw
   case rel=>exact⟨k+1,aj,iE,by unfold jd;rw[DJ.out,show(pz l (k+1)).length=(pz l k).length+1 by rw[cN,cN]];exact hown6,mY⟩
   case measure=>simp[intOf];omega
  ·obtain rfl:k=cnt l:=aj
   have K:∀n∈pz l (cnt l),(Lit.int .i64 n).wf=true:=λn hn=>ZU (b5V l _ n hn);have c7:=S3 u7 (pz l (cnt l)) wr D.ints;have HC7:=ah c7;have E:=ah D;have G:=ah hE;clear c7 D hE K;go_wp2_with fail
   refine HC7.out.mono ?_;rintro e J ⟨rfl,q,hq⟩;have I:Ext wr J:=by rw[hq];exact gZ _ _
   clear hq;have Y:jd J w u7 (pz l (cnt l)):=ownsRow_below E.out I;have H:Ext w J:=lI G.out I;have Ib:=ah Y;have HX7:=ah H
   cases B:Q7 (pz l (cnt l)) with
   | false=>
    clear I Y H;go_wp2;go_ret3
    exact⟨0,_,_,rfl,HX7.out,Or.inl ⟨X8 (JS B),rfl,rfl,rfl⟩⟩
   | true=>
    have m:=E9 h14 HL.out HCR.out B;have V:=Y2 _ ((l.take 12).drop 4) J (N.out _ H 4 12 aj aj aj aj) iw;rw[show num ((l.take 12).drop 4)=num ((l.drop 4).take 8) by rw[fZ]] at V;have HC8:=ah V;have HD:=ah m;clear I Y H V m;go_wp2_with fail
    refine HC8.out.mono ?_;rintro e W8 ⟨rfl,hw8⟩;subst hw8;go_wp2;go_ret3
    exact⟨_,_,_,rfl,HX7.out,Or.inr ⟨_,_,HD.out,rfl,rfl,Ib.out⟩⟩
namespace Dk
variable{d:D}
theorem D.Syn.mv(h:d.Syn){l:List Mv}(b:∀m∈l,∀f,m.2=some f->f∈d.ids):(d.mv l).Syn:=by
 refine⟨h.calm,XF l h.nodup,h.n_,?_,h.synced,λp a=>?_⟩
 show Jl ((d.moves++[l]).foldl H8 _) _;rw[lN];exact GO _ h.same
 obtain a|⟨m,c,e⟩:=Xz a
 exact h.named p a
 exact b m c _ e
theorem D.Syn.removed(h:d.Syn)(nm:Nm):(d.mv [(nm,none)]).Syn/\(∀n,(d.mv [(nm,none)]).file n=if n=nm then none else d.file n)/\A7 (d.mv [(nm,none)]).now nm=none:=by
 refine⟨h.mv λm b f a=>?_,λn=>?_,?_⟩
 rw[dB.1 b] at a;cases a
 show(A7 (qK _ nm) n).map _=_;rw[MO];split<;>rfl
 show A7 (qK _ _) _=none;rw[MO,if_pos rfl]
theorem c2t{l:List (Nm×Nat)}(f:Nat->Nat)(nm:Nm):((qK l nm).map λp=>f p.2).sum<=(l.map λp=>f p.2).sum:=by
 unfold qK
 induction l with
 | nil=>simp
 | cons=>rw[kL];split<;>simp only[bD,mV]<;>omega
def D.sF(nm:Nm):(d.mv [(nm,none)]).used<=d.used:=c2t (λx=>(d.node x).data.length) nm
theorem D.Syn.renamed(h:d.Syn){a b:Nm}{x:Nat}(j:A7 d.now a=some x)(i:a≠b):
 d.rename a b=(.ok,d.mv [(b,some x),(a,none)])/\(d.mv [(b,some x),(a,none)]).Syn/\∀n,(d.mv [(b,some x),(a,none)]).file n=if n=a then none else if n=b then d.file a else d.file n:=by
 refine⟨?_,h.mv λm k f c=>?_,λn=>?_⟩
 have c:=h.calm.find a;rw[j] at c;have e:(d.find a).1=some x:=by rw[c]
 rw[Xo e,if_neg i,c]
 obtain rfl|rfl:=(by simp_all:m=(b,some x)\/m=(a,none))
 injection c with c;subst c;exact h.named _<|Y4 j
 cases c
 show(A7 (qK _ a) n).map _=_;rw[MO];by_cases e:n=a
 rw[if_pos e,if_pos e];rfl
 rw[if_neg e,if_neg e,MN];by_cases g:n=b
 rw[if_pos g,if_pos g];unfold D.file;rw[j];rfl
 rw[if_neg g,if_neg g];rfl
theorem b6o(a:fC):Z7 a H5=false:=by unfold Z7;rw[show decide _=false from rfl,mW,show qW qx H5=false from rfl,Yt];unfold X6;rw[List.any_eq_false];intro k _ h;have:=congrArg List.length<|dJ h;simp[y7,D6,H5,y8] at this
structure D.DV(d d':D):Prop where
 syn:d'.Syn
 gone:A7 d'.now H5=none
 file:∀n,n≠H5->d'.file n=d.file n
 ids:d'.ids=d.ids
 node:d'.node=d.node
 room:d'.room=d.room
 used:d'.used<=d.used
 len:d'.now.length<=d.now.length
 names:∀p∈d'.now,p∈d.now
 moves:d'.moves.length<=d.moves.length+1
 og:∀l∈d'.moves,l∈d.moves\/l=[(H5,Option.none)]
def D.Syn.away(h:d.Syn)(a:A7 d.now H5=none):d.DV d:=⟨h,a,λ_ _=>rfl,rfl,rfl,rfl,ak _,ak _,λ_ h=>h,EC _,λ_ h=>.inl h⟩
theorem D.Syn.LU(h:d.Syn):d.DV (d.mv [(H5,none)]):=by
 let⟨f,e,b⟩:=h.removed H5;refine⟨f,b,λn c=>iL,rfl,rfl,rfl,D.sF _,iC _ _,λp a=>vE a,?_,λl g=>?_⟩
 show(d.moves++[[(H5,none)]]).length<=_;simp
 obtain h|h:=aP.1 kT
 exact .inl h
 grind
structure D.Com(d:D)(mb:List UInt8)(ids:List Int)(e:D):Prop where
 safe:e.Safe
 file:∀n,e.file n=if Z7 ids n=true then(if n=y8 then some mb else d.file n) else none
 room:e.room=d.room
 synced:∀y∈e.ids,(e.node y).safe=(e.node y).data.length
 bound:∀c,mb.length<=c->(∀x∈d.ids,(d.node x).data.length<=c)->∀x∈e.ids,(e.node x).data.length<=c
theorem D.DV.commit{a:D}(h:d.DV a)(j:dV){x:Nat}(s:x∉a.ids)(P:(j.length:Int)<=a.room - a.used)(b:fC):
 ∃m f e,(a.wrote H5 j x).rename H5 y8=(.ok,m)/\m.jc=(.ok,f)/\f.sweep b=(.ok,e)/\d.Com j b e/\
  (m.moves.length<=a.moves.length+2/\∀l∈m.moves,l∈a.moves\/l=[(H5,some x)]\/l=[(y8,some x),(H5,none)])/\f.Safe/\f.now.length<=a.now.length+2/\∀p∈f.now,p∈a.now\/p.1=H5\/p.1=y8:=by
 have q:A7 (a.wrote H5 j x).now H5=some x:=a4Y _ _ _;let⟨I,z,M⟩:=(h.syn.wrote s).renamed q (show H5≠y8 by decide);let⟨f,B,w,o,A,r,G⟩:=z.xQ;let⟨e,L,H,C,v,F,u⟩:=w.sweep b;refine⟨_,f,e,I,B,L,⟨H,λn=>?_,F.trans (G.trans h.room),λy g=>?_,λc N K y g=>?_⟩,⟨?_,λl q=>?_⟩,w,?_,λp t=>?_⟩
 rw[C];by_cases k:Z7 b n=true
 rw[if_pos k,if_pos k];have i:n≠H5:=by rintro rfl;rw[b6o] at k;cases k
 have J:f.file n=((a.wrote H5 j x).mv [(y8,some x),(H5,none)]).file n:=by unfold D.file;rw[o,r]
 rw[J,M,if_neg i,h.syn.kX s,if_pos rfl,h.syn.kX s,if_neg i,h.file n i]
 simp_all
 rw[u,r];rw[v,A] at g;exact z.synced y g
 rw[u,r];rw[v,A] at g;exact D.Syn.oD (nm:=H5) (λy g=>by rw[h.ids] at g;rw[h.node];exact K y g) N y g
 show((a.moves++[[(H5,some x)]])++[[(y8,some x),(H5,none)]]).length<=_;simp
 obtain h|h:=aP.1 (kT)
 exact(aP.1 h).imp id λh=>.inl<|dB.1 h
 simp_all
 rw[o];show(qK (X4 (X4 _ H5 x) y8 x) H5).length<=_;have Q:=av a.now H5 x;have O:=av (X4 a.now H5 x) y8 x;exact ay (iC _ _)<|aj
 rw[o] at t;obtain rfl|h:=Jq (vE<|t)
 exact .inr<|.inr rfl
 obtain rfl|h:=Jq h
 exact .inr<|.inl rfl
 simp_all
end Dk
def xZ(w:aB)(b:Nat):Option (Option TypeId):=match w.heap[b]? with
 | some (.cells _ t _)=>some (some t)
 | some (.map ..)=>some none
 | _=>none
theorem o6.kind{w:aB}{b:Nat}{cs:dU}(h:o6 w b t cs):xZ w b=some (some t):=by unfold xZ;rw[h]
theorem MapOf.kind{P:Program}{k:bT}{kf:α->Value}{vf:β->Value}{w:aB}{l:List (α×β)}(h:MapOf P k kf vf w r l):xZ w r=some none:=by obtain⟨a,c,e,-⟩:=h;unfold xZ;rw[e]
theorem MF{w:aB}{B sz n b:Nat}{xs:jl}(h:w.ownsRow B t sz v n xs)(a:v.ownBlock=some b):xZ w b=some (some t):=by
 obtain⟨rfl,_⟩|⟨g,e,c,rfl,-,d,-⟩:=h.2
 cases a
 obtain rfl:g=b:=by simpa [Value.ownBlock] using a
 unfold xZ;rw[d]
def ZQ(F:tyP)(a:Nat)(d:D)(nm:Nm)(b:dV)(w:aB)(e:Ending)(w':aB):Prop:=
 e=.returned .nilIface/\∃x c,x∉d.ids/\o7 w' c a (d.wrote nm b x)/\iq F c w w'/\∀q,F q->c q
theorem write_any(F:tyP)(a:Nat)(d:D)(nm:Nm)(u:aX)(l:dV)(w:aB)(h:o7 w F a d)(Z:d.Syn)(b:A7 d.now nm=none)(U:(l.length:Int)<=d.room - d.used)(j:nm.length<=maxLen)
 (L:d.moves.length<=1000000)(O:Held w F (λW=>Bytes W u l))(hl:l.length<=35184372088832)(o:∀x∈d.ids,(d.node x).data.length<=35184372088832)(hnl:d.now.length<=32000):
 Calls prog 140 #[l9 a,bJ nm,u] w (ZQ F a d nm l w):=by
 obtain⟨ua,uc,rfl,huc,FZ,-⟩:=O.get.open;have Y:=ah (Ha F a d nm w h j L);clear h;unfold l9 bJ at *;go_enter func140,ntmps140
 go_wp2_with fail
 refine Y.out.mono ?_;rintro e w1 ⟨x,I,F1,v1,rfl,g,m,H,z⟩;obtain⟨t,d2,K,s,T⟩:=Z.write (b:=l) b I U;rw[K] at g m;obtain rfl:v1=.nilIface:=g.get;have i:t=(d.create nm x).2:=by rw[K]
 have V:∀y∈t.ids,(t.node y).data.length<=35184372088832:=by
  intro y c;rw[i] at c⊢;unfold D.create at c⊢;rw[Z.calm.fails] at c⊢;dsimp only at c⊢;rw[if_neg aZ,b,if_neg<|aZ] at c⊢;show(upd d.node x ⟨[],0⟩ y).data.length<=_;unfold upd;split
  simp
  obtain c|c:=aP.1 (c)
  exact o y c
  simp at c;contradiction
 have Q:t.now.length<=32768:=by
  rw[i];unfold D.create;rw[Z.calm.fails];dsimp only;rw[if_neg aZ,b,if_neg<|aZ];have:(X4 d.now nm x).length<=d.now.length+1:=by unfold X4;split<;>simp
  show(X4 d.now nm x).length<=_;omega
 have k:=FO F1 a t nm _ l w1 m (O.step H) j hl V Q;rw[s] at k;have N:=ah k;clear k K s m i V Q Y g;unfold l9 bJ at N;go_wp2_with fail
 refine N.out.mono ?_;rintro e S ⟨F2,v2,rfl,r,v,C,E⟩;obtain rfl:v2=.nilIface:=r.get;have n:=sn F2 a d2 nm S v j;rw[T] at n;have R:=ah n;have P:=ah<|H.trans C;have M:=ah λq G=>E q<|z q G;clear n v C E r N;unfold l9 bJ at R;go_wp2_with fail
 apply R.out.mono;rintro e w3 ⟨F3,v3,rfl,B,p,X,A⟩;obtain rfl:v3=.nilIface:=B.get;have f:ZQ F a d nm l w _ w3:=⟨rfl,x,F3,I,p,P.out.trans X,λq G=>A q<|M.out q G⟩;clear p X A B R;go_wp2_with fail
 go_ret;exact f
section
variable{w w':World}{F:Nat->Prop}{a m1 m2:Nat}{mv:Value}{gs:List Nat}{dv:Nat->Value}{d:D}
end
end Go.Proofs.YtgpbhjjajpbeeaaGreatDoor
